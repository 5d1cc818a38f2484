/- WbM: a part of the proof. -/
import Derived.Test.YtokmmcflinnfiabWbL
set_option linter.unusedVariables false
set_option linter.unusedSimpArgs false
namespace Go.Wb
open Go

/-! ### Ranges over functions -/
inductive Lp (σ : Type) where
  | go (s : σ)
  | out (c : Code) (s : σ)
def Lp.isGo {σ : Type} : Lp σ → Bool
  | .go _ => true
  | .out _ _ => false

/-- What a loop has: its record, the block of deferred calls, and what its body turns. -/
def LR (l D : Nat) (rec : Loop) (r : Nat → Res) : Res where
  R := fun w H M => M l ∧ M D ∧ w.heap[l]? = some (.loop rec) ∧ w.heap[D]? = some (.deferred (some [])) ∧ ∃ O : Nat → Nat, (∀ b, O b ≠ 0 → M b ∧ b < w.heap.size ∧ b ≠ l ∧ b ≠ D) ∧ ∀ i, (r i).R w H (fun b => O b = Ro i)
  mono := by
    rintro w H M w' H' M' h ⟨h1, h2, h3, h4, O, h5, h6⟩
    obtain ⟨a1, a2⟩ := h.own l (Array.getElem?_eq_some_iff.1 h3).1 h1
    obtain ⟨b1, b2⟩ := h.own D (Array.getElem?_eq_some_iff.1 h4).1 h2
    refine ⟨a1, b1, a2.trans h3, b2.trans h4, O, fun b hb => ?_, fun i => (r i).mono ⟨h.size, h.vis, fun b hlt hb => ⟨hb, ?_⟩⟩ (h6 i)⟩
    · obtain ⟨x1, x2, x3, x4⟩ := h5 b hb
      exact ⟨(h.own b x2 x1).1, Nat.lt_of_lt_of_le x2 h.size, x3, x4⟩
    · obtain ⟨x1, x2, x3, x4⟩ := h5 b (by rw [hb]; exact Ro_pos i)
      exact (h.own b x2 x1).2

/-- Slots that are kept: each may be known twice. -/
def Kept (S : St) : List (Nat × Asrt) → Prop
  | [] => True
  | (t, A) :: L => S.s t = A ∧ Dup A ∧ Kept S L
def slots (L : List (Nat × Asrt)) : Nat → Asrt := upds (fun _ => top) L

theorem kept_slot {C : Ctx} {S : St} {O : Nat → Nat} {a : Act} {w : World} (hh : HoldO C S O a w) : ∀ {L : List (Nat × Asrt)} {s : Nat → Asrt}, Kept S L → (∀ t, (s t).R w (hid C O) none_ (a.tmps.getD t undef)) → ∀ t, (upds s L t).R w (hid C O) none_ (a.tmps.getD t undef)
  | [], s, _, h, t => h t
  | (d, A) :: L, s, ⟨h1, h2, h3⟩, h, t => by
    refine kept_slot hh h3 (fun u => ?_) t
    by_cases e : u = d
    · subst e
      rw [upd_same]
      have := hh.slot u
      rw [h1] at this
      exact h2.dup this
    · rw [upd_other _ _ e]; exact h u

/-- The loop's own variables. -/
def withPs (s : Nat → Asrt) : List Nat → List Asrt → Nat → Asrt
  | p :: ps, A :: As => withPs (upd s p A) ps As
  | _, _ => s
theorem withPs_holds {w : World} {H : HS} {n : Nat} : ∀ {ps : List Nat} {As : List Asrt} {vs : List Value} {s : Nat → Asrt} {T : Array Value}, T.size = n → (∀ p ∈ ps, p < n) → Args w H As vs → (∀ t, (s t).R w H none_ (T.getD t undef)) →
    ((ps.zip vs).foldl (fun t (q : Nat × Value) => t.setIfInBounds q.1 q.2) T).size = n ∧ (As.length = ps.length → ∀ t, (withPs s ps As t).R w H none_ (((ps.zip vs).foldl (fun t (q : Nat × Value) => t.setIfInBounds q.1 q.2) T).getD t undef))
  | [], As, vs, s, T, hn, _, hA, h => ⟨by simpa using hn, fun _ t => by cases As <;> simpa [withPs] using h t⟩
  | p :: ps, [], [], s, T, hn, _, _, h => ⟨by simpa using hn, fun e => by simp at e⟩
  | p :: ps, [], _ :: _, _, _, _, _, hA, _ => hA.elim
  | p :: ps, _ :: _, [], _, _, _, _, hA, _ => hA.elim
  | p :: ps, A :: As, v :: vs, s, T, hn, hp, ⟨h1, h2⟩, h => by
    have hpl := hp p (by simp)
    have := withPs_holds (ps := ps) (As := As) (vs := vs) (s := upd s p A) (T := T.setIfInBounds p v) (n := n) (by simpa using hn) (fun q hq => hp q (by simp [hq])) h2 (fun t => by
      by_cases e : t = p
      · subst e
        rw [upd_same]
        have : (T.setIfInBounds t v).getD t undef = v := by simp [hn, hpl]
        rw [this]; exact h1
      · rw [upd_other _ _ e]
        have : (T.setIfInBounds p v).getD t undef = T.getD t undef := by
          simp only [Array.getD_eq_getD_getElem?, Array.getElem?_setIfInBounds]
          rw [if_neg (fun e' => e e'.symm)]
        rw [this]; exact h t)
    exact ⟨this.1, fun e => this.2 (by simpa using e)⟩

section rangeFunc
variable {C : Ctx} {Q : Exit → St → Prop} {S : St} {σ α : Type}

/-- What yield does, told by the body's function. -/
def GY (enc : α → List Asrt) (F : σ → α → Option (Lp σ)) (L : Lp σ → Res) : List Asrt → Res → Asrt → Res → Prop :=
  fun As R B R' => ∃ s x r, F s x = some r ∧ As = enc x ∧ R = L (.go s) ∧ B = rd kbool r.isGo ∧ R' = L r

def bodyQ (rs : σ → Nat → Res) (rx : Code → σ → Nat → Res) (r : Lp σ) : Exit → St → Prop
  | .normal, S' => ∃ s', r = .go s' ∧ S'.r = rs s'
  | .exit id, S' => ∃ s', r = .out (.exit id) s' ∧ S'.r = rx (.exit id) s'
  | .ret, S' => ∃ s', r = .out .ret s' ∧ S'.r = rx .ret s'
  | _, _ => False

theorem AW.rangeFunc {g : Operand} {ps : Array Tmp} {assign body : Code} {GS : List Asrt → Res → Asrt → Res → Prop} (enc : α → List Asrt) (F : σ → α → Option (Lp σ)) (rs : σ → Nat → Res) (rx : Code → σ → Nat → Res) (L : List (Nat × Asrt)) (K : σ → α → St → Prop) (i0 : Nat) {s0 : σ} {sE : Lp σ}
    (hro : C.ro = none) (hg : Val C S g (fnS C.P GS)) (hk : Kept S L) (hs : S.r = rs s0) (hlen : ∀ x, (enc x).length = ps.size) (hps : ∀ p ∈ ps.toList, p < C.N)
    (hassign : ∀ s x r, F s x = some r → ∀ l w H X, AW ⟨C.P, some l, C.N, w, H, X⟩ assign (fun e S' => e = .normal ∧ K s x S') ⟨withPs (slots L) ps.toList (enc x), rs s, []⟩)
    (hbody : ∀ s x r, F s x = some r → ∀ S1, K s x S1 → ∀ l w H X, AW ⟨C.P, some l, C.N, w, H, X⟩ body (bodyQ rs rx r) S1)
    (hseq : ∀ Lf : Lp σ → Res, ∃ B, GS [fnR C.P (GY enc F Lf)] (Lf (.go s0)) B (Lf sE))
    (hend : ∀ D, match sE with
      | .go s1 => Q .normal ⟨slots L, upd (rs s1) i0 (Dfr D), D :: S.d⟩
      | .out c s1 => AW C c Q ⟨slots L, upd (rx c s1) i0 (Dfr D), D :: S.d⟩) :
    AW C (.rangeFunc g ps assign body) Q S := by
  rintro a w ⟨O, hh⟩
  refine wpIn_rangeFunc ?_
  intro fn hfn
  have hround : C.fen.round = none := hro
  rw [hround]
  obtain ⟨D, hD⟩ : ∃ D, D = w.heap.size := ⟨_, rfl⟩
  obtain ⟨l, hl⟩ : ∃ l, l = w.heap.size + 1 := ⟨_, rfl⟩
  obtain ⟨rec, hrec⟩ : ∃ rec : LoopState → Option Code → Loop, rec = fun st pe => { state := st, pending := pe, fn, tmps := a.tmps, params := ps, assign, body, defers := w.heap.size } := ⟨_, rfl⟩
  obtain ⟨W1, hW1⟩ : ∃ W1, (w.alloc (.deferred (some []))).alloc (.loop (rec .ready none)) = W1 := ⟨_, rfl⟩
  have hlD : l ≠ D := by omega
  have hsz1 : W1.heap.size = w.heap.size + 2 := by rw [← hW1]; simp
  have hL1 : W1.heap[l]? = some (.loop (rec .ready none)) := by
    rw [← hW1, hl]; have := World.alloc_heap_new (w.alloc (.deferred (some []))) (.loop (rec .ready none)); rwa [World.size_alloc] at this
  have hK1 : W1.heap[D]? = some (.deferred (some [])) := by
    rw [← hW1, hD, heap_alloc_old _ _ _ (by simp)]; exact World.alloc_heap_new w _
  have hold1 : ∀ b, b < w.heap.size → W1.heap[b]? = w.heap[b]? := fun b hb => by
    rw [← hW1, heap_alloc_old _ _ _ (by simp; omega), heap_alloc_old _ _ _ hb]
  -- what the loop has, by its state
  let Lf : Lp σ → Res := fun r => match r with
    | .go s => LR l D (rec .ready none) (rs s)
    | .out c s => LR l D (rec .done (some c)) (rx c s)
  let H1 : HS := fun b => hid C O b ∨ b = l ∨ b = D
  let X1 : HS := fun b => (∃ i, O b = Ro i) ∨ b = l ∨ b = D
  have hext1 : Ext w (hid C O) none_ W1 H1 none_ := by
    refine ⟨by omega, fun b hb hn => ⟨?_, hold1 b hb⟩, fun _ _ h => h.elim⟩
    rintro (h | h | h)
    · exact hn h
    · omega
    · omega
  have hH1 : ∀ b, H1 b → b < W1.heap.size := by
    rintro b (h | h | h)
    · have := hh.hid_lt b h; omega
    · omega
    · omega
  have hX1 : ∀ b, X1 b → H1 b ∧ b < W1.heap.size := by
    rintro b (⟨i, h⟩ | h | h)
    · have h0 : O b ≠ 0 := by rw [h]; exact Ro_pos i
      have := (hh.own b h0).2
      exact ⟨.inl (.inr h0), by omega⟩
    · exact ⟨.inr (.inl h), by omega⟩
    · exact ⟨.inr (.inr h), by omega⟩
  obtain ⟨gf, fst, cap, hgv, hge, hgc⟩ := hg.of hh
  obtain ⟨B, hGS⟩ := hseq Lf
  -- the loop's things as it begins
  have hR1 : (Lf (.go s0)).R W1 H1 X1 := by
    classical
    refine ⟨.inr (.inl rfl), .inr (.inr rfl), hL1, hK1, fun b => if ∃ i, O b = Ro i then O b else 0, fun b hb => ?_, fun i => ?_⟩
    · dsimp only at hb
      by_cases e : ∃ i, O b = Ro i
      · rw [if_pos e] at hb
        have := (hh.own b hb).2
        exact ⟨.inl e, by omega, by omega, by omega⟩
      · exact absurd (if_neg e) hb
    · have h1 := hh.res i
      rw [hs] at h1
      refine (rs s0 i).mono ⟨by omega, hext1.vis, fun b hb hm => ⟨?_, hold1 b hb⟩⟩ h1
      show (if ∃ i, O b = Ro i then O b else 0) = Ro i
      rw [if_pos ⟨i, hm⟩]; exact hm
  -- the slots, in whatever the world has become
  have hslot : ∀ t, ((slots L) t).R w (hid C O) none_ (a.tmps.getD t undef) := kept_slot hh hk (fun _ => trivial)
  -- yield
  have hy : (fnR C.P (GY enc F Lf)).R W1 H1 none_ (.func (.yield l) #[] #[]) := by
    refine ⟨rfl, ?_⟩
    rintro w' H' X As R B' R' vs ⟨s, x, r, hF, rfl, rfl, rfl, rfl⟩ hext hH hX hA hR
    obtain ⟨hXl, hXD, hl', hD', Oy, hOy, hry⟩ := hR
    have hll : l < w'.heap.size := (Array.getElem?_eq_some_iff.1 hl').1
    have hargs : vs.length = (enc x).length := by
      have : ∀ {As : List Asrt} {vs : List Value}, Args w' H' As vs → vs.length = As.length := by
        intro As
        induction As with
        | nil => intro vs h; cases vs with | nil => rfl | cons => exact h.elim
        | cons A As ih => intro vs h; cases vs with | nil => exact h.elim | cons v vs => simp [ih h.2]
      exact this hA
    have hrun := run_yield (P := C.P) (args := vs.toArray) hl' (by rw [hrec]; simp [hargs, hlen x])
    rw [hrec] at hrun
    refine .inr ⟨l, fn, _, assign, body, rfl, hrun, fun ro => roundIn_of_wpIn trivial ?_⟩
    -- the assignment
    have hsl : ∀ t, ((slots L) t).R w' H' none_ (a.tmps.getD t undef) := fun t => ((slots L) t).mono (hext1.trans hext) (hslot t)
    obtain ⟨hn0, hps0⟩ := withPs_holds (n := C.N) (ps := ps.toList) (As := enc x) (vs := vs) (s := slots L) (T := a.tmps) hh.n hps hA hsl
    have hps1 := hps0 (by simpa using hlen x)
    have hfold : (ps.zip vs.toArray).foldl (fun tmps (q : Nat × Value) => tmps.setIfInBounds q.1 q.2) a.tmps = (ps.toList.zip vs).foldl (fun t (q : Nat × Value) => t.setIfInBounds q.1 q.2) a.tmps := by
      rw [← Array.foldl_toList]; simp
    let Ca : Ctx := ⟨C.P, some l, C.N, w', H', fun b => Oy b ≠ 0⟩
    have hvy : Ext w' H' none_ w' (hid Ca Oy) none_ := ⟨Nat.le_refl _, fun b _ hn => ⟨by
      rintro (h | h)
      · exact hn h
      · exact hn (hX b (hOy b h).1).1, rfl⟩, fun _ _ h => h.elim⟩
    have hca : HoldO Ca ⟨withPs (slots L) ps.toList (enc x), rs s, []⟩ Oy { tmps := (ps.toList.zip vs).foldl (fun t (q : Nat × Value) => t.setIfInBounds q.1 q.2) a.tmps, defers := [] } w' :=
      ⟨hH, rfl, rfl, rfl, Nat.le_refl _, fun _ _ _ => rfl, fun b hb => ⟨.inr hb, (hOy b hb).2.1⟩, rfl, hn0, fun t => (withPs (slots L) ps.toList (enc x) t).mono Ext.any ((withPs (slots L) ps.toList (enc x) t).mono hvy (hps1 t)),
       fun i => (rs s i).mono ⟨Nat.le_refl _, hvy.vis, fun b _ hb => ⟨hb, rfl⟩⟩ (hry i)⟩
    have has := hassign s x r hF l w' H' (fun b => Oy b ≠ 0) _ w' ⟨Oy, hca⟩
    have hgoal : assign.wpIn Ca.fen 0 C.P (fun e a' w' => ∃ S', (e = .normal ∧ K s x S') ∧ Hold Ca S' a' w') { tmps := (ps.zip vs.toArray).foldl (fun tmps (q : Nat × Value) => tmps.setIfInBounds q.1 q.2) a.tmps, defers := [] } w' := by rw [hfold]; exact has
    refine wpIn_mono hgoal ?_
    rintro e a1 w1 ⟨S1, ⟨rfl, hK⟩, O1, h1⟩
    have hXl0 : ¬ Oy l ≠ 0 := fun h => (hOy l h).2.2.1 rfl
    have hXD0 : ¬ Oy D ≠ 0 := fun h => (hOy D h).2.2.2 rfl
    have hDl : D < w'.heap.size := (Array.getElem?_eq_some_iff.1 hD').1
    have hl1 : w1.heap[l]? = some (.loop (rec .ready none)) := (h1.old l hll hXl0).trans hl'
    have hD1 : w1.heap[D]? = some (.deferred (some [])) := (h1.old D hDl hXD0).trans hD'
    have hO1l : O1 l = 0 := Classical.byContradiction fun h => by
      have h5 : w'.heap.size ≤ l ∨ Oy l ≠ 0 := (h1.own l h).1
      rcases h5 with h5 | h5
      · omega
      · exact hXl0 h5
    have hO1D : O1 D = 0 := Classical.byContradiction fun h => by
      have h5 : w'.heap.size ≤ D ∨ Oy D ≠ 0 := (h1.own D h).1
      rcases h5 with h5 | h5
      · omega
      · exact hXD0 h5
    have hH'l : H' l := (hX l hXl).1
    have hH'D : H' D := (hX D hXD).1
    refine ⟨_, run_beginRound hl1 (by rw [hrec]), ?_⟩
    -- the body
    let w2 := w1.putObj l (.loop { rec .ready none with state := .busy })
    let Cb : Ctx := ⟨C.P, some l, C.N, w2, hid Ca O1, fun b => O1 b ≠ 0⟩
    have hl1lt : l < w1.heap.size := (Array.getElem?_eq_some_iff.1 hl1).1
    have hsz2 : w2.heap.size = w1.heap.size := World.putObj_size
    have he2 : ∀ M : HS, ¬ M l → Ext w1 (hid Ca O1) M w2 (hid Cb O1) M := fun M hM => ⟨by omega, fun b _ hn => ⟨by
      rintro (h | h)
      · exact hn h
      · exact hn (.inr h), World.putObj_heap_other (fun e => hn (.inl (e ▸ hH'l)))⟩, fun b _ hb => ⟨hb, World.putObj_heap_other (fun e => hM (e ▸ hb))⟩⟩
    have hcb : HoldO Cb S1 O1 a1 w2 :=
      ⟨fun b hb => by have := h1.hid_lt b hb; show b < w2.heap.size; omega, rfl, rfl, rfl, Nat.le_refl _, fun _ _ _ => rfl, fun b hb => ⟨.inr hb, by have := (h1.own b hb).2; omega⟩, h1.dfr, h1.n,
       fun t => (S1.s t).mono (he2 _ (by show ¬ O1 l = So t; rw [hO1l]; exact fun h => So_pos t h.symm)) (h1.slot t), fun i => (S1.r i).mono (he2 _ (by show ¬ O1 l = Ro i; rw [hO1l]; exact fun h => Ro_pos i h.symm)) (h1.res i)⟩
    refine wpIn_mono (hbody s x r hF S1 hK l w2 (hid Ca O1) (fun b => O1 b ≠ 0) a1 w2 ⟨O1, hcb⟩) ?_
    rintro e a3 w3 ⟨S3, hq, O3, h3⟩
    have hl2 : w2.heap[l]? = some (.loop { rec .ready none with state := .busy }) := World.putObj_heap_same hl1lt
    have hl3 : w3.heap[l]? = some (.loop { rec .ready none with state := .busy }) := (h3.old l (by show l < w2.heap.size; omega) (fun h => h hO1l)).trans hl2
    have hD3 : w3.heap[D]? = some (.deferred (some [])) := (h3.old D (by show D < w2.heap.size; have := h1.size; omega) (fun h => h hO1D)).trans ((World.putObj_heap_other (fun e => hlD e.symm)).trans hD1)
    have hl3lt : l < w3.heap.size := (Array.getElem?_eq_some_iff.1 hl3).1
    have hO3 : ∀ b, O3 b ≠ 0 → (X b ∨ w'.heap.size ≤ b) ∧ b < w3.heap.size ∧ b ≠ l ∧ b ≠ D := fun b hb => by
      have h5 : w2.heap.size ≤ b ∨ O1 b ≠ 0 := (h3.own b hb).1
      have h6 := (h3.own b hb).2
      have h7 : w'.heap.size ≤ w1.heap.size := h1.size
      rcases h5 with h5 | h5
      · exact ⟨.inr (by omega), h6, by omega, by omega⟩
      · have h8 : w'.heap.size ≤ b ∨ Oy b ≠ 0 := (h1.own b h5).1
        refine ⟨?_, h6, fun e => h5 (e ▸ hO1l), fun e => h5 (e ▸ hO1D)⟩
        rcases h8 with h8 | h8
        · exact .inr h8
        · exact .inl (hOy b h8).1
    -- how it ends
    have fin : ∀ (jump : Option Code) (rr : Nat → Res), S3.r = rr → ∃ v w4, (Instr.endRound l jump).run C.P w3 = .ok v w4 ∧ v = .bool jump.isNone ∧
        Fin w' X w4 (fun b => O3 b ≠ 0 ∨ b = l ∨ b = D) ∧ (LR l D (rec (if jump.isNone then .ready else .done) jump) rr).R w4 (join H' (fun b => O3 b ≠ 0 ∨ b = l ∨ b = D)) (fun b => O3 b ≠ 0 ∨ b = l ∨ b = D) := by
      intro jump rr hrr
      have hr4 := run_endRound (P := C.P) jump hl3
      refine ⟨_, _, hr4, rfl, ⟨h3.os.trans h1.os, h3.tape.trans h1.tape, h3.output.trans h1.output, ?_, fun b hb hnx => ?_, fun b hb => ?_⟩, ?_⟩
      · have h3s : w2.heap.size ≤ w3.heap.size := h3.size
        have h1s : w'.heap.size ≤ w1.heap.size := h1.size
        simp only [World.putObj_size]; show w'.heap.size ≤ w3.heap.size; omega
      · have hbl : b ≠ l := fun e => hnx (e ▸ hXl)
        have hO1b : ¬ O1 b ≠ 0 := fun h => by
          have h8 : w'.heap.size ≤ b ∨ Oy b ≠ 0 := (h1.own b h).1
          rcases h8 with h8 | h8
          · omega
          · exact hnx (hOy b h8).1
        have hblt : b < w2.heap.size := by have e : Ca.w0.heap.size = w'.heap.size := rfl; have := h1.size; omega
        rw [World.putObj_heap_other hbl, h3.old b hblt hO1b]
        show w2.heap[b]? = _
        rw [World.putObj_heap_other hbl]
        exact h1.old b hb (fun h => hnx (hOy b h).1)
      · simp only [World.putObj_size]
        rcases hb with hb | hb | hb
        · exact ⟨(hO3 b hb).1, (hO3 b hb).2.1⟩
        · exact ⟨.inl (hb ▸ hXl), hb ▸ hl3lt⟩
        · exact ⟨.inl (hb ▸ hXD), hb ▸ (Array.getElem?_eq_some_iff.1 hD3).1⟩
      · refine ⟨.inr (.inl rfl), .inr (.inr rfl), ?_, (World.putObj_heap_other (fun e => hlD e.symm)).trans hD3, O3, fun b hb => ⟨.inl hb, by simp only [World.putObj_size]; exact (hO3 b hb).2.1, (hO3 b hb).2.2⟩, fun i => ?_⟩
        · rw [World.putObj_heap_same hl3lt, hrec]
        · have h9 := h3.res i
          rw [hrr] at h9
          refine (rr i).mono ⟨by simp, fun b _ hn => ⟨?_, ?_⟩, fun b _ hb => ⟨hb, ?_⟩⟩ h9
          · rintro (h | h | h | h)
            · exact hn (.inl (.inl h))
            · exact hn (.inr h)
            · exact hn (.inl (.inl (h ▸ hH'l)))
            · exact hn (.inl (.inl (h ▸ hH'D)))
          · exact World.putObj_heap_other (fun e => hn (.inl (.inl (e ▸ hH'l))))
          · have : O3 b ≠ 0 := by rw [hb]; exact Ro_pos i
            exact World.putObj_heap_other (hO3 b this).2.2.1
    cases e with
    | normal =>
      obtain ⟨s', rfl, hrr⟩ := hq
      obtain ⟨v, w4, h4, rfl, h5, h6⟩ := fin none _ hrr
      exact ⟨_, w4, h4, _, _, rfl, h5, bool_rd, h6⟩
    | exit id =>
      obtain ⟨s', rfl, hrr⟩ := hq
      obtain ⟨v, w4, h4, rfl, h5, h6⟩ := fin (some (.exit id)) _ hrr
      exact ⟨_, w4, h4, _, _, rfl, h5, bool_rd, h6⟩
    | ret =>
      obtain ⟨s', rfl, hrr⟩ := hq
      obtain ⟨v, w4, h4, rfl, h5, h6⟩ := fin (some .ret) _ hrr
      exact ⟨_, w4, h4, _, _, rfl, h5, bool_rd, h6⟩
    | goto t => exact hq.elim
    | panic ch => exact hq.elim
    | outgrown => exact hq.elim
  refine ⟨l, [{ target := .collected D, args := #[] }], W1, { target := .fn (.func gf) cap, args := fst ++ #[.func (.yield l) #[] #[]] }, W1, gf, fst ++ #[.func (.yield l) #[] #[]] ++ cap, W1, ?_, ?_, fun _ _ => trivial, ?_, fun h => by simp [Ctx.fen, Fence.wide] at h, ?_⟩
  · rw [← hW1, hrec, hl, hD]; exact run_enterLoop_outer _ _ _ _ _
  · simp only [resolve, hgv, Deferred.ofValue, Sem.run_pure]
    simp [Act.eval]
  · simp only [invoke]; exact hge _ _
  · refine callsIn_fen ((hgc W1 H1 X1 _ _ _ _ [.func (.yield l) #[] #[]] hGS hext1 hH1 hX1 ⟨hy, trivial⟩ hR1).mono ?_)
    rintro e w2 ⟨u, X2, rfl, hf, _, hR2⟩
    -- the state behind the loop
    have back : ∀ (rec2 : Loop) (rr : Nat → Res), (LR l D rec2 rr).R w2 (join H1 X2) X2 → ∀ ob : Obj,
        Hold C ⟨slots L, upd rr i0 (Dfr D), D :: S.d⟩ { a with defers := [{ target := .collected D, args := #[] }] ++ a.defers } (w2.putObj l ob) := by
      rintro rec2 rr ⟨hx1, hx2, hl2, hD2, O2, hO2, hr2⟩ ob
      have hfs : W1.heap.size ≤ w2.heap.size := hf.size
      have hX2 : ∀ b, X2 b → (∃ i, O b = Ro i) ∨ w.heap.size ≤ b := fun b hb => by
        rcases (hf.own b hb).1 with h | h
        · rcases h with h | h | h
          · exact .inl h
          · right; omega
          · right; omega
        · right; omega
      have hO3 : ∀ b, (if b = D then Ro i0 else O2 b) ≠ 0 → b = D ∨ (O2 b ≠ 0) := fun b h => by
        by_cases e : b = D
        · exact .inl e
        · rw [if_neg e] at h; exact .inr h
      have hext : Ext w (hid C O) none_ (w2.putObj l ob) (hid C (fun b => if b = D then Ro i0 else O2 b)) none_ := by
        refine ⟨by simp only [World.putObj_size]; omega, fun b hb hn => ⟨?_, ?_⟩, fun _ _ h => h.elim⟩
        · rintro (h | h)
          · exact hn (.inl h)
          · rcases hO3 b h with h | h
            · omega
            · rcases hX2 b (hO2 b h).1 with ⟨i, h'⟩ | h'
              · exact hn (.inr (by rw [h']; exact Ro_pos i))
              · omega
        · rw [World.putObj_heap_other (by omega), hf.same b (by omega) ?_, hold1 b hb]
          rintro (⟨i, h⟩ | h | h)
          · exact hn (.inr (by rw [h]; exact Ro_pos i))
          · omega
          · omega
      refine ⟨fun b => if b = D then Ro i0 else O2 b, hh.h0, ?_, ?_, ?_, ?_, fun b hb hnx => ?_, fun b hb => ?_, ?_, hh.n, fun t => ?_, fun i => ?_⟩
      · show w2.os = _; rw [hf.os, ← hW1]; exact hh.os
      · show w2.tape = _; rw [hf.tape, ← hW1]; exact hh.tape
      · show w2.output = _; rw [hf.output, ← hW1]; exact hh.output
      · simp only [World.putObj_size]; have := hh.size; omega
      · have hbw : b < w.heap.size := Nat.lt_of_lt_of_le hb hh.size
        rw [World.putObj_heap_other (by omega), hf.same b (by omega) ?_, hold1 b hbw]
        · exact hh.old b hb hnx
        · rintro (⟨i, h⟩ | h | h)
          · rcases (hh.own b (by rw [h]; exact Ro_pos i)).1 with h' | h'
            · omega
            · exact hnx h'
          · omega
          · omega
      · simp only [World.putObj_size]
        have hs0 := hh.size
        rcases hO3 b hb with h | h
        · exact ⟨.inl (by omega), by omega⟩
        · refine ⟨?_, (hO2 b h).2.1⟩
          rcases hX2 b (hO2 b h).1 with ⟨i, h'⟩ | h'
          · exact (hh.own b (by rw [h']; exact Ro_pos i)).1
          · exact .inl (by omega)
      · show [_] ++ a.defers = marks (D :: S.d)
        rw [hh.dfr]; rfl
      · exact ((slots L) t).mono Ext.any (((slots L) t).mono hext (hslot t))
      · have hview : Ext w2 (join H1 X2) none_ (w2.putObj l ob) (hid C (fun b => if b = D then Ro i0 else O2 b)) none_ := by
          refine ⟨by simp, fun b _ hn => ⟨?_, World.putObj_heap_other (fun e => hn (.inl (.inr (.inl e))))⟩, fun _ _ h => h.elim⟩
          rintro (h | h)
          · exact hn (.inl (.inl (.inl h)))
          · rcases hO3 b h with h | h
            · exact hn (.inl (.inr (.inr h)))
            · exact hn (.inr (hO2 b h).1)
        show (upd rr i0 (Dfr D) i).R _ _ _
        by_cases e : i = i0
        · subst e
          rw [upd_same]
          exact ⟨if_pos rfl, (World.putObj_heap_other (fun e => hlD e.symm)).trans hD2⟩
        · rw [upd_other _ _ e]
          refine (rr i).mono ⟨hview.size, hview.vis, fun b _ hb => ?_⟩ (hr2 i)
          have h0 : O2 b ≠ 0 := by rw [hb]; exact Ro_pos i
          have hbD := (hO2 b h0).2.2.2
          exact ⟨(if_neg hbD).trans hb, World.putObj_heap_other (hO2 b h0).2.2.1⟩
    cases sE with
    | go s1 =>
      have hl2 : w2.heap[l]? = some (.loop (rec .ready none)) := hR2.2.2.1
      exact ⟨none, _, by have := run_endLoop (P := C.P) hl2 (by rw [hrec]; simp); rw [hrec] at this; exact this, _, hend D, back _ _ hR2 _⟩
    | out c s1 =>
      have hl2 : w2.heap[l]? = some (.loop (rec .done (some c))) := hR2.2.2.1
      exact ⟨some c, _, by have := run_endLoop (P := C.P) hl2 (by rw [hrec]; simp); rw [hrec] at this; exact this, hend D _ _ (back _ _ hR2 _)⟩
end rangeFunc
end Go.Wb
