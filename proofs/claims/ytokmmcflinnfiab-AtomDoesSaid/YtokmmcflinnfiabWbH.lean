/- WbH: a part of the proof. -/
import Derived.Test.YtokmmcflinnfiabWbG
import Derived.OrdersIn
set_option linter.unusedVariables false
set_option linter.unusedSimpArgs false
namespace Go.Wb
open Go

/-! ### Guards -/
/-- An operation, or its being left out, from one state to another. -/
def OpG (C : Ctx) (ops : Array Oper) (o : Oper) (S S' : St) : Prop :=
  ∀ a w, Hold C S a w → if Region.wanted o (yielded ops a.tmps) then o.wpIn C.fen 0 C.P a w (fun a' w' => Hold C S' a' w') (fun _ _ _ => False) else Hold C S' (a.put o.dst undef) w

section guards
variable {C : Ctx} {ops : Array Oper} {Q : Exit → St → Prop} {S S' : St} {o : Oper}

theorem OpG.of (hg : o.guard = none) (h : OpE C o S S') : OpG C ops o S S' := fun a w hh => by
  rw [if_pos (wanted_none hg)]
  exact ⟨(h a w hh).1, Oper.uponIn_mono (fun a' w' ⟨S'', h1, h2⟩ => h1 ▸ h2) (fun _ _ _ h => h) _ (h a w hh).2⟩

/-- The slot of the operation that guards. -/
theorem OpG.guard {A : Asrt} {j gt : Nat} {b want : Bool} (hg : o.guard = some (j, want)) (hj : (ops[j]?).bind (·.dst) = some gt) (hn : Nat.blt gt C.N = true) (hb : S.s gt = rd kbool b) (hd : dok o C.N = true)
    (h : (b == want) = true → OpE C o S (S.put o.dst A)) : OpG C ops o S (S.put o.dst (gd (b == want) A)) := by
  rintro a w ⟨O, hh⟩
  have h1 := rd_bool ((vt hb).of hh)
  have hlt : gt < a.tmps.size := by rw [hh.n]; simpa using hn
  have hy : yielded ops a.tmps j = some b := by
    have h1' : a.tmps[gt]?.getD undef = .bool b := by simpa [Act.eval] using h1
    simp only [yielded, hj, Option.bind_some]
    rw [Array.getElem?_eq_getElem hlt] at h1' ⊢
    simp only [Option.getD_some] at h1'
    rw [h1']
  have hw : Region.wanted o (yielded ops a.tmps) = (b == want) := by
    simp only [Region.wanted, hg, hy]
    cases b <;> cases want <;> rfl
  rw [hw]
  cases hq : (b == want) with
  | true =>
    simp only [if_true]
    have h2 := h hq a w ⟨O, hh⟩
    refine ⟨h2.1, Oper.uponIn_mono (fun a' w' hx => ?_) (fun _ _ _ h => h) _ h2.2⟩
    obtain ⟨S'', rfl, O', h4⟩ := hx
    refine ⟨O', { h4 with slot := fun t => ?_, res := fun i => by have h5 := h4.res i; cases hdst : o.dst <;> rw [hdst] at h5 <;> exact h5, dfr := by have h5 := h4.dfr; cases hdst : o.dst <;> rw [hdst] at h5 <;> exact h5 }⟩
    cases hdst : o.dst with
    | none => have := h4.slot t; rw [hdst] at this; exact this
    | some d =>
      have h5 := h4.slot t
      rw [hdst] at h5
      by_cases e : t = d
      · subst e
        simp only [St.put, St.set, upd_same] at h5 ⊢
        exact fun _ => h5
      · simp only [St.put, St.set] at h5 ⊢
        rw [upd_other _ _ e] at h5 ⊢
        exact h5
  | false =>
    simp only [Bool.false_eq_true, if_false]
    exact ⟨O, hh.yield_same (dok_lt hd) (fun h => by cases h)⟩

theorem AOps.consG {l : List Oper} (h : OpG C ops o S S') (hK : AOps C ops Q l S') : AOps C ops Q (o :: l) S := by
  intro a w hh
  have h1 := h a w hh
  simp only [wpL]
  split
  · rename_i hw
    rw [if_pos hw] at h1
    exact ⟨h1.1, Oper.uponIn_mono (fun a' w' h2 => hK a' w' h2) (fun _ _ _ h => h.elim) _ h1.2⟩
  · rename_i hw
    rw [if_neg hw] at h1
    exact hK _ _ h1

/-- What is known if t, where t holds. -/
theorem vgt {t : Nat} {b : Bool} {A : Asrt} [Dup A] (h : S.s t = gd b A) (hb : b = true) : Val C S (.tmp t) A := fun O a w hh => by
  have := hh.slot t
  rw [h] at this
  exact Dup.dup (this hb)
end guards

/-! ### Regions in any order -/
structure Stp where
  rs : List Nat
  rr : List Nat
  us : List (Nat × Asrt)
  ur : List (Nat × Res)

def upds {α : Type} (s : Nat → α) : List (Nat × α) → Nat → α
  | [] => s
  | (d, x) :: l => upds (upd s d x) l
def St.ap (S : St) (p : Stp) : St := ⟨upds S.s p.us, upds S.r p.ur, S.d⟩

/-- What a step looks at, and what it turns: slots, resources. -/
structure Mt where
  rs : List Nat
  us : List Nat
  rr : List Nat
  ur : List Nat
structure Stp.has (p : Stp) (m : Mt) : Prop where
  rs : p.rs = m.rs
  us : p.us.map (·.1) = m.us
  rr : p.rr = m.rr
  ur : p.ur.map (·.1) = m.ur
def disj (a b : List Nat) : Bool := a.all fun x => b.all fun y => !Nat.beq x y
def Mt.apart (m n : Mt) : Bool := disj m.us n.rs && disj m.us n.us && disj m.rs n.us && disj m.ur n.rr && disj m.ur n.ur && disj m.rr n.ur

theorem disj_spec {a b : List Nat} (h : disj a b = true) : ∀ x ∈ a, ∀ y ∈ b, x ≠ y := fun x hx y hy e => by
  subst e
  have := List.all_eq_true.1 (List.all_eq_true.1 h x hx) x hy
  simp at this

theorem upds_notin {α : Type} : ∀ (l : List (Nat × α)) (s : Nat → α) (t : Nat), (∀ x ∈ l.map (·.1), x ≠ t) → upds s l t = s t
  | [], _, _, _ => rfl
  | (d, x) :: l, s, t, h => by
    simp only [upds]
    rw [upds_notin l _ t (fun y hy => h y (by simp at hy ⊢; exact .inr hy)), upd_other _ _ (fun e => h d (by simp) e.symm)]
theorem upds_in {α : Type} : ∀ (l : List (Nat × α)) (s s' : Nat → α) (t : Nat), (∃ x ∈ l.map (·.1), x = t) → upds s l t = upds s' l t
  | [], _, _, _, h => by simp at h
  | (d, x) :: l, s, s', t, h => by
    simp only [upds]
    by_cases h' : ∃ y ∈ l.map (·.1), y = t
    · exact upds_in l _ _ t h'
    · have hno : ∀ y ∈ l.map (·.1), y ≠ t := fun y hy e => h' ⟨y, hy, e⟩
      rw [upds_notin l _ t hno, upds_notin l _ t hno]
      obtain ⟨y, hy, rfl⟩ := h
      have : y = d := by
        simp at hy
        rcases hy with rfl | hy
        · rfl
        · exact absurd rfl (hno y (by simpa using hy))
      subst this
      rw [upd_same, upd_same]
theorem upds_comm {α : Type} (l m : List (Nat × α)) (s : Nat → α) (h : ∀ x ∈ l.map (·.1), ∀ y ∈ m.map (·.1), x ≠ y) : upds (upds s l) m = upds (upds s m) l := by
  funext t
  by_cases hm : ∃ y ∈ m.map (·.1), y = t
  · have hl : ∀ x ∈ l.map (·.1), x ≠ t := fun x hx e => by
      obtain ⟨y, hy, e'⟩ := hm
      exact h x hx y hy (e.trans e'.symm)
    rw [upds_notin l _ t hl, upds_in m _ s t hm]
  · have hm' : ∀ y ∈ m.map (·.1), y ≠ t := fun y hy e => hm ⟨y, hy, e⟩
    rw [upds_notin m _ t hm']
    by_cases hl : ∃ x ∈ l.map (·.1), x = t
    · exact upds_in l _ _ t hl
    · have hl' : ∀ y ∈ l.map (·.1), y ≠ t := fun y hy e => hl ⟨y, hy, e⟩
      rw [upds_notin l _ t hl', upds_notin l _ t hl', upds_notin m _ t hm']

section any
variable {C : Ctx} {ops : Array Oper} {md : Region.Mode} {tb : List Mt}

def Loc (C : Ctx) (ops : Array Oper) (o : Oper) (S : St) (p : Stp) : Prop :=
  ∀ S' : St, S'.d = S.d → (∀ t, p.rs.contains t = true → S'.s t = S.s t) → (∀ i, p.rr.contains i = true → S'.r i = S.r i) → OpG C ops o S' (S'.ap p)

def anyA (C : Ctx) (md : Region.Mode) (ops : Array Oper) (tb : List Mt) (Q : St → Prop) : Nat → Array Bool → St → Prop
  | 0, listed, S => Region.ready md ops listed = [] ∧ Q S
  | fuel + 1, listed, S => (Region.ready md ops listed = [] → Q S) ∧
    ∀ i ∈ Region.ready md ops listed, ∃ o m p, ops[i]? = some o ∧ tb[i]? = some m ∧ Stp.has p m ∧ Loc C ops o S p ∧ anyA C md ops tb Q fuel (listed.setIfInBounds i true) (S.ap p)

theorem wpAny_of_anyA {Q : St → Prop} {Q' : Exit → Act → World → Prop} (hQ : ∀ S a w, Q S → Hold C S a w → Q' .normal a w) : ∀ (fuel : Nat) (listed : Array Bool) (S : St) (a : Act) (w : World), Hold C S a w →
    anyA C md ops tb Q fuel listed S → wpAnyIn C.fen 0 C.P md ops Q' fuel listed a w
  | 0, _, S, _, _, hh, h => ⟨h.1, hQ _ _ _ h.2 hh⟩
  | fuel + 1, _, S, a, w, hh, h => ⟨fun h0 => hQ _ _ _ (h.1 h0) hh, fun i hi => by
      obtain ⟨o, m, p, ho, _, _, hl, hn⟩ := h.2 i hi
      have hg := hl S rfl (fun _ _ => rfl) (fun _ _ => rfl) a w hh
      unfold wpOpIn
      simp only [ho]
      split
      · rename_i hw
        rw [if_pos hw] at hg
        exact ⟨hg.1, Oper.uponIn_mono (fun a' w' hh' => wpAny_of_anyA hQ fuel _ _ a' w' hh' hn) (fun _ _ _ h => h.elim) _ hg.2⟩
      · rename_i hw
        rw [if_neg hw] at hg
        exact ⟨fun _ _ => trivial, wpAny_of_anyA hQ fuel _ _ _ _ hg hn⟩⟩

theorem Loc.move {o : Oper} {S : St} {p q : Stp} {m n : Mt} (hp : p.has m) (hq : q.has n) (h : m.apart n = true) (hl : Loc C ops o S p) : Loc C ops o (S.ap q) p := by
  simp only [Mt.apart, Bool.and_eq_true] at h
  obtain ⟨⟨⟨⟨⟨h1, h2⟩, h3⟩, h4⟩, h5⟩, h6⟩ := h
  intro S' hd hs hr
  refine hl S' hd (fun t ht => ?_) (fun i hi => ?_)
  · rw [hs t ht]
    refine upds_notin _ _ _ fun x hx e => ?_
    subst e
    exact disj_spec h3 _ (by rw [← hp.rs]; simpa using ht) _ (by rw [← hq.us]; exact hx) rfl
  · rw [hr i hi]
    refine upds_notin _ _ _ fun x hx e => ?_
    subst e
    exact disj_spec h6 _ (by rw [← hp.rr]; simpa using hi) _ (by rw [← hq.ur]; exact hx) rfl
theorem Loc.back {o : Oper} {S : St} {p q : Stp} {m n : Mt} (hp : p.has m) (hq : q.has n) (h : m.apart n = true) (hl : Loc C ops o (S.ap q) p) : Loc C ops o S p := by
  simp only [Mt.apart, Bool.and_eq_true] at h
  obtain ⟨⟨⟨⟨⟨h1, h2⟩, h3⟩, h4⟩, h5⟩, h6⟩ := h
  intro S' hd hs hr
  refine hl S' hd (fun t ht => ?_) (fun i hi => ?_)
  · rw [hs t ht]
    refine (upds_notin _ _ _ fun x hx e => ?_).symm
    subst e
    exact disj_spec h3 _ (by rw [← hp.rs]; simpa using ht) _ (by rw [← hq.us]; exact hx) rfl
  · rw [hr i hi]
    refine (upds_notin _ _ _ fun x hx e => ?_).symm
    subst e
    exact disj_spec h6 _ (by rw [← hp.rr]; simpa using hi) _ (by rw [← hq.ur]; exact hx) rfl
theorem disj_symm {a b : List Nat} (h : disj a b = true) : disj b a = true := by
  refine List.all_eq_true.2 fun x hx => List.all_eq_true.2 fun y hy => ?_
  have := disj_spec h y hy x hx
  cases e : Nat.beq x y with
  | false => rfl
  | true => exact absurd (Nat.eq_of_beq_eq_true e).symm this
theorem Mt.apart_symm {m n : Mt} (h : m.apart n = true) : n.apart m = true := by
  simp only [Mt.apart, Bool.and_eq_true] at h ⊢
  obtain ⟨⟨⟨⟨⟨h1, h2⟩, h3⟩, h4⟩, h5⟩, h6⟩ := h
  exact ⟨⟨⟨⟨⟨disj_symm h3, disj_symm h2⟩, disj_symm h1⟩, disj_symm h6⟩, disj_symm h5⟩, disj_symm h4⟩
theorem ap_comm {S : St} {p q : Stp} {m n : Mt} (hp : p.has m) (hq : q.has n) (h : m.apart n = true) : (S.ap p).ap q = (S.ap q).ap p := by
  simp only [Mt.apart, Bool.and_eq_true] at h
  obtain ⟨⟨⟨⟨⟨h1, h2⟩, h3⟩, h4⟩, h5⟩, h6⟩ := h
  simp only [St.ap]
  rw [upds_comm p.us q.us _ (by rw [hp.us, hq.us]; exact disj_spec h2), upds_comm p.ur q.ur _ (by rw [hp.ur, hq.ur]; exact disj_spec h5)]

theorem anyA_first {Q : St → Prop} {i : Nat} {oi : Oper} {mi : Mt} {pi : Stp} (hi : ops[i]? = some oi) (hm : tb[i]? = some mi) (hp : pi.has mi) :
    ∀ (fuel : Nat) (listed : Array Bool) (S : St),
      (∀ j oj mj, ops[j]? = some oj → tb[j]? = some mj → j ≠ i → listed.getD j true = false → (∀ e ∈ oj.after, Region.binds md e = true → e.on ≠ i) → mi.apart mj = true) →
      i ∈ Region.ready md ops listed → Loc C ops oi S pi →
      anyA C md ops tb Q fuel (listed.setIfInBounds i true) (S.ap pi) → anyA C md ops tb Q (fuel + 1) listed S := by
  intro fuel
  induction fuel with
  | zero =>
    intro listed S _ hr hy H
    refine ⟨fun h => (by rw [h] at hr; cases hr), fun j hj => ?_⟩
    by_cases hji : j = i
    · subst hji; exact ⟨oi, mi, pi, hi, hm, hp, hy, H⟩
    · have := ready_mono hj hji
      rw [H.1] at this
      cases this
  | succ fuel ih =>
    intro listed S hfree hr hy H
    refine ⟨fun h => (by rw [h] at hr; cases hr), fun j hj => ?_⟩
    by_cases hji : j = i
    · subst hji; exact ⟨oi, mi, pi, hi, hm, hp, hy, H⟩
    · obtain ⟨oj, mj, pj, hoj, hmj, hpj, hlj, hnj⟩ := H.2 j (ready_mono hj hji)
      obtain ⟨hjun, oj', hoj', hall⟩ := mem_ready.1 hj
      obtain rfl : oj = oj' := by rw [hoj] at hoj'; exact Option.some.inj hoj'
      have hnot : ∀ e ∈ oj.after, Region.binds md e = true → e.on ≠ i := fun e he hb heq => by
        have h1 := hall e he hb
        have h0 := (mem_ready.1 hr).1
        rw [heq] at h1
        rcases Nat.lt_or_ge i listed.size with h' | h'
        · simp [h'] at h0 h1; rw [h0] at h1; cases h1
        · simp [Array.getElem?_eq_none h'] at h1
      have hap := hfree j oj mj hoj hmj hji hjun hnot
      refine ⟨oj, mj, pj, hoj, hmj, hpj, Loc.back hpj hp (Mt.apart_symm hap) hlj, ?_⟩
      have hfree' : ∀ k ok mk, ops[k]? = some ok → tb[k]? = some mk → k ≠ i → (listed.setIfInBounds j true).getD k true = false →
          (∀ e ∈ ok.after, Region.binds md e = true → e.on ≠ i) → mi.apart mk = true := fun k ok mk hk hmk hki hun hno => by
        refine hfree k ok mk hk hmk hki ?_ hno
        by_cases hjk : j = k
        · subst hjk; exact hjun
        · rw [getD_set_ne true hjk] at hun; exact hun
      refine ih (listed.setIfInBounds j true) (S.ap pj) hfree' (ready_mono hr (Ne.symm hji)) (Loc.move hp hpj hap hy) ?_
      rw [ap_comm hpj hp (Mt.apart_symm hap), Array.setIfInBounds_comm _ _ hji]
      exact hnj

/-- Whoever has not come up yet and does not wait for number i is apart from it. -/
def freeA (md : Region.Mode) (ops : Array Oper) (tb : List Mt) (listed : Array Bool) (i : Nat) (mi : Mt) : Bool :=
  (List.range ops.size).all fun j => Nat.beq j i || listed.getD j true || (match ops[j]?, tb[j]? with
    | some oj, some mj => oj.after.any (fun e => Region.binds md e && Nat.beq e.on i) || mi.apart mj
    | _, _ => true)
theorem freeA_spec {i : Nat} {mi : Mt} {listed : Array Bool} (h : freeA md ops tb listed i mi = true) : ∀ j oj mj, ops[j]? = some oj → tb[j]? = some mj → j ≠ i → listed.getD j true = false → (∀ e ∈ oj.after, Region.binds md e = true → e.on ≠ i) → mi.apart mj = true := by
  intro j oj mj hj hmj hne hun hno
  have hlt : j < ops.size := (Array.getElem?_eq_some_iff.1 hj).1
  have h1 := List.all_eq_true.1 h j (List.mem_range.2 hlt)
  simp only [hj, hmj, hun, Bool.or_false] at h1
  rcases Bool.or_eq_true_iff.1 h1 with h2 | h2
  · exact absurd (Nat.eq_of_beq_eq_true h2) hne
  · rcases Bool.or_eq_true_iff.1 h2 with h3 | h3
    · obtain ⟨e, he, h4⟩ := Array.any_eq_true'.1 h3
      simp only [Bool.and_eq_true] at h4
      exact absurd (Nat.eq_of_beq_eq_true h4.2) (hno e he h4.1)
    · exact h3

def lexA (md : Region.Mode) (ops : Array Oper) (tb : List Mt) : List Mt → Nat → Array Bool → Bool
  | [], _, listed => (Region.ready md ops listed).isEmpty
  | m :: l, k, listed => (Region.ready md ops listed).contains k && freeA md ops tb listed k m && lexA md ops tb l (k + 1) (listed.setIfInBounds k true)

/-- The text's order, step by step. -/
def SeqA (C : Ctx) (ops : Array Oper) (Q : St → Prop) : List Mt → List Oper → St → Prop
  | [], [], S => Q S
  | m :: ms, o :: l, S => ∃ p, Stp.has p m ∧ Loc C ops o S p ∧ SeqA C ops Q ms l (S.ap p)
  | _, _, _ => False

theorem anyA_lex {Q : St → Prop} : ∀ (l : List Oper) (ms : List Mt) (k : Nat) (listed : Array Bool) (S : St), (∀ j, l[j]? = ops[k + j]?) → (∀ j, ms[j]? = tb[k + j]?) →
    lexA md ops tb ms k listed = true → SeqA C ops Q ms l S → anyA C md ops tb Q l.length listed S
  | [], [], _, _, _, _, _, hB, h => ⟨by simpa [lexA] using hB, h⟩
  | [], _ :: _, _, _, _, _, _, _, h => h.elim
  | _ :: _, [], _, _, _, _, _, _, h => h.elim
  | o :: l, m :: ms, k, listed, S, hl, hms, hB, h => by
    have h0 : ops[k]? = some o := by simpa using (hl 0).symm
    have h1 : tb[k]? = some m := by simpa using (hms 0).symm
    simp only [lexA, Bool.and_eq_true] at hB
    obtain ⟨⟨hr, hf⟩, hB'⟩ := hB
    obtain ⟨p, hp, hlc, hn⟩ := h
    exact anyA_first h0 h1 hp l.length listed S (freeA_spec hf) (by simpa using hr) hlc
      (anyA_lex l ms (k + 1) _ _ (fun j => by have := hl (j + 1); simpa [Nat.add_assoc, Nat.add_comm 1 j] using this) (fun j => by have := hms (j + 1); simpa [Nat.add_assoc, Nat.add_comm 1 j] using this) hB' hn)

theorem Hold.drawn {S : St} {a : Act} {w : World} (h : Hold C S a w) : Hold C S a { w with drawn := w.drawn + 1 } := by
  obtain ⟨O, hh⟩ := h
  have e : ∀ H M, Ext w H M { w with drawn := w.drawn + 1 } H M := fun H M => ⟨Nat.le_refl _, fun _ _ h => ⟨h, rfl⟩, fun _ _ h => ⟨h, rfl⟩⟩
  exact ⟨O, ⟨hh.h0, hh.os, hh.tape, hh.output, hh.size, hh.old, hh.own, hh.dfr, hh.n, fun t => (S.s t).mono (e _ _) (hh.slot t), fun i => (S.r i).mono (e _ _) (hh.res i)⟩⟩

theorem AW.regionAny {Q : Exit → St → Prop} {S : St} {id : Nat} (tb : List Mt) (hm : C.P.follows .mixedOrders = true) (hB : lexA .any ops tb tb 0 (Array.replicate ops.size false) = true) (h : SeqA C ops (fun S' => Q .normal S') tb ops.toList S) :
    AW C (.region id ops true) Q S := by
  intro a w hh
  refine wpIn_region_any hm (wpAny_of_anyA (tb := tb) (Q := fun S' => Q .normal S') (fun S' a' w' h1 h2 => ⟨S', h1, h2⟩) _ _ S _ _ hh.drawn ?_)
  have := anyA_lex (C := C) (md := .any) (tb := tb) ops.toList tb 0 (Array.replicate ops.size false) S (by simp) (by simp) hB h
  simpa using this

/-! steps of such regions -/
section steps
variable {S : St} {o : Oper}
theorem loc {d : Nat} {A : Asrt} (rs rr : List Nat) (hg : o.guard = none) (hdst : o.dst = some d)
    (h : ∀ S' : St, (∀ t, rs.contains t = true → S'.s t = S.s t) → (∀ i, rr.contains i = true → S'.r i = S.r i) → OpE C o S' (S'.put o.dst A)) : Loc C ops o S ⟨rs, rr, [(d, A)], []⟩ := fun S' _ hs hr => by
  have := h S' hs hr
  rw [hdst] at this
  exact OpG.of hg this
theorem locg {d j gt : Nat} {A : Asrt} {b want : Bool} (rs rr : List Nat) (hg : o.guard = some (j, want)) (hj : (ops[j]?).bind (·.dst) = some gt) (hn : Nat.blt gt C.N = true) (hgs : rs.contains gt = true) (hb : S.s gt = rd kbool b) (hdst : o.dst = some d) (hd : dok o C.N = true)
    (h : (b == want) = true → ∀ S' : St, (∀ t, rs.contains t = true → S'.s t = S.s t) → (∀ i, rr.contains i = true → S'.r i = S.r i) → OpE C o S' (S'.put o.dst A)) : Loc C ops o S ⟨rs, rr, [(d, gd (b == want) A)], []⟩ := fun S' _ hs hr => by
  have := OpG.guard (ops := ops) (A := A) hg hj hn ((hs gt hgs).trans hb) hd (fun hq => h hq S' hs hr)
  rw [hdst] at this
  exact this
theorem locr {i : Nat} {r : Res} (rs rr : List Nat) (hg : o.guard = none)
    (h : ∀ S' : St, (∀ t, rs.contains t = true → S'.s t = S.s t) → (∀ i, rr.contains i = true → S'.r i = S.r i) → OpE C o S' (S'.setr i r)) : Loc C ops o S ⟨rs, rr, [], [(i, r)]⟩ := fun S' _ hs hr => OpG.of hg (h S' hs hr)
theorem SeqA.cons {Q : St → Prop} {m : Mt} {ms : List Mt} {l : List Oper} {p : Stp} (hl : Loc C ops o S p) (hp : p.has m) (h : SeqA C ops Q ms l (S.ap p)) : SeqA C ops Q (m :: ms) (o :: l) S := ⟨p, hp, hl, h⟩
end steps
end any
end Go.Wb
