/- A part of the proof. -/
import Derived.Test.YtknpgojdkobgjaaGreatP0
set_option linter.unusedVariables false
set_option linter.unusedSimpArgs false
namespace Go.Proofs.YtknpgojdkobgjaaGreat.W
open Go Go.Wb
structure SemP where
  h : Header
  set : List Action
  out : List Out
def sact (G : Int → Header → List Out) (p : SemP) (l : List Action) : SemP := ⟨(doA G l [] p.h).2, p.set, p.out ++ (doA G l [] p.h).1⟩
def sapply (G : Int → Header → List Out) (p : SemP) (l : List Inst) : SemP := match ofI l 4 with
  | some i => sact G p i.Acts
  | none => p
def sclear (p : SemP) (l : List Inst) : SemP := match ofI l 5 with
  | some _ => { p with set := [] }
  | none => p
def swrite (p : SemP) (l : List Inst) : SemP := match ofI l 3 with
  | some i => { p with set := i.Acts.foldl wr1 p.set }
  | none => p
def smeta (p : SemP) (l : List Inst) : SemP := match ofI l 2 with
  | some i => { p with h := capply (cset none24 1 i.Value i.Mask) p.h }
  | none => p
def sdo (G : Int → Header → List Out) (p : SemP) (l : List Inst) : SemP := smeta (swrite (sclear (sapply G p l) l) l) l
def send (G : Int → Header → List Out) (p : SemP) : SemP := sact G p (lstA p.set)
def bdG (G : Int → Header → List Out) : Prop := ∀ id h, (G id h).length ≤ 6561
theorem bdG_go (l : List Group) (e : Env) (hl : lightG l) : bdG (goG l e 8) := fun id h => goG_len l e hl 8 id h
theorem doA_bd {G : Int → Header → List Out} (hG : bdG G) (l : List Action) (h : Header) : (doA G l [] h).1.length ≤ l.length * 6561 :=
  Nat.le_trans (doA_len G 6561 (by omega) hG l h) (Nat.mul_le_mul_right _ (outs_le l))
theorem sapply_bd {G : Int → Header → List Out} (hG : bdG G) (p : SemP) {l : List Inst} (hl : lightI l) : (sapply G p l).out.length ≤ p.out.length + 78732 ∧ (sapply G p l).set = p.set := by
  unfold sapply
  split
  · rename_i i hi
    have h1 := hl i (ofI_mem hi)
    have h2 := doA_bd hG i.Acts p.h
    refine ⟨?_, rfl⟩
    show (p.out ++ _).length ≤ _
    rw [List.length_append]; omega
  · exact ⟨by omega, rfl⟩
theorem sclear_bd (p : SemP) (l : List Inst) : (sclear p l).out = p.out ∧ (sclear p l).set.length ≤ p.set.length := by
  unfold sclear
  split
  · exact ⟨rfl, by simp⟩
  · exact ⟨rfl, by omega⟩
theorem swrite_bd (p : SemP) {l : List Inst} (hl : lightI l) : (swrite p l).out = p.out ∧ (swrite p l).set.length ≤ p.set.length + 12 := by
  unfold swrite
  split
  · rename_i i hi
    have h1 := hl i (ofI_mem hi)
    have h2 := wr_len i.Acts p.set
    exact ⟨rfl, by show (i.Acts.foldl wr1 p.set).length ≤ _; omega⟩
  · exact ⟨rfl, by omega⟩
theorem smeta_bd (p : SemP) (l : List Inst) : (smeta p l).out = p.out ∧ (smeta p l).set = p.set := by
  unfold smeta
  split
  · exact ⟨rfl, rfl⟩
  · exact ⟨rfl, rfl⟩
theorem sdo_bd {G : Int → Header → List Out} (hG : bdG G) (p : SemP) {l : List Inst} (hl : lightI l) : (sdo G p l).out.length ≤ p.out.length + 78732 ∧ (sdo G p l).set.length ≤ p.set.length + 12 := by
  have h1 := sapply_bd hG p hl
  have h2 := sclear_bd (sapply G p l) l
  have h3 := swrite_bd (sclear (sapply G p l) l) hl
  have h4 := smeta_bd (swrite (sclear (sapply G p l) l) l) l
  unfold sdo
  refine ⟨?_, ?_⟩
  · rw [h4.1, h3.1, h2.1]; exact h1.1
  · rw [h4.2]
    have := h3.2
    have := h2.2
    rw [h1.2] at this
    omega
theorem send_bd {G : Int → Header → List Out} (hG : bdG G) (p : SemP) : (send G p).out.length ≤ p.out.length + p.set.length * 6561 := by
  have h1 := doA_bd hG (lstA p.set) p.h
  have h2 := Nat.mul_le_mul_right 6561 (lstA_len p.set)
  show (p.out ++ _).length ≤ _
  rw [List.length_append]; omega
def semL (s : Switch) (G : Int → Header → List Out) : Nat → Nat → SemP → List Place → SemP × List Place
  | 0, _, p, q => (p, q)
  | d + 1, at_, p, q => match findF (tblOf s at_) p.h with
    | none => (p, q ++ [⟨(at_ : Int), -1⟩])
    | some i => match (tblOf s at_)[i.toNat]? with
      | none => (p, q)
      | some f => match nextT at_ f.Insts with
        | some n => semL s G d n (sdo G p f.Insts) (q ++ [⟨(at_ : Int), i⟩])
        | none => (send G (sdo G p f.Insts), q ++ [⟨(at_ : Int), i⟩])
theorem semL_none {s : Switch} {G : Int → Header → List Out} {d at_ : Nat} {p : SemP} {q : List Place} (h : findF (tblOf s at_) p.h = none) : semL s G (d + 1) at_ p q = (p, q ++ [⟨(at_ : Int), -1⟩]) := by
  rw [semL, h]
theorem semL_some {s : Switch} {G : Int → Header → List Out} {d at_ k : Nat} {p : SemP} {q : List Place} (h : findF (tblOf s at_) p.h = some (k : Int)) (hk : k < (tblOf s at_).length) : semL s G (d + 1) at_ p q = match nextT at_ (tblOf s at_)[k].Insts with
    | some n => semL s G d n (sdo G p (tblOf s at_)[k].Insts) (q ++ [⟨(at_ : Int), (k : Int)⟩])
    | none => (send G (sdo G p (tblOf s at_)[k].Insts), q ++ [⟨(at_ : Int), (k : Int)⟩]) := by
  rw [semL, h]
  simp only
  rw [Int.toNat_natCast, List.getElem?_eq_getElem hk]
def semB (at_ : Nat) (p : SemP) (q : List Place) : Prop := p.out.length ≤ 78732 * at_ ∧ p.set.length ≤ 12 * at_ ∧ q.length ≤ at_
theorem semL_bd (s : Switch) (hs : lightS s) {G : Int → Header → List Out} (hG : bdG G) : ∀ (d at_ : Nat) (p : SemP) (q : List Place), at_ + d ≤ 4 + d → semB at_ p q → at_ < 4 → (semL s G d at_ p q).1.out.length ≤ 700000 ∧ (semL s G d at_ p q).2.length ≤ 10
  | 0, at_, p, q, _, h, h4 => by
    have := h.1
    have := h.2.2
    show p.out.length ≤ _ ∧ q.length ≤ _
    omega
  | d + 1, at_, p, q, hd, h, h4 => by
    have h0 := h.1
    have h1 := h.2.1
    have h2 := h.2.2
    cases hf : findF (tblOf s at_) p.h with
    | none =>
      rw [semL_none hf]
      show p.out.length ≤ _ ∧ (q ++ _).length ≤ _
      rw [List.length_append, List.length_singleton]
      omega
    | some i =>
      obtain ⟨k, hk, rfl, _⟩ := findF_mem hf
      rw [semL_some hf hk]
      have hl := (hs at_ h4).2 _ (List.getElem_mem hk)
      have b := sdo_bd hG p hl
      cases hn : nextT at_ (tblOf s at_)[k].Insts with
      | none =>
        have c := send_bd hG (sdo G p (tblOf s at_)[k].Insts)
        have e := Nat.mul_le_mul_right 6561 (Nat.le_trans b.2 (show p.set.length + 12 ≤ 48 by omega))
        show (send G _).out.length ≤ _ ∧ (q ++ _).length ≤ _
        rw [List.length_append, List.length_singleton]
        omega
      | some n =>
        have hb := nextT_bd hn
        exact semL_bd s hs hG d n _ _ (by omega) ⟨by omega, by omega, by rw [List.length_append, List.length_singleton]; omega⟩ hb.2
def sst (s : Switch) (e : Env) (p : SemP) (q : List Place) : sem_packet := ⟨s, e, p.h, p.set, p.out, q⟩
theorem F_sem_packet_act_eq (s : Switch) (e : Env) (hG : lightG s.Groups) (p : SemP) (q : List Place) (l : List Action) (hl : l.length ≤ 100) (hp : p.out.length ≤ 1000000) : F_sem_packet_act (sst s e p q) l = some (sst s e (sact (goG s.Groups e 8) p l) q) := by
  have hlim : lim = 4294967296 := rfl
  have hb := doA_bd (bdG_go s.Groups e hG) l p.h
  unfold F_sem_packet_act
  show (F_exec_Do s.Groups e l p.h).bind _ = _
  rw [F_exec_Do_eq _ _ _ _ hG hl, Option.bind_some]
  show (appd p.out (doA (goG s.Groups e 8) l [] p.h).1).bind _ = _
  rw [appd_ok (by omega)]; rfl
theorem F_sem_packet_follow_eq (s : Switch) (e : Env) (hG : lightG s.Groups) (p : SemP) (q : List Place) (at_ : Nat) (l : List Inst) (hl : lightI l) (hp : p.out.length ≤ 500000) (hs : p.set.length ≤ 100) :
    ∃ X : Int, F_sem_packet_follow (sst s e p q) (at_ : Int) l = some (match nextT at_ l with | some n => ((n : Int), true, sst s e (sdo (goG s.Groups e 8) p l) q) | none => (X, false, sst s e (sdo (goG s.Groups e 8) p l) q)) := by
  have hlim : lim = 4294967296 := rfl
  have hbG := bdG_go s.Groups e hG
  have j4 : ∃ X : Int, ∀ b : SemP, F_sem_packet_follow_j4 l (at_ : Int) b.out q s e b.h b.set = some (match nextT at_ l with | some n => ((n : Int), true, sst s e b q) | none => (X, false, sst s e b q)) := by
    cases hi : ofI l 1 with
    | none =>
      refine ⟨0, fun b => ?_⟩
      unfold F_sem_packet_follow_j4
      rw [F_inst_Of_eq l 1 hl, Option.bind_some, nextT_none hi, hi]; rfl
    | some i =>
      refine ⟨i.Table, fun b => ?_⟩
      unfold F_sem_packet_follow_j4
      rw [F_inst_Of_eq l 1 hl, Option.bind_some, hi]
      show some (i.Table, ((true && decide (i.Table > (at_ : Int))) && decide (i.Table < 4)), sst s e b q) = _
      rw [Bool.true_and]
      by_cases hc : i.Table > (at_ : Int) ∧ i.Table < 4
      · have hd : (decide (i.Table > (at_ : Int)) && decide (i.Table < 4)) = true := by
          rw [Bool.and_eq_true, decide_eq_true_eq, decide_eq_true_eq]; exact hc
        have : ((i.Table.toNat : Nat) : Int) = i.Table := by omega
        rw [nextT_pos hi hc, hd]
        simp [this]
      · have hd : (decide (i.Table > (at_ : Int)) && decide (i.Table < 4)) = false := by
          rw [Bool.and_eq_false_iff, decide_eq_false_iff_not, decide_eq_false_iff_not]; omega
        rw [nextT_neg hi hc, hd]
  obtain ⟨X, j4⟩ := j4
  refine ⟨X, ?_⟩
  have j3 : ∀ b : SemP, F_sem_packet_follow_j3 l (at_ : Int) b.out q s e b.h b.set = some (match nextT at_ l with | some n => ((n : Int), true, sst s e (smeta b l) q) | none => (X, false, sst s e (smeta b l) q)) := fun b => by
    unfold F_sem_packet_follow_j3
    rw [F_inst_Of_eq l 2 hl, Option.bind_some, ← j4 (smeta b l)]
    unfold smeta
    cases hi : ofI l 2 with
    | none => rfl
    | some i =>
      simp only [optP, cond_true]
      rw [show F_rewrite_None = some none24 from rfl, Option.bind_some, F_rewrite_Set_eq, Option.bind_some, F_rewrite_Apply_eq]; rfl
  have j2 : ∀ b : SemP, b.set.length ≤ 200 → F_sem_packet_follow_j2 l (at_ : Int) b.out q s e b.h b.set = some (match nextT at_ l with | some n => ((n : Int), true, sst s e (smeta (swrite b l) l) q) | none => (X, false, sst s e (smeta (swrite b l) l) q)) := fun b h2 => by
    unfold F_sem_packet_follow_j2
    rw [F_inst_Of_eq l 3 hl, Option.bind_some, ← j3 (swrite b l)]
    unfold swrite
    cases hi : ofI l 3 with
    | none => rfl
    | some i =>
      have := hl i (ofI_mem hi)
      simp only [optP, cond_true]
      rw [F_aset_Write_eq _ _ (by omega)]; rfl
  have j1 : ∀ b : SemP, b.set.length ≤ 200 → F_sem_packet_follow_j1 l (at_ : Int) b.out q s e b.h b.set = some (match nextT at_ l with | some n => ((n : Int), true, sst s e (smeta (swrite (sclear b l) l) l) q) | none => (X, false, sst s e (smeta (swrite (sclear b l) l) l) q)) := fun b h2 => by
    have b5 := sclear_bd b l
    unfold F_sem_packet_follow_j1
    rw [F_inst_Of_eq l 5 hl, Option.bind_some, ← j2 (sclear b l) (by have := b5.2; omega)]
    unfold sclear
    cases hi : ofI l 5 with
    | none => rfl
    | some i => rfl
  unfold F_sem_packet_follow
  rw [F_inst_Of_eq l 4 hl, Option.bind_some]
  have := j1 (sapply (goG s.Groups e 8) p l) (by rw [(sapply_bd hbG p hl).2]; omega)
  unfold sdo
  rw [← this]
  unfold sapply
  cases hi : ofI l 4 with
  | none => rfl
  | some i =>
    have := hl i (ofI_mem hi)
    simp only [optP, cond_true]
    show (F_sem_packet_act (sst s e p q) i.Acts).bind _ = _
    rw [F_sem_packet_act_eq s e hG p q i.Acts (by omega) (by omega)]; rfl
theorem F_sem_packet_through_l1_eq (s : Switch) (e : Env) (hs : lightS s) (hG : lightG s.Groups) : ∀ (d at_ m : Nat) (p : SemP) (q : List Place), 4 ≤ at_ + d → at_ < 4 → d ≤ m → semB at_ p q →
    F_sem_packet_through_l1 m p.out q s e p.h p.set (at_ : Int) = some (sst s e (semL s (goG s.Groups e 8) d at_ p q).1 (semL s (goG s.Groups e 8) d at_ p q).2)
  | 0, at_, m, p, q, h0, h1, _, _ => by omega
  | d + 1, at_, 0, p, q, _, _, h2, _ => by omega
  | d + 1, at_, m + 1, p, q, h1, ha, h2, hb => by
    have hlim : lim = 4294967296 := rfl
    have hl := hs at_ ha
    have b0 := hb.1
    have b1 := hb.2.1
    have b2 := hb.2.2
    rw [F_sem_packet_through_l1, chk_nat ha, Option.bind_some, tblOf_lt, F_first_Find_eq _ _ hl.1, Option.bind_some]
    cases hf : findF (tblOf s at_) p.h with
    | none =>
      rw [semL_none hf]
      simp only [optP, Bool.not_false, cond_true]
      rw [appd_ok (by simp; omega)]; rfl
    | some i =>
      obtain ⟨k, hk, rfl, _⟩ := findF_mem hf
      rw [semL_some hf hk]
      simp only [optP, Bool.not_true, cond_false]
      rw [appd_ok (by simp; omega), Option.bind_some, Option.bind_some, tblOf_lt, lget_lt hk, Option.bind_some]
      have hli := hl.2 _ (List.getElem_mem hk)
      obtain ⟨X, hX⟩ := F_sem_packet_follow_eq s e hG p (q ++ [⟨(at_ : Int), (k : Int)⟩]) at_ _ hli (by omega) (by omega)
      have bd := sdo_bd (bdG_go s.Groups e hG) p hli
      show (F_sem_packet_follow (sst s e p (q ++ [⟨(at_ : Int), (k : Int)⟩])) (at_ : Int) (tblOf s at_)[k].Insts).bind _ = _
      rw [hX, Option.bind_some]
      generalize sdo (goG s.Groups e 8) p (tblOf s at_)[k].Insts = P at *
      generalize hQ : q ++ [(⟨(at_ : Int), (k : Int)⟩ : Place)] = Q at *
      have hQl : Q.length = q.length + 1 := by rw [← hQ]; simp
      cases hn : nextT at_ (tblOf s at_)[k].Insts with
      | some n =>
        have hnb := nextT_bd hn
        simp only [Bool.not_true, cond_false]
        exact F_sem_packet_through_l1_eq s e hs hG d n m P Q (by omega) (by omega) (by omega) ⟨by omega, by omega, by omega⟩
      | none =>
        simp only [Bool.not_false, cond_true]
        have hls := lstA_len P.set
        have h5 := F_aset_List_eqL P.set (by omega)
        have h6 := F_sem_packet_act_eq s e hG P Q (lstA P.set) (by omega) (by omega)
        show ((F_aset_List P.set).bind fun x35 => (F_sem_packet_act (sst s e P Q) x35).bind fun b36 => some b36) = _
        rw [h5, Option.bind_some, h6, Option.bind_some]; rfl
def sem0 (h : Header) : SemP := ⟨h, [], []⟩
def semS (s : Switch) (e : Env) (h : Header) : SemP × List Place := semL s (goG s.Groups e 8) 4 0 (sem0 h) []
theorem semB0 (h : Header) : semB 0 (sem0 h) [] := ⟨by simp [sem0], by simp [sem0], by simp⟩
theorem F_sem_Out_eq (s : Switch) (e : Env) (h : Header) (hs : lightS s) (hG : lightG s.Groups) : F_sem_Out s e h = some (semS s e h).1.out := by
  unfold F_sem_Out F_sem_packet_through
  have := F_sem_packet_through_l1_eq s e hs hG 4 0 fuel0 (sem0 h) [] (by omega) (by omega) (by unfold fuel0; omega) (semB0 h)
  show (F_sem_packet_through_l1 fuel0 (sem0 h).out [] s e (sem0 h).h (sem0 h).set ((0 : Nat) : Int)).bind _ = _
  rw [this]; rfl
theorem F_sem_Path_eq (s : Switch) (h : Header) (hs : lightS s) (hG : lightG s.Groups) : F_sem_Path s h = some (semS s zEnv h).2 := by
  unfold F_sem_Path F_sem_packet_through
  have := F_sem_packet_through_l1_eq s zEnv hs hG 4 0 fuel0 (sem0 h) [] (by omega) (by omega) (by unfold fuel0; omega) (semB0 h)
  show (F_sem_packet_through_l1 fuel0 (sem0 h).out [] s zEnv (sem0 h).h (sem0 h).set ((0 : Nat) : Int)).bind _ = _
  rw [this]; rfl
theorem F_r31_way_j5_eq (f : Flow) (hl : f.Insts.length ≤ 100000) (at_ : Nat) (set : List Action) (hst : set.length ≤ 50) (s : Switch) (e : Env) (he : e.Down.length ≤ 20) (hG : lightG s.Groups) (o : List Out) (ho : o.length ≤ 1000000) (q : List Place) (go : Header → List Out → List Place → List Action → Int → Option (List Out × List Place)) (h : Header) :
    F_r31_way_j5 f (at_ : Int) set s e o q go h = match nextT at_ f.Insts with | some n => go h o q set (n : Int) | none => some ((send (goG s.Groups e 8) ⟨h, set, o⟩).out, q) := by
  have hlim : lim = 4294967296 := rfl
  have hls := lstA_len set
  have hend : ((F_r28_List set).bind fun x40 => (F_r30_Do s.Groups e x40 h).bind fun x41 => (appd o x41.1).bind fun l43 => some (l43, q)) = some ((send (goG s.Groups e 8) ⟨h, set, o⟩).out, q) := by
    have hb := doA_bd (bdG_go s.Groups e hG) (lstA set) h
    rw [F_r28_List_eqR _ hst, Option.bind_some, F_r30_Do_eqR _ _ he hG _ (by omega), Option.bind_some, appd_ok (by omega)]; rfl
  unfold F_r31_way_j5
  rw [F_r14_Of_eq _ _ hl, Option.bind_some]
  cases hi : ofI f.Insts 1 with
  | none => rw [nextT_none hi]; exact hend
  | some i =>
    show (bif ((!true || decide (i.Table ≤ (at_ : Int))) || decide (i.Table ≥ 4)) then _ else go h o q set i.Table) = _
    by_cases hc : i.Table > (at_ : Int) ∧ i.Table < 4
    · have hd : ((!true || decide (i.Table ≤ (at_ : Int))) || decide (i.Table ≥ 4)) = false := by simp; omega
      have : ((i.Table.toNat : Nat) : Int) = i.Table := by omega
      rw [nextT_pos hi hc, hd, cond_false]
      simp only [this]
    · have hd : ((!true || decide (i.Table ≤ (at_ : Int))) || decide (i.Table ≥ 4)) = true := by
        simp only [Bool.not_true, Bool.false_or, Bool.or_eq_true, decide_eq_true_eq]; omega
      rw [nextT_neg hi hc, hd, cond_true]
      exact hend
theorem F_r31_way_l1_step (s : Switch) (e : Env) (he : e.Down.length ≤ 20) (hs : lightS s) (hI : ∀ i, i < 4 → ∀ f ∈ tblOf s i, f.Insts.length ≤ 100000 ∧ f.Match.length ≤ 100000) (hG : lightG s.Groups) (d at_ m : Nat) (p : SemP) (q : List Place) (ha : at_ < 4) (hb : semB at_ p q)
    (ih : ∀ (n : Nat) (p : SemP) (q : List Place), at_ < n → n < 4 → semB n p q → F_r31_way_l1 s e m p.h p.out q p.set (n : Int) = some ((semL s (goG s.Groups e 8) d n p q).1.out, (semL s (goG s.Groups e 8) d n p q).2)) :
    F_r31_way_l1 s e (m + 1) p.h p.out q p.set (at_ : Int) = some ((semL s (goG s.Groups e 8) (d + 1) at_ p q).1.out, (semL s (goG s.Groups e 8) (d + 1) at_ p q).2) := by
  have hlim : lim = 4294967296 := rfl
  have hl := hs at_ ha
  have b0 := hb.1
  have b1 := hb.2.1
  have b2 := hb.2.2
  rw [F_r31_way_l1, chk_nat ha, Option.bind_some, tblOf_lt, F_r27_Find_eq _ _ (by have := hl.1; omega) (fun f hf => (hI at_ ha f hf).2), Option.bind_some]
  cases hf : findF (tblOf s at_) p.h with
  | none =>
    rw [semL_none hf]
    simp only [optP, Bool.not_false, cond_true]
    rw [appd_ok (by simp; omega)]; rfl
  | some i =>
    obtain ⟨k, hk, rfl, _⟩ := findF_mem hf
    rw [semL_some hf hk]
    simp only [optP, Bool.not_true, cond_false]
    rw [appd_ok (by simp; omega), Option.bind_some, Option.bind_some, tblOf_lt, lget_lt hk, Option.bind_some]
    have hli := hl.2 _ (List.getElem_mem hk)
    have hil := (hI at_ ha _ (List.getElem_mem hk)).1
    generalize (tblOf s at_)[k] = f at *
    generalize hQ : q ++ [(⟨(at_ : Int), (k : Int)⟩ : Place)] = Q at *
    have hQl : Q.length = q.length + 1 := by rw [← hQ]; simp
    have hbG := bdG_go s.Groups e hG
    have bd := sdo_bd hbG p hli
    -- behind all instructions
    obtain ⟨W, hW⟩ : ∃ W : Option (List Out × List Place), W = (match nextT at_ f.Insts with
        | some n => some ((semL s (goG s.Groups e 8) d n (sdo (goG s.Groups e 8) p f.Insts) Q).1.out, (semL s (goG s.Groups e 8) d n (sdo (goG s.Groups e 8) p f.Insts) Q).2)
        | none => some ((send (goG s.Groups e 8) (sdo (goG s.Groups e 8) p f.Insts)).out, Q)) := ⟨_, rfl⟩
    have j5 : ∀ b : SemP, b.set.length ≤ 50 → b.out.length ≤ 1000000 → b = sdo (goG s.Groups e 8) p f.Insts → F_r31_way_j5 f (at_ : Int) b.set s e b.out Q (F_r31_way_l1 s e m) b.h = W := fun b c1 c2 hb => by
      rw [hW, F_r31_way_j5_eq f hil at_ b.set c1 s e he hG b.out c2]
      cases hn : nextT at_ f.Insts with
      | some n =>
        have hnb := nextT_bd hn
        simp only
        rw [hb]
        exact ih n _ _ (by omega) (by omega) ⟨by omega, by omega, by omega⟩
      | none => simp only; rw [← hb]
    have hfin : W
        = some ((match nextT at_ f.Insts with
          | some n => semL s (goG s.Groups e 8) d n (sdo (goG s.Groups e 8) p f.Insts) Q
          | none => (send (goG s.Groups e 8) (sdo (goG s.Groups e 8) p f.Insts), Q)).1.out, (match nextT at_ f.Insts with
          | some n => semL s (goG s.Groups e 8) d n (sdo (goG s.Groups e 8) p f.Insts) Q
          | none => (send (goG s.Groups e 8) (sdo (goG s.Groups e 8) p f.Insts), Q)).2) := by
      rw [hW]; cases nextT at_ f.Insts <;> rfl
    rw [← hfin]
    have j4 : ∀ b : SemP, b.set.length ≤ 50 → b.out.length ≤ 1000000 → smeta b f.Insts = sdo (goG s.Groups e 8) p f.Insts → F_r31_way_j4 f b.h (at_ : Int) s e b.out Q (F_r31_way_l1 s e m) b.set = W := fun b c1 c2 hb => by
      have b5 := smeta_bd b f.Insts
      rw [← j5 (smeta b f.Insts) (by rw [b5.2]; exact c1) (by rw [b5.1]; exact c2) hb]
      unfold F_r31_way_j4
      rw [F_r14_Of_eq _ _ hil, Option.bind_some]
      unfold smeta
      cases hi : ofI f.Insts 2 with
      | none => rfl
      | some i =>
        simp only [optP, cond_true]
        rw [show F_r09_None = some none24 from rfl, Option.bind_some, F_r09_Set_eqR, Option.bind_some, F_r09_Apply_eqR]; rfl
    have j3 : ∀ b : SemP, b.set.length ≤ 38 → b.out.length ≤ 1000000 → smeta (swrite b f.Insts) f.Insts = sdo (goG s.Groups e 8) p f.Insts → F_r31_way_j3 f b.h (at_ : Int) s e b.out Q (F_r31_way_l1 s e m) b.set = W := fun b c1 c2 hb => by
      have b5 := swrite_bd b hli
      rw [← j4 (swrite b f.Insts) (by have := b5.2; omega) (by rw [b5.1]; exact c2) hb]
      unfold F_r31_way_j3
      rw [F_r14_Of_eq _ _ hil, Option.bind_some]
      unfold swrite
      cases hi : ofI f.Insts 3 with
      | none => rfl
      | some i =>
        have := hli i (ofI_mem hi)
        simp only [optP, cond_true]
        rw [F_r28_Write_eqRs _ _ (by omega) (by omega)]; rfl
    have j2 : ∀ b : SemP, b.set.length ≤ 38 → b.out.length ≤ 1000000 → smeta (swrite (sclear b f.Insts) f.Insts) f.Insts = sdo (goG s.Groups e 8) p f.Insts → F_r31_way_j2 f (at_ : Int) s e Q (F_r31_way_l1 s e m) b.set b.h b.out = W := fun b c1 c2 hb => by
      have b5 := sclear_bd b f.Insts
      rw [← j3 (sclear b f.Insts) (by have := b5.2; omega) (by rw [b5.1]; exact c2) hb]
      unfold F_r31_way_j2
      rw [F_r14_Of_eq _ _ hil, Option.bind_some]
      unfold sclear
      cases hi : ofI f.Insts 5 with
      | none => rfl
      | some i => rfl
    have bA := sapply_bd hbG p hli
    rw [F_r14_Of_eq _ _ hil, Option.bind_some, ← j2 (sapply (goG s.Groups e 8) p f.Insts) (by rw [bA.2]; omega) (by have := bA.1; omega) rfl]
    unfold sapply
    cases hi : ofI f.Insts 4 with
    | none => rfl
    | some i =>
      have := hli i (ofI_mem hi)
      have hbd := doA_bd hbG i.Acts p.h
      simp only [optP, cond_true]
      rw [F_r30_Do_eqR _ _ he hG _ (by omega), Option.bind_some, appd_ok (by omega), Option.bind_some]; rfl
theorem F_r31_way_l1_eq (s : Switch) (e : Env) (he : e.Down.length ≤ 20) (hs : lightS s) (hI : ∀ i, i < 4 → ∀ f ∈ tblOf s i, f.Insts.length ≤ 100000 ∧ f.Match.length ≤ 100000) (hG : lightG s.Groups) : ∀ (d at_ m : Nat) (p : SemP) (q : List Place), 4 ≤ at_ + d → at_ < 4 → d ≤ m → semB at_ p q →
    F_r31_way_l1 s e m p.h p.out q p.set (at_ : Int) = some ((semL s (goG s.Groups e 8) d at_ p q).1.out, (semL s (goG s.Groups e 8) d at_ p q).2)
  | 0, at_, m, p, q, h0, h1, _, _ => by omega
  | d + 1, at_, 0, p, q, _, _, h2, _ => by omega
  | d + 1, at_, m + 1, p, q, h1, ha, h2, hb =>
    F_r31_way_l1_step s e he hs hI hG d at_ m p q ha hb fun n p q h3 h4 h5 => F_r31_way_l1_eq s e he hs hI hG d n m p q (by omega) h4 (by omega) h5
theorem F_r31_way_eq (s : Switch) (e : Env) (he : e.Down.length ≤ 20) (hs : lightS s) (hI : ∀ i, i < 4 → ∀ f ∈ tblOf s i, f.Insts.length ≤ 100000 ∧ f.Match.length ≤ 100000) (hG : lightG s.Groups) (h : Header) : F_r31_way s e h = some ((semS s e h).1.out, (semS s e h).2) := by
  unfold F_r31_way
  exact F_r31_way_l1_eq s e he hs hI hG 4 0 fuel0 (sem0 h) [] (by omega) (by omega) (by unfold fuel0; omega) (semB0 h)
theorem fewS_lightM {s : Switch} {many : Nat} (h : fewS s (many : Int) = true) : ∀ i, i < 4 → ∀ f ∈ tblOf s i, f.Insts.length ≤ 100000 ∧ f.Match.length ≤ 100000 := fun i hi f hf => by
  have := ((fewS_light h).1 i hi).2 f hf
  exact ⟨by omega, by omega⟩
theorem semS_bd (s : Switch) (e : Env) (h : Header) (hs : lightS s) (hG : lightG s.Groups) : (semS s e h).1.out.length ≤ 700000 ∧ (semS s e h).2.length ≤ 10 :=
  semL_bd s hs (bdG_go s.Groups e hG) 4 0 _ _ (by omega) (semB0 h) (by omega)
theorem F_slices_Equal_Place_l1_self (l : List Place) : ∀ (m i : Nat), i + m = l.length → F_slices_Equal_Place_l1 l l m i = some true
  | 0, i, _ => rfl
  | m + 1, i, h => by
    rw [F_slices_Equal_Place_l1, lget_lt (show i < l.length by omega), Option.bind_some, Option.bind_some, decide_eq_false (by simp), cond_false]
    exact F_slices_Equal_Place_l1_self l m (i + 1) (by omega)
theorem F_slices_Equal_Place_self (l : List Place) : F_slices_Equal_Place l l = some true := by
  unfold F_slices_Equal_Place
  rw [decide_eq_false (by simp), cond_false]
  exact F_slices_Equal_Place_l1_self l _ 0 (by omega)
set_option maxRecDepth 100000 in
theorem F_l31_awake_eq : F_l31_awake = some true := by decide +kernel
theorem F_l31_SemTells_eq (s : Switch) (e : Env) (h : Header) : F_l31_SemTells s e h = some true := by
  unfold F_l31_SemTells
  rw [F_pl_Switch_eq, Option.bind_some]
  cases hf : fewS s 8
  · rw [Bool.not_false, Bool.true_or, cond_true, F_l31_awake_eq]; rfl
  · by_cases hd : (e.Down.length : Int) > 20
    · rw [decide_eq_true hd, Bool.or_true, cond_true, F_l31_awake_eq]; rfl
    · have hs := fewS_lightS (many := 8) hf (by omega)
      have hG := (fewS_light (many := 8) hf).2
      have hI := fewS_lightM (many := 8) hf
      rw [decide_eq_false hd, Bool.not_true, Bool.false_or, cond_false, F_sem_Out_eq s e h hs hG, Option.bind_some]
      unfold F_r31_Out F_r31_Path
      rw [F_r31_way_eq s e (by omega) hs hI hG h, Option.bind_some, Option.bind_some, F_r30_Same_eqR _ _ (by have := (semS_bd s e h hs hG).1; omega), Option.bind_some, decide_eq_true rfl, opt_true, F_sem_Path_eq s h hs hG, Option.bind_some, opt_true]
      have := F_r31_way_eq s ⟨0, []⟩ (by simp) hs hI hG h
      rw [this, Option.bind_some, Option.bind_some, opt_true]
      show (F_slices_Equal_Place (semS s ⟨0, []⟩ h).2 (semS s ⟨0, []⟩ h).2).bind _ = _
      rw [F_slices_Equal_Place_self, Option.bind_some, F_l31_awake_eq]; rfl
end Go.Proofs.YtknpgojdkobgjaaGreat.W
