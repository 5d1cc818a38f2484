/- GbF6: a part of the proof. -/
import Derived.Test.YtokmmcflinnfiabGbF5
set_option linter.unusedVariables false
set_option maxRecDepth 4000
set_option linter.unusedSimpArgs false
namespace Go.Proofs.Ytokmmcflinnfiab.W
open Go Go.Wb
-- slices.symMergeCmpFunc[weirbox/api.Action] (not covered)
def F101 (data1 : (List Action)) (a3 : Int) (m4 : Int) (b5 : Int) (cmp6 : (Action → Action → Option Int)) : Option (List Action) := none
theorem c101o (v2 : Value) (data1 : (List Action)) (a3 : Int) (m4 : Int) (b5 : Int) (cmp6 : (Action → Action → Option Int)) (r : (List Action)) (h : F101 data1 a3 m4 b5 cmp6 = some r) : Con Try.prog 101 [raw v2, rd (kint .i64) a3, rd (kint .i64) m4, rd (kint .i64) b5, fn2 Try.prog kAction kAction (kint .i64) cmp6] (Row v2 56 kAction data1) (fun _ : Unit => top) (fun _ => Row v2 56 kAction r) := by cases h
-- slices.stableCmpFunc[weirbox/api.Action]
def F96_l3 (n3 : Int) (blockSize17 : Int) (cmp4 : (Action → Action → Option Int)) (go2 : (List Action) → Int → Option (List Action)) : Nat → (List Action) → Int → Int → Option (List Action)
  | 0, _, _, _ => none
  | m25 + 1, l22, a23, b24 => (bif (decide (b24 ≤ n3)) then (F101 l22 a23 (IntKind.i64.wrap (a23 + blockSize17)) b24 cmp4).bind fun l26 => (F96_l3 n3 blockSize17 cmp4 go2 m25) l26 b24 (IntKind.i64.wrap (b24 + (IntKind.i64.wrap (2 * blockSize17)))) else (bif (decide ((IntKind.i64.wrap (a23 + blockSize17)) < n3)) then (F101 l22 a23 (IntKind.i64.wrap (a23 + blockSize17)) n3 cmp4).bind fun l27 => go2 l27 (IntKind.i64.wrap (blockSize17 * 2)) else go2 l22 (IntKind.i64.wrap (blockSize17 * 2))))
def F96_l2 (n3 : Int) (cmp4 : (Action → Action → Option Int)) : Nat → (List Action) → Int → Option (List Action)
  | 0, _, _ => none
  | m18 + 1, l16, blockSize17 => (bif (decide (blockSize17 < n3)) then F96_l3 n3 blockSize17 cmp4 (F96_l2 n3 cmp4 m18) (((n3 : Int) - (IntKind.i64.wrap (2 * blockSize17))).toNat + 2) l16 0 (IntKind.i64.wrap (2 * blockSize17)) else some l16)
def F96_l1 (n3 : Int) (cmp4 : (Action → Action → Option Int)) : Nat → (List Action) → Int → Int → Option (List Action)
  | 0, _, _, _ => none
  | m11 + 1, l8, a9, b10 => (bif (decide (b10 ≤ n3)) then (F100 l8 a9 b10 cmp4).bind fun l12 => (F96_l1 n3 cmp4 m11) l12 b10 (IntKind.i64.wrap (b10 + 20)) else (F100 l8 a9 n3 cmp4).bind fun l13 => F96_l2 n3 cmp4 (((n3 : Int) - 20).toNat + 1) l13 20)
def F96 (data1 : (List Action)) (n3 : Int) (cmp4 : (Action → Action → Option Int)) : Option (List Action) :=
  F96_l1 n3 cmp4 (((n3 : Int) - 20).toNat + 2) data1 0 20
theorem c96o (v2 : Value) (data1 : (List Action)) (n3 : Int) (cmp4 : (Action → Action → Option Int)) (r : (List Action)) (h : F96 data1 n3 cmp4 = some r) : Con Try.prog 96 [raw v2, rd (kint .i64) n3, fn2 Try.prog kAction kAction (kint .i64) cmp4] (Row v2 56 kAction data1) (fun _ : Unit => top) (fun _ => Row v2 56 kAction r) := by
  refine Con.intro Try.func96 rfl Try.ntmps96 rfl fun w H X => ?_
  unfold F96 at h
  refine AW.seq ?_
  refine AW.region ?_
  refine AOps.cons (op_assign (A := rd (kint .i64) 20) rfl rfl (vk rfl)) rfl ?_
  refine AOps.nil ?_
  refine AW.seq ?_
  refine AW.region ?_
  refine AOps.cons (op_move (A := rd (kint .i64) 20) rfl rfl (vt rfl)) rfl ?_
  refine AOps.cons (op_assign (A := rd (kint .i64) 0) rfl rfl (vk rfl)) rfl ?_
  refine AOps.cons (op_assign (A := rd (kint .i64) 20) rfl rfl (vt rfl)) rfl ?_
  refine AOps.nil ?_
  refine AW.seq ?_
  refine AW.block ?_
  refine AW.loopG (d := []) (ν := Nat × (List Action) × Int × Int) (fun n => True ∧ F96_l1 n3 cmp4 n.1 n.2.1 n.2.2.1 n.2.2.2 = some r) (fun n => n.1) (fun n => [(0, raw v2), (1, rd (kint .i64) n3), (2, fn2 Try.prog kAction kAction (kint .i64) cmp4), (6, rd (kint .i64) 20), (7, rd (kint .i64) n.2.2.1), (8, rd (kint .i64) n.2.2.2)]) (fun n => [(0, Row v2 56 kAction n.2.1)]) ((((n3 : Int) - 20).toNat + 2), data1, 0, 20) ⟨trivial, h⟩ ⟨rfl, ⟨rfl, rfl, rfl, rfl, rfl, rfl, trivial⟩, ⟨rfl, trivial⟩⟩ ?_
  rintro ⟨m11, l8, a9, b10⟩ ⟨hsf1, h⟩
  change True at hsf1
  change F96_l1 n3 cmp4 m11 l8 a9 b10 = some r at h
  change AW _ _ _ ⟨slots [(0, raw v2), (1, rd (kint .i64) n3), (2, fn2 Try.prog kAction kAction (kint .i64) cmp4), (6, rd (kint .i64) 20), (7, rd (kint .i64) a9), (8, rd (kint .i64) b10)], ress [(0, Row v2 56 kAction l8)], _⟩
  cases m11 with
  | zero => cases h
  | succ m11 =>
    unfold F96_l1 at h
    generalize hgo1 : F96_l1 n3 cmp4 m11 = go1 at h
    refine AW.seq ?_
    refine AW.seq ?_
    refine AW.region ?_
    refine AOps.cons (op_move (A := rd (kint .i64) b10) rfl rfl (vt rfl)) rfl ?_
    refine AOps.cons (op_move (A := rd (kint .i64) n3) rfl rfl (vt rfl)) rfl ?_
    refine AOps.cons (op_leq rfl rfl (vt rfl) (vt rfl)) rfl ?_
    refine AOps.nil ?_
    refine AW.cond (vt rfl) (fun hc => ?_) (fun hc => ?_)
    · have h := cond_t hc h
      refine AW.skip ?_
      refine AW.block ?_
      refine AW.seq ?_
      obtain ⟨l12, hl12, h⟩ := bsome h
      refine AW.region ?_
      refine AOps.cons (op_move (A := raw v2) rfl rfl (vt rfl)) rfl ?_
      refine AOps.cons (op_move (A := rd (kint .i64) a9) rfl rfl (vt rfl)) rfl ?_
      refine AOps.cons (op_move (A := rd (kint .i64) b10) rfl rfl (vt rfl)) rfl ?_
      refine AOps.cons (op_move (A := fn2 Try.prog kAction kAction (kint .i64) cmp4) rfl rfl (vt rfl)) rfl ?_
      refine AOps.consT rfl (op_callR 0 (xs := [.tmp 14, .tmp 15, .tmp 16, .tmp 17]) (c100o _ _ _ _ _ _ hl12) (Ent.mk Try.func100 rfl rfl) rfl rfl ⟨vt rfl, vt rfl, vt rfl, vt rfl, trivial⟩ rfl) ?_
      rintro _ ⟨_u, rfl⟩
      refine AOps.nil ?_
      refine AW.seq ?_
      refine AW.region ?_
      refine AOps.cons (op_move (A := rd (kint .i64) b10) rfl rfl (vt rfl)) rfl ?_
      refine AOps.cons (op_assign (A := rd (kint .i64) b10) rfl rfl (vt rfl)) rfl ?_
      refine AOps.nil ?_
      refine AW.region ?_
      refine AOps.cons (op_move (A := rd (kint .i64) b10) rfl rfl (vt rfl)) rfl ?_
      refine AOps.cons (op_move (A := rd (kint .i64) 20) rfl rfl (vt rfl)) rfl ?_
      refine AOps.cons (op_add rfl rfl (vt rfl) (vt rfl)) rfl ?_
      refine AOps.cons (op_assign (A := rd (kint .i64) (IntKind.i64.wrap (b10 + 20))) rfl rfl (vt rfl)) rfl ?_
      refine AOps.nil ?_
      subst hgo1
      exact ⟨(m11, l12, b10, (IntKind.i64.wrap (b10 + 20))), Nat.lt_succ_self _, ⟨trivial, h⟩, ⟨rfl, ⟨rfl, rfl, rfl, rfl, rfl, rfl, trivial⟩, ⟨rfl, trivial⟩⟩⟩
    · have h := cond_f hc h
      refine AW.exit ?_
      refine AW.seq ?_
      obtain ⟨l13, hl13, h⟩ := bsome h
      refine AW.region ?_
      refine AOps.cons (op_move (A := raw v2) rfl rfl (vt rfl)) rfl ?_
      refine AOps.cons (op_move (A := rd (kint .i64) a9) rfl rfl (vt rfl)) rfl ?_
      refine AOps.cons (op_move (A := rd (kint .i64) n3) rfl rfl (vt rfl)) rfl ?_
      refine AOps.cons (op_move (A := fn2 Try.prog kAction kAction (kint .i64) cmp4) rfl rfl (vt rfl)) rfl ?_
      refine AOps.consT rfl (op_callR 0 (xs := [.tmp 23, .tmp 24, .tmp 25, .tmp 26]) (c100o _ _ _ _ _ _ hl13) (Ent.mk Try.func100 rfl rfl) rfl rfl ⟨vt rfl, vt rfl, vt rfl, vt rfl, trivial⟩ rfl) ?_
      rintro _ ⟨_u, rfl⟩
      refine AOps.nil ?_
      refine AW.block ?_
      refine AW.loopG (d := []) (ν := Nat × (List Action) × Int) (fun n => True ∧ F96_l2 n3 cmp4 n.1 n.2.1 n.2.2 = some r) (fun n => n.1) (fun n => [(0, raw v2), (1, rd (kint .i64) n3), (2, fn2 Try.prog kAction kAction (kint .i64) cmp4), (6, rd (kint .i64) n.2.2)]) (fun n => [(0, Row v2 56 kAction n.2.1)]) ((((n3 : Int) - 20).toNat + 1), l13, 20) ⟨trivial, h⟩ ⟨rfl, ⟨rfl, rfl, rfl, rfl, trivial⟩, ⟨rfl, trivial⟩⟩ ?_
      rintro ⟨m18, l16, blockSize17⟩ ⟨hsf2, h⟩
      change True at hsf2
      change F96_l2 n3 cmp4 m18 l16 blockSize17 = some r at h
      change AW _ _ _ ⟨slots [(0, raw v2), (1, rd (kint .i64) n3), (2, fn2 Try.prog kAction kAction (kint .i64) cmp4), (6, rd (kint .i64) blockSize17)], ress [(0, Row v2 56 kAction l16)], _⟩
      cases m18 with
      | zero => cases h
      | succ m18 =>
        unfold F96_l2 at h
        generalize hgo2 : F96_l2 n3 cmp4 m18 = go2 at h
        refine AW.seq ?_
        refine AW.seq ?_
        refine AW.region ?_
        refine AOps.cons (op_move (A := rd (kint .i64) blockSize17) rfl rfl (vt rfl)) rfl ?_
        refine AOps.cons (op_move (A := rd (kint .i64) n3) rfl rfl (vt rfl)) rfl ?_
        refine AOps.cons (op_lss rfl rfl (vt rfl) (vt rfl)) rfl ?_
        refine AOps.nil ?_
        refine AW.cond (vt rfl) (fun hc => ?_) (fun hc => ?_)
        · have h := cond_t hc h
          refine AW.skip ?_
          refine AW.block ?_
          refine AW.seq ?_
          refine AW.region ?_
          refine AOps.cons (op_move (A := rd (kint .i64) blockSize17) rfl rfl (vt rfl)) rfl ?_
          refine AOps.cons (op_mul rfl rfl (vk rfl) (vt rfl)) rfl ?_
          refine AOps.cons (op_assign (A := rd (kint .i64) 0) rfl rfl (vk rfl)) rfl ?_
          refine AOps.cons (op_assign (A := rd (kint .i64) (IntKind.i64.wrap (2 * blockSize17))) rfl rfl (vt rfl)) rfl ?_
          refine AOps.nil ?_
          refine AW.seq ?_
          refine AW.block ?_
          refine AW.loopG (d := []) (ν := Nat × (List Action) × Int × Int) (fun n => True ∧ F96_l3 n3 blockSize17 cmp4 go2 n.1 n.2.1 n.2.2.1 n.2.2.2 = some r) (fun n => n.1) (fun n => [(0, raw v2), (1, rd (kint .i64) n3), (2, fn2 Try.prog kAction kAction (kint .i64) cmp4), (6, rd (kint .i64) blockSize17), (7, rd (kint .i64) n.2.2.1), (8, rd (kint .i64) n.2.2.2)]) (fun n => [(0, Row v2 56 kAction n.2.1)]) ((((n3 : Int) - (IntKind.i64.wrap (2 * blockSize17))).toNat + 2), l16, 0, (IntKind.i64.wrap (2 * blockSize17))) ⟨trivial, h⟩ ⟨rfl, ⟨rfl, rfl, rfl, rfl, rfl, rfl, trivial⟩, ⟨rfl, trivial⟩⟩ ?_
          rintro ⟨m25, l22, a23, b24⟩ ⟨hsf3, h⟩
          change True at hsf3
          change F96_l3 n3 blockSize17 cmp4 go2 m25 l22 a23 b24 = some r at h
          change AW _ _ _ ⟨slots [(0, raw v2), (1, rd (kint .i64) n3), (2, fn2 Try.prog kAction kAction (kint .i64) cmp4), (6, rd (kint .i64) blockSize17), (7, rd (kint .i64) a23), (8, rd (kint .i64) b24)], ress [(0, Row v2 56 kAction l22)], _⟩
          cases m25 with
          | zero => cases h
          | succ m25 =>
            unfold F96_l3 at h
            generalize hgo3 : F96_l3 n3 blockSize17 cmp4 go2 m25 = go3 at h
            refine AW.seq ?_
            refine AW.seq ?_
            refine AW.region ?_
            refine AOps.cons (op_move (A := rd (kint .i64) b24) rfl rfl (vt rfl)) rfl ?_
            refine AOps.cons (op_move (A := rd (kint .i64) n3) rfl rfl (vt rfl)) rfl ?_
            refine AOps.cons (op_leq rfl rfl (vt rfl) (vt rfl)) rfl ?_
            refine AOps.nil ?_
            refine AW.cond (vt rfl) (fun hc => ?_) (fun hc => ?_)
            · have h := cond_t hc h
              refine AW.skip ?_
              refine AW.block ?_
              refine AW.seq ?_
              obtain ⟨l26, hl26, h⟩ := bsome h
              refine AW.region ?_
              refine AOps.cons (op_move (A := raw v2) rfl rfl (vt rfl)) rfl ?_
              refine AOps.cons (op_move (A := rd (kint .i64) a23) rfl rfl (vt rfl)) rfl ?_
              refine AOps.cons (op_move (A := rd (kint .i64) a23) rfl rfl (vt rfl)) rfl ?_
              refine AOps.cons (op_move (A := rd (kint .i64) blockSize17) rfl rfl (vt rfl)) rfl ?_
              refine AOps.cons (op_add rfl rfl (vt rfl) (vt rfl)) rfl ?_
              refine AOps.cons (op_move (A := rd (kint .i64) b24) rfl rfl (vt rfl)) rfl ?_
              refine AOps.cons (op_move (A := fn2 Try.prog kAction kAction (kint .i64) cmp4) rfl rfl (vt rfl)) rfl ?_
              refine AOps.consT rfl (op_callR 0 (xs := [.tmp 36, .tmp 37, .tmp 40, .tmp 41, .tmp 42]) (c101o _ _ _ _ _ _ _ hl26) (Ent.mk Try.func101 rfl rfl) rfl rfl ⟨vt rfl, vt rfl, vt rfl, vt rfl, vt rfl, trivial⟩ rfl) ?_
              rintro _ ⟨_u, rfl⟩
              refine AOps.nil ?_
              refine AW.seq ?_
              refine AW.region ?_
              refine AOps.cons (op_move (A := rd (kint .i64) b24) rfl rfl (vt rfl)) rfl ?_
              refine AOps.cons (op_assign (A := rd (kint .i64) b24) rfl rfl (vt rfl)) rfl ?_
              refine AOps.nil ?_
              refine AW.region ?_
              refine AOps.cons (op_move (A := rd (kint .i64) b24) rfl rfl (vt rfl)) rfl ?_
              refine AOps.cons (op_move (A := rd (kint .i64) blockSize17) rfl rfl (vt rfl)) rfl ?_
              refine AOps.cons (op_mul rfl rfl (vk rfl) (vt rfl)) rfl ?_
              refine AOps.cons (op_add rfl rfl (vt rfl) (vt rfl)) rfl ?_
              refine AOps.cons (op_assign (A := rd (kint .i64) (IntKind.i64.wrap (b24 + (IntKind.i64.wrap (2 * blockSize17))))) rfl rfl (vt rfl)) rfl ?_
              refine AOps.nil ?_
              subst hgo3
              exact ⟨(m25, l26, b24, (IntKind.i64.wrap (b24 + (IntKind.i64.wrap (2 * blockSize17))))), Nat.lt_succ_self _, ⟨trivial, h⟩, ⟨rfl, ⟨rfl, rfl, rfl, rfl, rfl, rfl, trivial⟩, ⟨rfl, trivial⟩⟩⟩
            · have h := cond_f hc h
              refine AW.exit ?_
              refine AW.seq ?_
              refine AW.seq ?_
              refine AW.region ?_
              refine AOps.cons (op_move (A := rd (kint .i64) a23) rfl rfl (vt rfl)) rfl ?_
              refine AOps.cons (op_move (A := rd (kint .i64) blockSize17) rfl rfl (vt rfl)) rfl ?_
              refine AOps.cons (op_add rfl rfl (vt rfl) (vt rfl)) rfl ?_
              refine AOps.cons (op_assign (A := rd (kint .i64) (IntKind.i64.wrap (a23 + blockSize17))) rfl rfl (vt rfl)) rfl ?_
              refine AOps.nil ?_
              refine AW.seq ?_
              refine AW.region ?_
              refine AOps.cons (op_move (A := rd (kint .i64) (IntKind.i64.wrap (a23 + blockSize17))) rfl rfl (vt rfl)) rfl ?_
              refine AOps.cons (op_move (A := rd (kint .i64) n3) rfl rfl (vt rfl)) rfl ?_
              refine AOps.cons (op_lss rfl rfl (vt rfl) (vt rfl)) rfl ?_
              refine AOps.nil ?_
              refine AW.cond (vt rfl) (fun hc => ?_) (fun hc => ?_)
              · have h := cond_t hc h
                obtain ⟨l27, hl27, h⟩ := bsome h
                refine AW.region ?_
                refine AOps.cons (op_move (A := raw v2) rfl rfl (vt rfl)) rfl ?_
                refine AOps.cons (op_move (A := rd (kint .i64) a23) rfl rfl (vt rfl)) rfl ?_
                refine AOps.cons (op_move (A := rd (kint .i64) (IntKind.i64.wrap (a23 + blockSize17))) rfl rfl (vt rfl)) rfl ?_
                refine AOps.cons (op_move (A := rd (kint .i64) n3) rfl rfl (vt rfl)) rfl ?_
                refine AOps.cons (op_move (A := fn2 Try.prog kAction kAction (kint .i64) cmp4) rfl rfl (vt rfl)) rfl ?_
                refine AOps.consT rfl (op_callR 0 (xs := [.tmp 55, .tmp 56, .tmp 57, .tmp 58, .tmp 59]) (c101o _ _ _ _ _ _ _ hl27) (Ent.mk Try.func101 rfl rfl) rfl rfl ⟨vt rfl, vt rfl, vt rfl, vt rfl, vt rfl, trivial⟩ rfl) ?_
                rintro _ ⟨_u, rfl⟩
                refine AOps.nil ?_
                refine AW.region ?_
                refine AOps.cons (op_move (A := rd (kint .i64) blockSize17) rfl rfl (vt rfl)) rfl ?_
                refine AOps.cons (op_mul rfl rfl (vt rfl) (vk rfl)) rfl ?_
                refine AOps.cons (op_assign (A := rd (kint .i64) (IntKind.i64.wrap (blockSize17 * 2))) rfl rfl (vt rfl)) rfl ?_
                refine AOps.nil ?_
                subst hgo2
                exact ⟨(m18, l27, (IntKind.i64.wrap (blockSize17 * 2))), Nat.lt_succ_self _, ⟨trivial, h⟩, ⟨rfl, ⟨rfl, rfl, rfl, rfl, trivial⟩, ⟨rfl, trivial⟩⟩⟩
              · have h := cond_f hc h
                refine AW.skip ?_
                refine AW.region ?_
                refine AOps.cons (op_move (A := rd (kint .i64) blockSize17) rfl rfl (vt rfl)) rfl ?_
                refine AOps.cons (op_mul rfl rfl (vt rfl) (vk rfl)) rfl ?_
                refine AOps.cons (op_assign (A := rd (kint .i64) (IntKind.i64.wrap (blockSize17 * 2))) rfl rfl (vt rfl)) rfl ?_
                refine AOps.nil ?_
                subst hgo2
                exact ⟨(m18, l22, (IntKind.i64.wrap (blockSize17 * 2))), Nat.lt_succ_self _, ⟨trivial, h⟩, ⟨rfl, ⟨rfl, rfl, rfl, rfl, trivial⟩, ⟨rfl, trivial⟩⟩⟩
        · have h := cond_f hc h
          refine AW.exit ?_
          obtain rfl := Option.some.inj h
          exact ret0Y (i := 0) Try.results96 rfl rfl
-- slices.SortStableFunc[[]weirbox/api.Action,weirbox/api.Action]
def F83 (x1 : (List Action)) (cmp3 : (Action → Action → Option Int)) : Option (List Action) :=
  (F96 x1 (x1.length : Int) cmp3).bind fun l4 => some l4
theorem c83o (v2 : Value) (x1 : (List Action)) (cmp3 : (Action → Action → Option Int)) (r : (List Action)) (h : F83 x1 cmp3 = some r) : Con Try.prog 83 [raw v2, fn2 Try.prog kAction kAction (kint .i64) cmp3] (Row v2 56 kAction x1) (fun _ : Unit => top) (fun _ => Row v2 56 kAction r) := by
  refine Con.intro Try.func83 rfl Try.ntmps83 rfl fun w H X => ?_
  unfold F83 at h
  obtain ⟨l4, hl4, h⟩ := bsome h
  refine AW.region ?_
  refine AOps.cons (op_move (A := raw v2) rfl rfl (vt rfl)) rfl ?_
  refine AOps.cons (op_move (A := raw v2) rfl rfl (vt rfl)) rfl ?_
  refine AOps.cons (op_leno 0 rfl rfl sl22 (vt rfl) rfl) rfl ?_
  refine AOps.cons (op_move (A := fn2 Try.prog kAction kAction (kint .i64) cmp3) rfl rfl (vt rfl)) rfl ?_
  refine AOps.consT rfl (op_callR 0 (xs := [.tmp 4, .tmp 6, .tmp 7]) (c96o _ _ _ _ _ hl4) (Ent.mk Try.func96 rfl rfl) rfl rfl ⟨vt rfl, vt rfl, vt rfl, trivial⟩ rfl) ?_
  rintro _ ⟨_u, rfl⟩
  refine AOps.nil ?_
  obtain rfl := Option.some.inj h
  exact ret0Y (i := 0) Try.results83 rfl rfl
-- weirbox/aset.List$3
def F84 (a1 : Action) (b2 : Action) : Option Int :=
  (F85 a1).bind fun x5 => (F85 b2).bind fun x6 => (F82 x5.kind).bind fun x9 => (F82 x6.kind).bind fun x10 => (bif (decide ((IntKind.i64.wrap (x9 - x10)) ≠ 0)) then some (IntKind.i64.wrap (x9 - x10)) else (bif (decide (x5.field < x6.field)) then some (-1) else (bif (decide (x5.field > x6.field)) then some 1 else some 0)))
theorem c84 (a1 : Action) (b2 : Action) (r : Int) (h : F84 a1 b2 = some r) : PCon Try.prog 84 [rd kAction a1, rd kAction b2] (rd (kint .i64) r) := by
  refine PCon.of (Con.intro0 Try.func84 rfl Try.ntmps84 rfl fun w H => ?_)
  unfold F84 at h
  refine AW.seq ?_
  refine AW.region ?_
  refine AOps.consT rfl (op_box 3 rfl rfl (vt rfl)) ?_
  rintro _ ⟨g3, rfl⟩
  refine AOps.consT rfl (op_box 4 rfl rfl (vt rfl)) ?_
  rintro _ ⟨g4, rfl⟩
  refine AOps.cons (op_assign (A := rd (kint .i64) 0) rfl rfl (vk rfl)) rfl ?_
  refine AOps.nil ?_
  refine AW.seq ?_
  obtain ⟨x5, hx5, h⟩ := bsome h
  obtain ⟨x6, hx6, h⟩ := bsome h
  refine AW.regionAny [⟨[2], [8], [3], []⟩, ⟨[8], [9], [], []⟩, ⟨[3], [10], [4], []⟩, ⟨[10], [11], [], []⟩, ⟨[], [5], [], []⟩, ⟨[], [6], [], []⟩, ⟨[5, 9], [5], [], []⟩, ⟨[6, 11], [6], [], []⟩] mixed (by kernel_rfl) ?_
  refine SeqA.cons (loc [2] [3] rfl rfl fun S hs hr => op_load rfl rfl ty56 (vt ((hs 2 rfl).trans rfl)) (i := 3) ((hr 3 rfl).trans rfl)) ⟨rfl, rfl, rfl, rfl⟩ ?_
  refine SeqA.cons (loc [8] [] rfl rfl fun S hs hr => op_call (xs := [.tmp 8]) (c85 _ _ hx5) (Ent.mk Try.func85 rfl rfl) rfl rfl ⟨vt ((hs 8 rfl).trans rfl), trivial⟩) ⟨rfl, rfl, rfl, rfl⟩ ?_
  refine SeqA.cons (loc [3] [4] rfl rfl fun S hs hr => op_load rfl rfl ty56 (vt ((hs 3 rfl).trans rfl)) (i := 4) ((hr 4 rfl).trans rfl)) ⟨rfl, rfl, rfl, rfl⟩ ?_
  refine SeqA.cons (loc [10] [] rfl rfl fun S hs hr => op_call (xs := [.tmp 10]) (c85 _ _ hx6) (Ent.mk Try.func85 rfl rfl) rfl rfl ⟨vt ((hs 10 rfl).trans rfl), trivial⟩) ⟨rfl, rfl, rfl, rfl⟩ ?_
  refine SeqA.cons (locs (us := [(5, ownP 122 kaset_spot zaset_spot)]) (ur := []) [] [] rfl fun S hs hr => op_allocO rfl rfl rfl zr122) ⟨rfl, rfl, rfl, rfl⟩ ?_
  refine SeqA.cons (locs (us := [(6, ownP 122 kaset_spot zaset_spot)]) (ur := []) [] [] rfl fun S hs hr => op_allocO rfl rfl rfl zr122) ⟨rfl, rfl, rfl, rfl⟩ ?_
  refine SeqA.cons (locs (us := [(5, ownP 122 kaset_spot x5)]) (ur := []) [5, 9] [] rfl fun S hs hr => op_storeO rfl rfl ty122 ((hs 5 rfl).trans rfl) (vt ((hs 9 rfl).trans rfl))) ⟨rfl, rfl, rfl, rfl⟩ ?_
  refine SeqA.cons (locs (us := [(6, ownP 122 kaset_spot x6)]) (ur := []) [6, 11] [] rfl fun S hs hr => op_storeO rfl rfl ty122 ((hs 6 rfl).trans rfl) (vt ((hs 11 rfl).trans rfl))) ⟨rfl, rfl, rfl, rfl⟩ ?_
  refine AW.unpackP 5 6 rfl rfl fun g7 => ?_
  refine AW.unpackP 6 7 rfl rfl fun g8 => ?_
  refine AW.seq ?_
  refine AW.seq ?_
  obtain ⟨x9, hx9, h⟩ := bsome h
  obtain ⟨x10, hx10, h⟩ := bsome h
  refine AW.regionAny [⟨[5], [12], [], []⟩, ⟨[12], [13], [6], []⟩, ⟨[13], [14], [], []⟩, ⟨[6], [15], [], []⟩, ⟨[15], [16], [7], []⟩, ⟨[16], [17], [], []⟩, ⟨[14, 17], [18], [], []⟩, ⟨[18], [7], [], []⟩] mixed (by kernel_rfl) ?_
  refine SeqA.cons (loc [5] [] rfl rfl fun S hs hr => op_field laset_spot_0 rfl rfl fl122_0 (vt ((hs 5 rfl).trans rfl))) ⟨rfl, rfl, rfl, rfl⟩ ?_
  refine SeqA.cons (loc [12] [6] rfl rfl fun S hs hr => op_load rfl rfl ty3 (vt ((hs 12 rfl).trans rfl)) (i := 6) ((hr 6 rfl).trans rfl)) ⟨rfl, rfl, rfl, rfl⟩ ?_
  refine SeqA.cons (loc [13] [] rfl rfl fun S hs hr => op_call (xs := [.tmp 13]) (c82 _ _ hx9) (Ent.mk Try.func82 rfl rfl) rfl rfl ⟨vt ((hs 13 rfl).trans rfl), trivial⟩) ⟨rfl, rfl, rfl, rfl⟩ ?_
  refine SeqA.cons (loc [6] [] rfl rfl fun S hs hr => op_field laset_spot_0 rfl rfl fl122_0 (vt ((hs 6 rfl).trans rfl))) ⟨rfl, rfl, rfl, rfl⟩ ?_
  refine SeqA.cons (loc [15] [7] rfl rfl fun S hs hr => op_load rfl rfl ty3 (vt ((hs 15 rfl).trans rfl)) (i := 7) ((hr 7 rfl).trans rfl)) ⟨rfl, rfl, rfl, rfl⟩ ?_
  refine SeqA.cons (loc [16] [] rfl rfl fun S hs hr => op_call (xs := [.tmp 16]) (c82 _ _ hx10) (Ent.mk Try.func82 rfl rfl) rfl rfl ⟨vt ((hs 16 rfl).trans rfl), trivial⟩) ⟨rfl, rfl, rfl, rfl⟩ ?_
  refine SeqA.cons (loc [14, 17] [] rfl rfl fun S hs hr => op_sub rfl rfl (vt ((hs 14 rfl).trans rfl)) (vt ((hs 17 rfl).trans rfl))) ⟨rfl, rfl, rfl, rfl⟩ ?_
  refine SeqA.cons (loc [18] [] rfl rfl fun S hs hr => op_assign (A := rd (kint .i64) (IntKind.i64.wrap (x9 - x10))) rfl rfl (vt ((hs 18 rfl).trans rfl))) ⟨rfl, rfl, rfl, rfl⟩ ?_
  refine AW.seq ?_
  refine AW.region ?_
  refine AOps.cons (op_move (A := rd (kint .i64) (IntKind.i64.wrap (x9 - x10))) rfl rfl (vt rfl)) rfl ?_
  refine AOps.cons (op_neq rfl rfl (vt rfl) (vk rfl)) rfl ?_
  refine AOps.nil ?_
  refine AW.cond (vt rfl) (fun hc => ?_) (fun hc => ?_)
  · have h := cond_t hc h
    refine AW.seq ?_
    refine AW.region ?_
    refine AOps.cons (op_move (A := rd (kint .i64) (IntKind.i64.wrap (x9 - x10))) rfl rfl (vt rfl)) rfl ?_
    refine AOps.cons (op_assign (A := rd (kint .i64) (IntKind.i64.wrap (x9 - x10))) rfl rfl (vt rfl)) rfl ?_
    refine AOps.nil ?_
    refine AW.ret ?_
    obtain rfl := Option.some.inj h
    exact ret1 Try.results84 rfl (out_tmp rfl)
  · have h := cond_f hc h
    refine AW.skip ?_
    refine AW.seq ?_
    refine AW.block ?_
    refine AW.seq ?_
    refine AW.region ?_
    refine AOps.cons (op_field laset_spot_1 rfl rfl fl122_1 (vt rfl)) rfl ?_
    refine AOps.cons (op_load rfl rfl ty3 (vt rfl) (i := 6) rfl) rfl ?_
    refine AOps.cons (op_field laset_spot_1 rfl rfl fl122_1 (vt rfl)) rfl ?_
    refine AOps.cons (op_load rfl rfl ty3 (vt rfl) (i := 7) rfl) rfl ?_
    refine AOps.cons (op_lss rfl rfl (vt rfl) (vt rfl)) rfl ?_
    refine AOps.cons (op_assign (A := rd kbool (decide (x5.field < x6.field))) rfl rfl (vt rfl)) rfl ?_
    refine AOps.nil ?_
    refine AW.cond (vt rfl) (fun hc => ?_) (fun hc => ?_)
    · have h := cond_t hc h
      refine AW.seq ?_
      refine AW.region ?_
      refine AOps.cons (op_assign (A := rd (kint .i64) (-1)) rfl rfl (vk rfl)) rfl ?_
      refine AOps.nil ?_
      refine AW.ret ?_
      obtain rfl := Option.some.inj h
      exact ret1 Try.results84 rfl (out_tmp rfl)
    · have h := cond_f hc h
      refine AW.seq ?_
      refine AW.region ?_
      refine AOps.cons (op_field laset_spot_1 rfl rfl fl122_1 (vt rfl)) rfl ?_
      refine AOps.cons (op_load rfl rfl ty3 (vt rfl) (i := 6) rfl) rfl ?_
      refine AOps.cons (op_field laset_spot_1 rfl rfl fl122_1 (vt rfl)) rfl ?_
      refine AOps.cons (op_load rfl rfl ty3 (vt rfl) (i := 7) rfl) rfl ?_
      refine AOps.cons (op_gtr rfl rfl (vt rfl) (vt rfl)) rfl ?_
      refine AOps.cons (op_assign (A := rd kbool (decide (x5.field > x6.field))) rfl rfl (vt rfl)) rfl ?_
      refine AOps.nil ?_
      refine AW.cond (vt rfl) (fun hc => ?_) (fun hc => ?_)
      · have h := cond_t hc h
        refine AW.seq ?_
        refine AW.region ?_
        refine AOps.cons (op_assign (A := rd (kint .i64) 1) rfl rfl (vk rfl)) rfl ?_
        refine AOps.nil ?_
        refine AW.ret ?_
        obtain rfl := Option.some.inj h
        exact ret1 Try.results84 rfl (out_tmp rfl)
      · have h := cond_f hc h
        refine AW.skip ?_
        refine AW.seq ?_
        refine AW.region ?_
        refine AOps.cons (op_assign (A := rd (kint .i64) 0) rfl rfl (vk rfl)) rfl ?_
        refine AOps.nil ?_
        refine AW.ret ?_
        obtain rfl := Option.some.inj h
        exact ret1 Try.results84 rfl (out_tmp rfl)
-- weirbox/aset.List
def F67 (set1 : (List Action)) : Option (List Action) :=
  (F77 set1 F78).bind fun x2 => (F80 set1).bind fun x4 => (F79 x4 (fun x => F81 x x2)).bind fun x6 => (F83 x6 F84).bind fun l8 => some l8
theorem c67 (set1 : (List Action)) (r : (List Action)) (h : F67 set1 = some r) : PCon Try.prog 67 [rd (ksl kAction) set1] (rd (ksl kAction) r) := by
  refine PCon.of (Con.intro0 Try.func67 rfl Try.ntmps67 rfl fun w H => ?_)
  unfold F67 at h
  refine AW.seq ?_
  refine AW.region ?_
  refine AOps.cons (op_assign (A := rd (ksl kAction) []) rfl rfl vnil) rfl ?_
  refine AOps.nil ?_
  refine AW.seq ?_
  obtain ⟨x2, hx2, h⟩ := bsome h
  refine AW.region ?_
  refine AOps.cons (op_move (A := rd (ksl kAction) set1) rfl rfl (vt rfl)) rfl ?_
  refine AOps.cons (op_call (xs := [.tmp 5, .func 78]) (c77 _ _ _ hx2) (Ent.mk Try.func77 rfl rfl) rfl rfl ⟨vt rfl, vf1 (Ent.mk Try.func78 rfl rfl) c78, trivial⟩) rfl ?_
  refine AOps.consT rfl (op_alloc 4 rfl rfl zr4) ?_
  rintro _ ⟨g3, rfl⟩
  refine AOps.cons (op_store rfl rfl ty4 (vt rfl) (i := 4) rfl (vt rfl)) rfl ?_
  refine AOps.nil ?_
  refine AW.seq ?_
  refine AW.freezeB 3 4 rfl rfl rfl ?_
  obtain ⟨x4, hx4, h⟩ := bsome h
  obtain ⟨x6, hx6, h⟩ := bsome h
  refine AW.region ?_
  refine AOps.cons (op_move (A := rd (ksl kAction) set1) rfl rfl (vt rfl)) rfl ?_
  refine AOps.consT rfl (op_callR 1001 (xs := [.tmp 7]) (c80o _ _ hx4) (Ent.mk Try.func80 rfl rfl) rfl rfl ⟨vt rfl, trivial⟩ rfl) ?_
  rintro _ ⟨v5, rfl⟩
  refine AOps.cons (op_fn1 (cs := [.tmp 3]) (CAs := [rp kbool x2]) (fun x => F81 x x2) rfl rfl (Ent.mk Try.func81 rfl rfl) ⟨vt rfl, trivial⟩ (fun x y h => c81 _ _ y h)) rfl ?_
  refine AOps.consT rfl (op_callR 1001 (xs := [.tmp 8, .tmp 9]) (c79o _ _ _ _ hx6) (Ent.mk Try.func79 rfl rfl) rfl rfl ⟨vt rfl, vt rfl, trivial⟩ rfl) ?_
  rintro _ ⟨v7, rfl⟩
  refine AOps.cons (op_assign (A := raw v7) rfl rfl (vt rfl)) rfl ?_
  refine AOps.nil ?_
  refine AW.seq ?_
  obtain ⟨l8, hl8, h⟩ := bsome h
  refine AW.region ?_
  refine AOps.cons (op_move (A := raw v7) rfl rfl (vt rfl)) rfl ?_
  refine AOps.consT rfl (op_callR 1001 (xs := [.tmp 11, .func 84]) (c83o _ _ _ _ hl8) (Ent.mk Try.func83 rfl rfl) rfl rfl ⟨vt rfl, vf2 (Ent.mk Try.func84 rfl rfl) c84, trivial⟩ rfl) ?_
  rintro _ ⟨_u, rfl⟩
  refine AOps.nil ?_
  refine AW.seq ?_
  refine AW.region ?_
  refine AOps.cons (op_move (A := raw v7) rfl rfl (vt rfl)) rfl ?_
  refine AOps.cons (op_assign (A := raw v7) rfl rfl (vt rfl)) rfl ?_
  refine AOps.nil ?_
  refine AW.freezes [2, 4, 10, 11, 13] 1001 rfl ⟨rfl, rfl, rfl, rfl, rfl, trivial⟩ rfl ?_
  refine AW.ret ?_
  obtain rfl := Option.some.inj h
  exact ret1 Try.results67 rfl (out_tmp rfl)
-- weirbox/exec.most
def F53 (a1 : Action) : Option Int :=
  (bif (decide (a1.Port = 4294967293)) then some a1.Max else some 0)
theorem c53 (a1 : Action) (r : Int) (h : F53 a1 = some r) : PCon Try.prog 53 [rd kAction a1] (rd (kint .i64) r) := by
  refine PCon.of (Con.intro0 Try.func53 rfl Try.ntmps53 rfl fun w H => ?_)
  unfold F53 at h
  refine AW.seq ?_
  refine AW.region ?_
  refine AOps.consT rfl (op_box 2 rfl rfl (vt rfl)) ?_
  rintro _ ⟨g2, rfl⟩
  refine AOps.cons (op_assign (A := rd (kint .i64) 0) rfl rfl (vk rfl)) rfl ?_
  refine AOps.nil ?_
  refine AW.seq ?_
  refine AW.seq ?_
  refine AW.region ?_
  refine AOps.cons (op_field lAction_1 rfl rfl fl56_1 (vt rfl)) rfl ?_
  refine AOps.cons (op_load rfl rfl ty3 (vt rfl) (i := 2) rfl) rfl ?_
  refine AOps.cons (op_eql rfl rfl (vt rfl) (vk rfl)) rfl ?_
  refine AOps.nil ?_
  refine AW.cond (vt rfl) (fun hc => ?_) (fun hc => ?_)
  · have h := cond_t hc h
    refine AW.seq ?_
    refine AW.region ?_
    refine AOps.cons (op_field lAction_2 rfl rfl fl56_2 (vt rfl)) rfl ?_
    refine AOps.cons (op_load rfl rfl ty3 (vt rfl) (i := 2) rfl) rfl ?_
    refine AOps.cons (op_assign (A := rd (kint .i64) a1.Max) rfl rfl (vt rfl)) rfl ?_
    refine AOps.nil ?_
    refine AW.ret ?_
    obtain rfl := Option.some.inj h
    exact ret1 Try.results53 rfl (out_tmp rfl)
  · have h := cond_f hc h
    refine AW.skip ?_
    refine AW.seq ?_
    refine AW.region ?_
    refine AOps.cons (op_assign (A := rd (kint .i64) 0) rfl rfl (vk rfl)) rfl ?_
    refine AOps.nil ?_
    refine AW.ret ?_
    obtain rfl := Option.some.inj h
    exact ret1 Try.results53 rfl (out_tmp rfl)
-- (*weirbox/exec.run).do
def F29s_l1 (R54 : (exec_run → Int → Option exec_run)) : (List Action) → Nat → (List Out) → Env → (List Group) → (Vector Wide 24) → Int → Option exec_run
  | [], i17, l11, b13, b14, b15, b16 => some (⟨b13, b14, l11, b15, b16⟩ : exec_run)
  | x19 :: l18, i17, l11, b13, b14, b15, b16 => (bif (decide (x19.Kind = 0)) then (F53 x19).bind fun x21 => (appd l11 [(⟨x19.Port, x21, b15⟩ : Out)]).bind fun l22 => (F29s_l1 R54 l18) (i17 + 1) l22 b13 b14 b15 b16 else (bif (decide (x19.Kind = 22)) then (R54 (⟨b13, b14, l11, b15, b16⟩ : exec_run) x19.Group).bind fun b24 => (F29s_l1 R54 l18) (i17 + 1) b24.out b24.Env b24.groups b24.header b24.depth else (F41 x19).bind fun x26 => (F14 x26 b15).bind fun x27 => (F29s_l1 R54 l18) (i17 + 1) l11 b13 b14 x27 b16))
def F29s (R29 : (exec_run → (List Action) → Option exec_run)) (R54 : (exec_run → Int → Option exec_run)) (r1 : exec_run) (acts4 : (List Action)) : Option exec_run :=
  F29s_l1 R54 acts4 0 r1.out r1.Env r1.groups r1.header r1.depth
theorem c29s (R29 : (exec_run → (List Action) → Option exec_run)) (hR29 : ∀ (g2 : Nat) (r1 : exec_run) (acts4 : (List Action)) (r : exec_run), R29 r1 acts4 = some r → Con Try.prog 29 [ptrL g2 (Lens.id kexec_run_o2), rd (ksl kAction) acts4] (BoxF g2 78 kexec_run_o2 (fun v => (⟨r1.Env, r1.groups, v, r1.header, r1.depth⟩ : exec_run_o2)) 59 kOut r1.out) (fun _ : Unit => top) (fun _ => BoxF g2 78 kexec_run_o2 (fun v => (⟨r.Env, r.groups, v, r.header, r.depth⟩ : exec_run_o2)) 59 kOut r.out)) (R54 : (exec_run → Int → Option exec_run)) (hR54 : ∀ (g2 : Nat) (r1 : exec_run) (id4 : Int) (r : exec_run), R54 r1 id4 = some r → Con Try.prog 54 [ptrL g2 (Lens.id kexec_run_o2), rd (kint .i64) id4] (BoxF g2 78 kexec_run_o2 (fun v => (⟨r1.Env, r1.groups, v, r1.header, r1.depth⟩ : exec_run_o2)) 59 kOut r1.out) (fun _ : Unit => top) (fun _ => BoxF g2 78 kexec_run_o2 (fun v => (⟨r.Env, r.groups, v, r.header, r.depth⟩ : exec_run_o2)) 59 kOut r.out)) (g2 : Nat) (r1 : exec_run) (acts4 : (List Action)) (r : exec_run) (h : F29s R29 R54 r1 acts4 = some r) : Con Try.prog 29 [ptrL g2 (Lens.id kexec_run_o2), rd (ksl kAction) acts4] (BoxF g2 78 kexec_run_o2 (fun v => (⟨r1.Env, r1.groups, v, r1.header, r1.depth⟩ : exec_run_o2)) 59 kOut r1.out) (fun _ : Unit => top) (fun _ => BoxF g2 78 kexec_run_o2 (fun v => (⟨r.Env, r.groups, v, r.header, r.depth⟩ : exec_run_o2)) 59 kOut r.out) := by
  refine Con.intro Try.func29 rfl Try.ntmps29 rfl fun w H X => ?_
  unfold F29s at h
  refine AW.unboxF 0 2002 (by decide) rfl rfl fun v3 => ?_
  refine AW.seq ?_
  refine AW.region ?_
  refine AOps.cons (op_move (A := rd (ksl kAction) acts4) rfl rfl (vt rfl)) rfl ?_
  refine AOps.cons (op_len' rfl rfl sl22 (vt rfl)) rfl ?_
  refine AOps.cons (op_move (A := rd (kint .i64) 0) rfl rfl (vk rfl)) rfl ?_
  refine AOps.nil ?_
  refine AW.block ?_
  refine AW.loopG (d := []) (ν := (List Action) × Nat × (List Out) × Env × (List Group) × (Vector Wide 24) × Int × Value) (fun n => Sfx acts4 n.2.1 n.1 ∧ F29s_l1 R54 n.1 n.2.1 n.2.2.1 n.2.2.2.1 n.2.2.2.2.1 n.2.2.2.2.2.1 n.2.2.2.2.2.2.1 = some r) (fun n => n.1.length) (fun n => [(0, ptrL g2 (Lens.id kexec_run_o2)), (6, rd (ksl kAction) acts4), (7, rd (kint .i64) (acts4.length : Int)), (8, rd (kint .i64) (n.2.1 : Int))]) (fun n => [(0, Blk g2 78 kexec_run_o2 (⟨n.2.2.2.1, n.2.2.2.2.1, n.2.2.2.2.2.2.2, n.2.2.2.2.2.1, n.2.2.2.2.2.2.1⟩ : exec_run_o2)), (2002, Row n.2.2.2.2.2.2.2 59 kOut n.2.2.1)]) (acts4, 0, r1.out, r1.Env, r1.groups, r1.header, r1.depth, v3) ⟨Sfx.start _, h⟩ ⟨rfl, ⟨rfl, rfl, rfl, rfl, trivial⟩, ⟨rfl, rfl, trivial⟩⟩ ?_
  rintro ⟨l18, i17, l11, b13, b14, b15, b16, v12⟩ ⟨hsf1, h⟩
  change Sfx acts4 i17 l18 at hsf1
  change F29s_l1 R54 l18 i17 l11 b13 b14 b15 b16 = some r at h
  change AW _ _ _ ⟨slots [(0, ptrL g2 (Lens.id kexec_run_o2)), (6, rd (ksl kAction) acts4), (7, rd (kint .i64) (acts4.length : Int)), (8, rd (kint .i64) (i17 : Int))], ress [(0, Blk g2 78 kexec_run_o2 (⟨b13, b14, v12, b15, b16⟩ : exec_run_o2)), (2002, Row v12 59 kOut l11)], _⟩
  cases l18 with
  | nil =>
    unfold F29s_l1 at h
    refine AW.seq ?_
    refine AW.region ?_
    refine AOps.cons (op_lss rfl rfl (vt rfl) (vt rfl)) rfl ?_
    refine AOps.nil ?_
    refine AW.seq ?_
    refine AW.cond (vt rfl) (fun hc => absurd (of_decide_eq_true hc) hsf1.nil) (fun hc => ?_)
    refine AW.exit ?_
    obtain rfl := Option.some.inj h
    exact RetOK.turn (Turn.packF 0 2002 (fun v => (⟨b13, b14, v, b15, b16⟩ : exec_run_o2)) (by decide) rfl rfl) (ret0Y (i := 0) Try.results29 rfl rfl)
  | cons x19 l18 =>
    unfold F29s_l1 at h
    generalize hgo1 : F29s_l1 R54 l18 = go1 at h
    refine AW.seq ?_
    refine AW.region ?_
    refine AOps.cons (op_lss rfl rfl (vt rfl) (vt rfl)) rfl ?_
    refine AOps.nil ?_
    refine AW.seq ?_
    refine AW.cond (vt rfl) (fun hc => ?_) (fun hc => absurd hsf1.cons (of_decide_eq_false hc))
    have hlti17 := of_decide_eq_true hc
    refine AW.skip ?_
    refine AW.seq ?_
    refine AW.block ?_
    refine AW.seq ?_
    refine AW.region ?_
    refine AOps.cons (op_indexs' rfl rfl sl22 (vt rfl) (vt rfl) hsf1.lget) rfl ?_
    refine AOps.cons (op_loadp rfl rfl ty56 (vt rfl)) rfl ?_
    refine AOps.consT rfl (op_alloc 6 rfl rfl zr56) ?_
    rintro _ ⟨g20, rfl⟩
    refine AOps.cons (op_store rfl rfl ty56 (vt rfl) (i := 6) rfl (vt rfl)) rfl ?_
    refine AOps.nil ?_
    refine AW.seq ?_
    refine AW.region ?_
    refine AOps.cons (op_field lAction_0 rfl rfl fl56_0 (vt rfl)) rfl ?_
    refine AOps.cons (op_load rfl rfl ty3 (vt rfl) (i := 6) rfl) rfl ?_
    refine AOps.nil ?_
    refine AW.block ?_
    refine AW.seq ?_
    refine AW.region ?_
    refine AOps.cons (op_eql rfl rfl (vt rfl) (vk rfl)) rfl ?_
    refine AOps.cons (op_assign (A := rd kbool (decide (x19.Kind = 0))) rfl rfl (vt rfl)) rfl ?_
    refine AOps.nil ?_
    refine AW.cond (vt rfl) (fun hc => ?_) (fun hc => ?_)
    · have h := cond_t hc h
      obtain ⟨x21, hx21, h⟩ := bsome h
      obtain ⟨l22, hl22, h⟩ := bsome h
      refine AW.regionAny [⟨[0], [26], [], []⟩, ⟨[0], [27], [], []⟩, ⟨[27], [28], [], []⟩, ⟨[28], [29], [], []⟩, ⟨[29], [30], [0], []⟩, ⟨[5], [31], [], []⟩, ⟨[31], [32], [6], []⟩, ⟨[5], [33], [6], []⟩, ⟨[33], [34], [], []⟩, ⟨[0], [35], [], []⟩, ⟨[35], [36], [], []⟩, ⟨[36], [37], [], []⟩, ⟨[37], [38], [0], []⟩, ⟨[32, 34, 38], [39], [], []⟩, ⟨[39], [40], [], []⟩, ⟨[30, 40], [41], [2002], [2002]⟩, ⟨[26], [42], [], []⟩, ⟨[42], [43], [], []⟩, ⟨[43, 41], [41], [0], [0]⟩] mixed (by kernel_rfl) ?_
      refine SeqA.cons (loc [0] [] rfl rfl fun S hs hr => op_move (A := ptrL g2 (Lens.id kexec_run_o2)) rfl rfl (vt ((hs 0 rfl).trans rfl))) ⟨rfl, rfl, rfl, rfl⟩ ?_
      refine SeqA.cons (loc [0] [] rfl rfl fun S hs hr => op_move (A := ptrL g2 (Lens.id kexec_run_o2)) rfl rfl (vt ((hs 0 rfl).trans rfl))) ⟨rfl, rfl, rfl, rfl⟩ ?_
      refine SeqA.cons (loc [27] [] rfl rfl fun S hs hr => op_nilCheck rfl rfl (vt ((hs 27 rfl).trans rfl))) ⟨rfl, rfl, rfl, rfl⟩ ?_
      refine SeqA.cons (loc [28] [] rfl rfl fun S hs hr => op_field lexec_run_o2_2 rfl rfl flv78_2_2 (vt ((hs 28 rfl).trans rfl))) ⟨rfl, rfl, rfl, rfl⟩ ?_
      refine SeqA.cons (loc [29] [0] rfl rfl fun S hs hr => op_loadv v12 rfl rfl tyr46 (vt ((hs 29 rfl).trans rfl)) (i := 0) ((hr 0 rfl).trans rfl) rfl) ⟨rfl, rfl, rfl, rfl⟩ ?_
      refine SeqA.cons (loc [5] [] rfl rfl fun S hs hr => op_field lAction_1 rfl rfl fl56_1 (vt ((hs 5 rfl).trans rfl))) ⟨rfl, rfl, rfl, rfl⟩ ?_
      refine SeqA.cons (loc [31] [6] rfl rfl fun S hs hr => op_load rfl rfl ty3 (vt ((hs 31 rfl).trans rfl)) (i := 6) ((hr 6 rfl).trans rfl)) ⟨rfl, rfl, rfl, rfl⟩ ?_
      refine SeqA.cons (loc [5] [6] rfl rfl fun S hs hr => op_load rfl rfl ty56 (vt ((hs 5 rfl).trans rfl)) (i := 6) ((hr 6 rfl).trans rfl)) ⟨rfl, rfl, rfl, rfl⟩ ?_
      refine SeqA.cons (loc [33] [] rfl rfl fun S hs hr => op_call (xs := [.tmp 33]) (c53 _ _ hx21) (Ent.mk Try.func53 rfl rfl) rfl rfl ⟨vt ((hs 33 rfl).trans rfl), trivial⟩) ⟨rfl, rfl, rfl, rfl⟩ ?_
      refine SeqA.cons (loc [0] [] rfl rfl fun S hs hr => op_move (A := ptrL g2 (Lens.id kexec_run_o2)) rfl rfl (vt ((hs 0 rfl).trans rfl))) ⟨rfl, rfl, rfl, rfl⟩ ?_
      refine SeqA.cons (loc [35] [] rfl rfl fun S hs hr => op_nilCheck rfl rfl (vt ((hs 35 rfl).trans rfl))) ⟨rfl, rfl, rfl, rfl⟩ ?_
      refine SeqA.cons (loc [36] [] rfl rfl fun S hs hr => op_field lexec_run_o2_3 rfl rfl flv78_3_2 (vt ((hs 36 rfl).trans rfl))) ⟨rfl, rfl, rfl, rfl⟩ ?_
      refine SeqA.cons (loc [37] [0] rfl rfl fun S hs hr => op_load rfl rfl ty43 (vt ((hs 37 rfl).trans rfl)) (i := 0) ((hr 0 rfl).trans rfl)) ⟨rfl, rfl, rfl, rfl⟩ ?_
      refine SeqA.cons (loc [32, 34, 38] [] rfl rfl fun S hs hr => op_build (ps := [(0, .tmp 32), (1, .tmp 34), (2, .tmp 38)]) (x := (⟨x19.Port, x21, b15⟩ : Out)) rfl rfl rfl (by kernel_rfl) zr59 ⟨_, _, lOut_0, _, by kernel_rfl, (vt ((hs 32 rfl).trans rfl)), _, _, lOut_1, _, by kernel_rfl, (vt ((hs 34 rfl).trans rfl)), _, _, lOut_2, _, by kernel_rfl, (vt ((hs 38 rfl).trans rfl)), rfl⟩) ⟨rfl, rfl, rfl, rfl⟩ ?_
      refine SeqA.cons (loc [39] [] rfl rfl fun S hs hr => op_buildSliceR (ps := [(0, .tmp 39)]) (l := [(⟨x19.Port, x21, b15⟩ : Out)]) rfl rfl sl46 zr59 rfl rfl ⟨_, _, Lens.idx 1 kOut 0 (by decide), _, rfl, (vt ((hs 39 rfl).trans rfl)), rfl⟩ rfl) ⟨rfl, rfl, rfl, rfl⟩ ?_
      refine SeqA.cons (locs (us := [(41, ownR 59 kOut l22)]) (ur := [(2002, emp)]) [30, 40] [2002] rfl fun S hs hr => op_appendO 2002 hl22 rfl rfl rfl el46 (vt ((hs 30 rfl).trans rfl)) ((hr 2002 rfl).trans rfl) (vt ((hs 40 rfl).trans rfl))) ⟨rfl, rfl, rfl, rfl⟩ ?_
      refine SeqA.cons (loc [26] [] rfl rfl fun S hs hr => op_nilCheck rfl rfl (vt ((hs 26 rfl).trans rfl))) ⟨rfl, rfl, rfl, rfl⟩ ?_
      refine SeqA.cons (loc [42] [] rfl rfl fun S hs hr => op_field lexec_run_o2_2 rfl rfl flv78_2_2 (vt ((hs 42 rfl).trans rfl))) ⟨rfl, rfl, rfl, rfl⟩ ?_
      refine SeqA.cons (locs (us := [(41, top)]) (ur := [(0, BoxF g2 78 kexec_run_o2 (fun v => ((Lens.comp (Lens.id kexec_run_o2) lexec_run_o2_2)).set (⟨b13, b14, v12, b15, b16⟩ : exec_run_o2) v) 59 kOut l22)]) [43, 41] [0] rfl fun S hs hr => op_storeR rfl rfl tyr46 (vt ((hs 43 rfl).trans rfl)) ((hr 0 rfl).trans rfl) ((hs 41 rfl).trans rfl)) ⟨rfl, rfl, rfl, rfl⟩ ?_
      refine AW.unboxF 0 2002 (by decide) rfl rfl fun v23 => ?_
      refine AW.region ?_
      refine AOps.cons (op_incr (t := 7) rfl rfl (vt rfl) (vk rfl) (vt rfl) hlti17) rfl ?_
      refine AOps.cons (op_move (A := rd (kint .i64) ((i17 + 1 : Nat) : Int)) rfl rfl (vt rfl)) rfl ?_
      refine AOps.nil ?_
      subst hgo1
      exact ⟨(l18, i17 + 1, l22, b13, b14, b15, b16, v23), Nat.lt_succ_self _, ⟨hsf1.next, h⟩, ⟨rfl, ⟨rfl, rfl, rfl, rfl, trivial⟩, ⟨rfl, rfl, trivial⟩⟩⟩
    · have h := cond_f hc h
      refine AW.seq ?_
      refine AW.region ?_
      refine AOps.cons (op_eql rfl rfl (vt rfl) (vk rfl)) rfl ?_
      refine AOps.cons (op_assign (A := rd kbool (decide (x19.Kind = 22))) rfl rfl (vt rfl)) rfl ?_
      refine AOps.nil ?_
      refine AW.cond (vt rfl) (fun hc => ?_) (fun hc => ?_)
      · have h := cond_t hc h
        obtain ⟨b24, hb24, h⟩ := bsome h
        refine AW.region ?_
        refine AOps.cons (op_move (A := ptrL g2 (Lens.id kexec_run_o2)) rfl rfl (vt rfl)) rfl ?_
        refine AOps.cons (op_field lAction_3 rfl rfl fl56_3 (vt rfl)) rfl ?_
        refine AOps.cons (op_load rfl rfl ty3 (vt rfl) (i := 6) rfl) rfl ?_
        refine AOps.packF 0 2002 (fun v => (⟨b13, b14, v, b15, b16⟩ : exec_run_o2)) (by decide) rfl rfl ?_
        refine AOps.consT rfl (op_callR 0 (xs := [.tmp 46, .tmp 48]) (hR54 _ _ _ _ hb24) (Ent.mk Try.func54 rfl rfl) rfl rfl ⟨vt rfl, vt rfl, trivial⟩ rfl) ?_
        rintro _ ⟨_u, rfl⟩
        refine AOps.unboxF 0 2002 (by decide) rfl rfl fun v25 => ?_
        refine AOps.nil ?_
        refine AW.region ?_
        refine AOps.cons (op_incr (t := 7) rfl rfl (vt rfl) (vk rfl) (vt rfl) hlti17) rfl ?_
        refine AOps.cons (op_move (A := rd (kint .i64) ((i17 + 1 : Nat) : Int)) rfl rfl (vt rfl)) rfl ?_
        refine AOps.nil ?_
        subst hgo1
        exact ⟨(l18, i17 + 1, b24.out, b24.Env, b24.groups, b24.header, b24.depth, v25), Nat.lt_succ_self _, ⟨hsf1.next, h⟩, ⟨rfl, ⟨rfl, rfl, rfl, rfl, trivial⟩, ⟨rfl, rfl, trivial⟩⟩⟩
      · have h := cond_f hc h
        obtain ⟨x26, hx26, h⟩ := bsome h
        obtain ⟨x27, hx27, h⟩ := bsome h
        refine AW.regionAny [⟨[0], [14], [], []⟩, ⟨[5], [15], [6], []⟩, ⟨[15], [16], [], []⟩, ⟨[0], [17], [], []⟩, ⟨[17], [18], [], []⟩, ⟨[18], [19], [], []⟩, ⟨[19], [20], [0], []⟩, ⟨[16, 20], [21], [], []⟩, ⟨[14], [22], [], []⟩, ⟨[22], [23], [], []⟩, ⟨[23, 21], [], [0], [0]⟩] mixed (by kernel_rfl) ?_
        refine SeqA.cons (loc [0] [] rfl rfl fun S hs hr => op_move (A := ptrL g2 (Lens.id kexec_run_o2)) rfl rfl (vt ((hs 0 rfl).trans rfl))) ⟨rfl, rfl, rfl, rfl⟩ ?_
        refine SeqA.cons (loc [5] [6] rfl rfl fun S hs hr => op_load rfl rfl ty56 (vt ((hs 5 rfl).trans rfl)) (i := 6) ((hr 6 rfl).trans rfl)) ⟨rfl, rfl, rfl, rfl⟩ ?_
        refine SeqA.cons (loc [15] [] rfl rfl fun S hs hr => op_call (xs := [.tmp 15]) (c41 _ _ hx26) (Ent.mk Try.func41 rfl rfl) rfl rfl ⟨vt ((hs 15 rfl).trans rfl), trivial⟩) ⟨rfl, rfl, rfl, rfl⟩ ?_
        refine SeqA.cons (loc [0] [] rfl rfl fun S hs hr => op_move (A := ptrL g2 (Lens.id kexec_run_o2)) rfl rfl (vt ((hs 0 rfl).trans rfl))) ⟨rfl, rfl, rfl, rfl⟩ ?_
        refine SeqA.cons (loc [17] [] rfl rfl fun S hs hr => op_nilCheck rfl rfl (vt ((hs 17 rfl).trans rfl))) ⟨rfl, rfl, rfl, rfl⟩ ?_
        refine SeqA.cons (loc [18] [] rfl rfl fun S hs hr => op_field lexec_run_o2_3 rfl rfl flv78_3_2 (vt ((hs 18 rfl).trans rfl))) ⟨rfl, rfl, rfl, rfl⟩ ?_
        refine SeqA.cons (loc [19] [0] rfl rfl fun S hs hr => op_load rfl rfl ty43 (vt ((hs 19 rfl).trans rfl)) (i := 0) ((hr 0 rfl).trans rfl)) ⟨rfl, rfl, rfl, rfl⟩ ?_
        refine SeqA.cons (loc [16, 20] [] rfl rfl fun S hs hr => op_call (xs := [.tmp 16, .tmp 20]) (c14 _ _ _ hx27) (Ent.mk Try.func14 rfl rfl) rfl rfl ⟨vt ((hs 16 rfl).trans rfl), vt ((hs 20 rfl).trans rfl), trivial⟩) ⟨rfl, rfl, rfl, rfl⟩ ?_
        refine SeqA.cons (loc [14] [] rfl rfl fun S hs hr => op_nilCheck rfl rfl (vt ((hs 14 rfl).trans rfl))) ⟨rfl, rfl, rfl, rfl⟩ ?_
        refine SeqA.cons (loc [22] [] rfl rfl fun S hs hr => op_field lexec_run_o2_3 rfl rfl flv78_3_2 (vt ((hs 22 rfl).trans rfl))) ⟨rfl, rfl, rfl, rfl⟩ ?_
        refine SeqA.cons (locr [23, 21] [0] rfl fun S hs hr => op_store rfl rfl ty43 (vt ((hs 23 rfl).trans rfl)) (i := 0) ((hr 0 rfl).trans rfl) (vt ((hs 21 rfl).trans rfl))) ⟨rfl, rfl, rfl, rfl⟩ ?_
        refine AW.region ?_
        refine AOps.cons (op_incr (t := 7) rfl rfl (vt rfl) (vk rfl) (vt rfl) hlti17) rfl ?_
        refine AOps.cons (op_move (A := rd (kint .i64) ((i17 + 1 : Nat) : Int)) rfl rfl (vt rfl)) rfl ?_
        refine AOps.nil ?_
        subst hgo1
        exact ⟨(l18, i17 + 1, l11, b13, b14, x27, b16, v12), Nat.lt_succ_self _, ⟨hsf1.next, h⟩, ⟨rfl, ⟨rfl, rfl, rfl, rfl, trivial⟩, ⟨rfl, rfl, trivial⟩⟩⟩
-- (*weirbox/exec.run).group
def F54s_l1 (x5 : (Group × Bool)) (R29 : (exec_run → (List Action) → Option exec_run)) (r1 : exec_run) : (List Int) → Nat → (List Out) → Env → (List Group) → (Vector Wide 24) → Int → Option exec_run
  | [], i21, l15, b17, b18, b19, b20 => some (⟨b17, b18, l15, b19, (IntKind.i64.wrap (b20 - 1))⟩ : exec_run)
  | x23 :: l22, i21, l15, b17, b18, b19, b20 => (lget x5.1.Buckets x23).bind fun e24 => (F68 [] e24.Acts).bind fun x25 => (F67 x25).bind fun x26 => (R29 (⟨b17, b18, l15, b19, b20⟩ : exec_run) x26).bind fun b27 => (F54s_l1 x5 R29 r1 l22) (i21 + 1) b27.out b27.Env b27.groups r1.header b27.depth
def F54s (R29 : (exec_run → (List Action) → Option exec_run)) (R54 : (exec_run → Int → Option exec_run)) (r1 : exec_run) (id4 : Int) : Option exec_run :=
  (F65 r1.groups id4).bind fun x5 => (bif ((!x5.2) || (decide (r1.depth ≥ 8))) then some (⟨r1.Env, r1.groups, r1.out, r1.header, r1.depth⟩ : exec_run) else (F66 r1.Env x5.1).bind fun x8 => F54s_l1 x5 R29 r1 x8 0 r1.out r1.Env r1.groups r1.header (IntKind.i64.wrap (r1.depth + 1)))
theorem c54s (R29 : (exec_run → (List Action) → Option exec_run)) (hR29 : ∀ (g2 : Nat) (r1 : exec_run) (acts4 : (List Action)) (r : exec_run), R29 r1 acts4 = some r → Con Try.prog 29 [ptrL g2 (Lens.id kexec_run_o2), rd (ksl kAction) acts4] (BoxF g2 78 kexec_run_o2 (fun v => (⟨r1.Env, r1.groups, v, r1.header, r1.depth⟩ : exec_run_o2)) 59 kOut r1.out) (fun _ : Unit => top) (fun _ => BoxF g2 78 kexec_run_o2 (fun v => (⟨r.Env, r.groups, v, r.header, r.depth⟩ : exec_run_o2)) 59 kOut r.out)) (R54 : (exec_run → Int → Option exec_run)) (hR54 : ∀ (g2 : Nat) (r1 : exec_run) (id4 : Int) (r : exec_run), R54 r1 id4 = some r → Con Try.prog 54 [ptrL g2 (Lens.id kexec_run_o2), rd (kint .i64) id4] (BoxF g2 78 kexec_run_o2 (fun v => (⟨r1.Env, r1.groups, v, r1.header, r1.depth⟩ : exec_run_o2)) 59 kOut r1.out) (fun _ : Unit => top) (fun _ => BoxF g2 78 kexec_run_o2 (fun v => (⟨r.Env, r.groups, v, r.header, r.depth⟩ : exec_run_o2)) 59 kOut r.out)) (g2 : Nat) (r1 : exec_run) (id4 : Int) (r : exec_run) (h : F54s R29 R54 r1 id4 = some r) : Con Try.prog 54 [ptrL g2 (Lens.id kexec_run_o2), rd (kint .i64) id4] (BoxF g2 78 kexec_run_o2 (fun v => (⟨r1.Env, r1.groups, v, r1.header, r1.depth⟩ : exec_run_o2)) 59 kOut r1.out) (fun _ : Unit => top) (fun _ => BoxF g2 78 kexec_run_o2 (fun v => (⟨r.Env, r.groups, v, r.header, r.depth⟩ : exec_run_o2)) 59 kOut r.out) := by
  refine Con.intro Try.func54 rfl Try.ntmps54 rfl fun w H X => ?_
  unfold F54s at h
  refine AW.unboxF 0 2002 (by decide) rfl rfl fun v3 => ?_
  refine AW.seq ?_
  obtain ⟨x5, hx5, h⟩ := bsome h
  refine AW.region ?_
  refine AOps.cons (op_move (A := ptrL g2 (Lens.id kexec_run_o2)) rfl rfl (vt rfl)) rfl ?_
  refine AOps.cons (op_nilCheck rfl rfl (vt rfl)) rfl ?_
  refine AOps.cons (op_field lexec_run_o2_1 rfl rfl flv78_1_2 (vt rfl)) rfl ?_
  refine AOps.cons (op_load rfl rfl ty38 (vt rfl) (i := 0) rfl) rfl ?_
  refine AOps.cons (op_move (A := rd (kint .i64) id4) rfl rfl (vt rfl)) rfl ?_
  refine AOps.cons (op_call (xs := [.tmp 13, .tmp 14]) (c65 _ _ _ hx5) (Ent.mk Try.func65 rfl rfl) rfl rfl ⟨vt rfl, vt rfl, trivial⟩) rfl ?_
  refine AOps.cons (op_move (A := tup2 (rd kGroup x5.1) (rd kbool x5.2)) rfl rfl (vt rfl)) rfl ?_
  refine AOps.cons (op_fst rfl rfl (vt rfl)) rfl ?_
  refine AOps.cons (op_snd rfl rfl (vt rfl)) rfl ?_
  refine AOps.consT rfl (op_alloc 5 rfl rfl zr73) ?_
  rintro _ ⟨g6, rfl⟩
  refine AOps.cons (op_store rfl rfl ty73 (vt rfl) (i := 5) rfl (vt rfl)) rfl ?_
  refine AOps.cons (op_assign (A := rd kbool x5.2) rfl rfl (vt rfl)) rfl ?_
  refine AOps.nil ?_
  refine AW.seq ?_
  refine AW.seq ?_
  refine AW.region ?_
  refine AOps.cons (op_move (A := rd kbool x5.2) rfl rfl (vt rfl)) rfl ?_
  refine AOps.cons (op_not rfl rfl (vt rfl)) rfl ?_
  refine AOps.cons (op_move (A := rd kbool (!x5.2)) rfl rfl (vt rfl)) rfl ?_
  refine AOps.consG (OpG.guard rfl rfl rfl rfl rfl fun hq => op_move (A := ptrL g2 (Lens.id kexec_run_o2)) rfl rfl (vt rfl)) ?_
  refine AOps.consG (OpG.guard rfl rfl rfl rfl rfl fun hq => op_nilCheck rfl rfl (vgt rfl hq)) ?_
  refine AOps.consG (OpG.guard rfl rfl rfl rfl rfl fun hq => op_field lexec_run_o2_4 rfl rfl flv78_4_2 (vgt rfl hq)) ?_
  refine AOps.consG (OpG.guard rfl rfl rfl rfl rfl fun hq => op_load rfl rfl ty3 (vgt rfl hq) (i := 0) rfl) ?_
  refine AOps.consG (OpG.guard rfl rfl rfl rfl rfl fun hq => op_geq rfl rfl (vgt rfl hq) (vk rfl)) ?_
  refine AOps.cons (op_any rfl rfl (vt rfl) (vt rfl)) rfl ?_
  refine AOps.nil ?_
  refine AW.cond (vt rfl) (fun hc => ?_) (fun hc => ?_)
  · have h := cond_t hc h
    refine AW.ret ?_
    obtain rfl := Option.some.inj h
    exact RetOK.turn (Turn.packF 0 2002 (fun v => (⟨r1.Env, r1.groups, v, r1.header, r1.depth⟩ : exec_run_o2)) (by decide) rfl rfl) (ret0Y (i := 0) Try.results54 rfl rfl)
  · have h := cond_f hc h
    refine AW.skip ?_
    refine AW.seq ?_
    refine AW.region ?_
    refine AOps.cons (op_move (A := ptrL g2 (Lens.id kexec_run_o2)) rfl rfl (vt rfl)) rfl ?_
    refine AOps.cons (op_nilCheck rfl rfl (vt rfl)) rfl ?_
    refine AOps.cons (op_field lexec_run_o2_3 rfl rfl flv78_3_2 (vt rfl)) rfl ?_
    refine AOps.cons (op_load rfl rfl ty43 (vt rfl) (i := 0) rfl) rfl ?_
    refine AOps.consT rfl (op_alloc 7 rfl rfl zr43) ?_
    rintro _ ⟨g7, rfl⟩
    refine AOps.cons (op_store rfl rfl ty43 (vt rfl) (i := 7) rfl (vt rfl)) rfl ?_
    refine AOps.nil ?_
    refine AW.seq ?_
    refine AW.region ?_
    refine AOps.cons (op_move (A := ptrL g2 (Lens.id kexec_run_o2)) rfl rfl (vt rfl)) rfl ?_
    refine AOps.cons (op_nilCheck rfl rfl (vt rfl)) rfl ?_
    refine AOps.cons (op_field lexec_run_o2_4 rfl rfl flv78_4_2 (vt rfl)) rfl ?_
    refine AOps.cons (op_load rfl rfl ty3 (vt rfl) (i := 0) rfl) rfl ?_
    refine AOps.cons (op_add rfl rfl (vt rfl) (vk rfl)) rfl ?_
    refine AOps.cons (op_nilCheck rfl rfl (vt rfl)) rfl ?_
    refine AOps.cons (op_field lexec_run_o2_4 rfl rfl flv78_4_2 (vt rfl)) rfl ?_
    refine AOps.cons (op_store rfl rfl ty3 (vt rfl) (i := 0) rfl (vt rfl)) rfl ?_
    refine AOps.nil ?_
    refine AW.seq ?_
    refine AW.seq ?_
    obtain ⟨x8, hx8, h⟩ := bsome h
    refine AW.regionAny [⟨[0], [38], [], []⟩, ⟨[38], [39], [], []⟩, ⟨[39], [40], [], []⟩, ⟨[40], [41], [0], []⟩, ⟨[4], [42], [5], []⟩, ⟨[41, 42], [43], [], []⟩, ⟨[43], [44], [], []⟩, ⟨[], [45], [], []⟩] mixed (by kernel_rfl) ?_
    refine SeqA.cons (loc [0] [] rfl rfl fun S hs hr => op_move (A := ptrL g2 (Lens.id kexec_run_o2)) rfl rfl (vt ((hs 0 rfl).trans rfl))) ⟨rfl, rfl, rfl, rfl⟩ ?_
    refine SeqA.cons (loc [38] [] rfl rfl fun S hs hr => op_nilCheck rfl rfl (vt ((hs 38 rfl).trans rfl))) ⟨rfl, rfl, rfl, rfl⟩ ?_
    refine SeqA.cons (loc [39] [] rfl rfl fun S hs hr => op_field lexec_run_o2_0 rfl rfl flv78_0_2 (vt ((hs 39 rfl).trans rfl))) ⟨rfl, rfl, rfl, rfl⟩ ?_
    refine SeqA.cons (loc [40] [0] rfl rfl fun S hs hr => op_load rfl rfl ty41 (vt ((hs 40 rfl).trans rfl)) (i := 0) ((hr 0 rfl).trans rfl)) ⟨rfl, rfl, rfl, rfl⟩ ?_
    refine SeqA.cons (loc [4] [5] rfl rfl fun S hs hr => op_load rfl rfl ty73 (vt ((hs 4 rfl).trans rfl)) (i := 5) ((hr 5 rfl).trans rfl)) ⟨rfl, rfl, rfl, rfl⟩ ?_
    refine SeqA.cons (loc [41, 42] [] rfl rfl fun S hs hr => op_call (xs := [.tmp 41, .tmp 42]) (c66 _ _ _ hx8) (Ent.mk Try.func66 rfl rfl) rfl rfl ⟨vt ((hs 41 rfl).trans rfl), vt ((hs 42 rfl).trans rfl), trivial⟩) ⟨rfl, rfl, rfl, rfl⟩ ?_
    refine SeqA.cons (loc [43] [] rfl rfl fun S hs hr => op_len' rfl rfl sl39 (vt ((hs 43 rfl).trans rfl))) ⟨rfl, rfl, rfl, rfl⟩ ?_
    refine SeqA.cons (loc [] [] rfl rfl fun S hs hr => op_move (A := rd (kint .i64) 0) rfl rfl (vk rfl)) ⟨rfl, rfl, rfl, rfl⟩ ?_
    refine AW.block ?_
    refine AW.loopG (d := []) (ν := (List Int) × Nat × (List Out) × Env × (List Group) × (Vector Wide 24) × Int × Value) (fun n => Sfx x8 n.2.1 n.1 ∧ F54s_l1 x5 R29 r1 n.1 n.2.1 n.2.2.1 n.2.2.2.1 n.2.2.2.2.1 n.2.2.2.2.2.1 n.2.2.2.2.2.2.1 = some r) (fun n => n.1.length) (fun n => [(0, ptrL g2 (Lens.id kexec_run_o2)), (4, ptrL g6 (Lens.id kGroup)), (6, ptrL g7 (Lens.id (karr 24 kWide))), (43, rd (ksl (kint .i64)) x8), (44, rd (kint .i64) (x8.length : Int)), (45, rd (kint .i64) (n.2.1 : Int))]) (fun n => [(0, Blk g2 78 kexec_run_o2 (⟨n.2.2.2.1, n.2.2.2.2.1, n.2.2.2.2.2.2.2, n.2.2.2.2.2.1, n.2.2.2.2.2.2.1⟩ : exec_run_o2)), (5, Blk g6 73 kGroup x5.1), (7, Blk g7 43 (karr 24 kWide) r1.header), (2002, Row n.2.2.2.2.2.2.2 59 kOut n.2.2.1)]) (x8, 0, r1.out, r1.Env, r1.groups, r1.header, (IntKind.i64.wrap (r1.depth + 1)), v3) ⟨Sfx.start _, h⟩ ⟨rfl, ⟨rfl, rfl, rfl, rfl, rfl, rfl, trivial⟩, ⟨rfl, rfl, rfl, rfl, trivial⟩⟩ ?_
    rintro ⟨l22, i21, l15, b17, b18, b19, b20, v16⟩ ⟨hsf1, h⟩
    change Sfx x8 i21 l22 at hsf1
    change F54s_l1 x5 R29 r1 l22 i21 l15 b17 b18 b19 b20 = some r at h
    change AW _ _ _ ⟨slots [(0, ptrL g2 (Lens.id kexec_run_o2)), (4, ptrL g6 (Lens.id kGroup)), (6, ptrL g7 (Lens.id (karr 24 kWide))), (43, rd (ksl (kint .i64)) x8), (44, rd (kint .i64) (x8.length : Int)), (45, rd (kint .i64) (i21 : Int))], ress [(0, Blk g2 78 kexec_run_o2 (⟨b17, b18, v16, b19, b20⟩ : exec_run_o2)), (5, Blk g6 73 kGroup x5.1), (7, Blk g7 43 (karr 24 kWide) r1.header), (2002, Row v16 59 kOut l15)], _⟩
    cases l22 with
    | nil =>
      unfold F54s_l1 at h
      refine AW.seq ?_
      refine AW.region ?_
      refine AOps.cons (op_lss rfl rfl (vt rfl) (vt rfl)) rfl ?_
      refine AOps.nil ?_
      refine AW.seq ?_
      refine AW.cond (vt rfl) (fun hc => absurd (of_decide_eq_true hc) hsf1.nil) (fun hc => ?_)
      refine AW.exit ?_
      refine AW.region ?_
      refine AOps.cons (op_move (A := ptrL g2 (Lens.id kexec_run_o2)) rfl rfl (vt rfl)) rfl ?_
      refine AOps.cons (op_nilCheck rfl rfl (vt rfl)) rfl ?_
      refine AOps.cons (op_field lexec_run_o2_4 rfl rfl flv78_4_2 (vt rfl)) rfl ?_
      refine AOps.cons (op_load rfl rfl ty3 (vt rfl) (i := 0) rfl) rfl ?_
      refine AOps.cons (op_sub rfl rfl (vt rfl) (vk rfl)) rfl ?_
      refine AOps.cons (op_nilCheck rfl rfl (vt rfl)) rfl ?_
      refine AOps.cons (op_field lexec_run_o2_4 rfl rfl flv78_4_2 (vt rfl)) rfl ?_
      refine AOps.cons (op_store rfl rfl ty3 (vt rfl) (i := 0) rfl (vt rfl)) rfl ?_
      refine AOps.nil ?_
      obtain rfl := Option.some.inj h
      exact RetOK.turn (Turn.packF 0 2002 (fun v => (⟨b17, b18, v, b19, (IntKind.i64.wrap (b20 - 1))⟩ : exec_run_o2)) (by decide) rfl rfl) (ret0Y (i := 0) Try.results54 rfl rfl)
    | cons x23 l22 =>
      unfold F54s_l1 at h
      generalize hgo1 : F54s_l1 x5 R29 r1 l22 = go1 at h
      refine AW.seq ?_
      refine AW.region ?_
      refine AOps.cons (op_lss rfl rfl (vt rfl) (vt rfl)) rfl ?_
      refine AOps.nil ?_
      refine AW.seq ?_
      refine AW.cond (vt rfl) (fun hc => ?_) (fun hc => absurd hsf1.cons (of_decide_eq_false hc))
      have hlti21 := of_decide_eq_true hc
      refine AW.skip ?_
      refine AW.seq ?_
      refine AW.block ?_
      refine AW.seq ?_
      refine AW.region ?_
      refine AOps.cons (op_indexs' rfl rfl sl39 (vt rfl) (vt rfl) hsf1.lget) rfl ?_
      refine AOps.cons (op_loadp rfl rfl ty3 (vt rfl)) rfl ?_
      refine AOps.cons (op_assign (A := rd (kint .i64) x23) rfl rfl (vt rfl)) rfl ?_
      refine AOps.nil ?_
      refine AW.seq ?_
      obtain ⟨e24, he24, h⟩ := bsome h
      obtain ⟨x25, hx25, h⟩ := bsome h
      obtain ⟨x26, hx26, h⟩ := bsome h
      obtain ⟨b27, hb27, h⟩ := bsome h
      refine AW.region ?_
      refine AOps.cons (op_move (A := ptrL g2 (Lens.id kexec_run_o2)) rfl rfl (vt rfl)) rfl ?_
      refine AOps.cons (op_field lGroup_2 rfl rfl fl73_2 (vt rfl)) rfl ?_
      refine AOps.cons (op_load rfl rfl ty71 (vt rfl) (i := 5) rfl) rfl ?_
      refine AOps.cons (op_move (A := rd (kint .i64) x23) rfl rfl (vt rfl)) rfl ?_
      refine AOps.cons (op_indexs' rfl rfl sl71 (vt rfl) (vt rfl) he24) rfl ?_
      refine AOps.cons (op_fieldp lBucket_3 rfl rfl fl93_3 (vt rfl)) rfl ?_
      refine AOps.cons (op_loadp rfl rfl ty22 (vt rfl)) rfl ?_
      refine AOps.cons (op_call (xs := [.const (Value.slice none 0 0), .tmp 55]) (c68 _ _ _ hx25) (Ent.mk Try.func68 rfl rfl) rfl rfl ⟨vnil, vt rfl, trivial⟩) rfl ?_
      refine AOps.cons (op_call (xs := [.tmp 56]) (c67 _ _ hx26) (Ent.mk Try.func67 rfl rfl) rfl rfl ⟨vt rfl, trivial⟩) rfl ?_
      refine AOps.packF 0 2002 (fun v => (⟨b17, b18, v, b19, b20⟩ : exec_run_o2)) (by decide) rfl rfl ?_
      refine AOps.consT rfl (op_callR 0 (xs := [.tmp 49, .tmp 57]) (hR29 _ _ _ _ hb27) (Ent.mk Try.func29 rfl rfl) rfl rfl ⟨vt rfl, vt rfl, trivial⟩ rfl) ?_
      rintro _ ⟨_u, rfl⟩
      refine AOps.unboxF 0 2002 (by decide) rfl rfl fun v28 => ?_
      refine AOps.nil ?_
      refine AW.region ?_
      refine AOps.cons (op_move (A := ptrL g2 (Lens.id kexec_run_o2)) rfl rfl (vt rfl)) rfl ?_
      refine AOps.cons (op_load rfl rfl ty43 (vt rfl) (i := 7) rfl) rfl ?_
      refine AOps.cons (op_nilCheck rfl rfl (vt rfl)) rfl ?_
      refine AOps.cons (op_field lexec_run_o2_3 rfl rfl flv78_3_2 (vt rfl)) rfl ?_
      refine AOps.cons (op_store rfl rfl ty43 (vt rfl) (i := 0) rfl (vt rfl)) rfl ?_
      refine AOps.nil ?_
      refine AW.region ?_
      refine AOps.cons (op_incr (t := 44) rfl rfl (vt rfl) (vk rfl) (vt rfl) hlti21) rfl ?_
      refine AOps.cons (op_move (A := rd (kint .i64) ((i21 + 1 : Nat) : Int)) rfl rfl (vt rfl)) rfl ?_
      refine AOps.nil ?_
      subst hgo1
      exact ⟨(l22, i21 + 1, b27.out, b27.Env, b27.groups, r1.header, b27.depth, v28), Nat.lt_succ_self _, ⟨hsf1.next, h⟩, ⟨rfl, ⟨rfl, rfl, rfl, rfl, rfl, rfl, trivial⟩, ⟨rfl, rfl, rfl, rfl, trivial⟩⟩⟩
def FR29_54 : Nat → (exec_run → (List Action) → Option exec_run) × (exec_run → Int → Option exec_run)
  | 0 => ((fun _ _ => none), (fun _ _ => none))
  | n + 1 => ((F29s (FR29_54 n).1 (FR29_54 n).2), (F54s (FR29_54 n).1 (FR29_54 n).2))
theorem cR29_54 : ∀ n : Nat, (∀ (g2 : Nat) (r1 : exec_run) (acts4 : (List Action)) (r : exec_run), (FR29_54 n).1 r1 acts4 = some r → Con Try.prog 29 [ptrL g2 (Lens.id kexec_run_o2), rd (ksl kAction) acts4] (BoxF g2 78 kexec_run_o2 (fun v => (⟨r1.Env, r1.groups, v, r1.header, r1.depth⟩ : exec_run_o2)) 59 kOut r1.out) (fun _ : Unit => top) (fun _ => BoxF g2 78 kexec_run_o2 (fun v => (⟨r.Env, r.groups, v, r.header, r.depth⟩ : exec_run_o2)) 59 kOut r.out)) ∧ (∀ (g2 : Nat) (r1 : exec_run) (id4 : Int) (r : exec_run), (FR29_54 n).2 r1 id4 = some r → Con Try.prog 54 [ptrL g2 (Lens.id kexec_run_o2), rd (kint .i64) id4] (BoxF g2 78 kexec_run_o2 (fun v => (⟨r1.Env, r1.groups, v, r1.header, r1.depth⟩ : exec_run_o2)) 59 kOut r1.out) (fun _ : Unit => top) (fun _ => BoxF g2 78 kexec_run_o2 (fun v => (⟨r.Env, r.groups, v, r.header, r.depth⟩ : exec_run_o2)) 59 kOut r.out))
  | 0 => ⟨(by intros; rename_i h; cases h), (by intros; rename_i h; cases h)⟩
  | n + 1 => by
    have ih := cR29_54 n
    exact ⟨(c29s (FR29_54 n).1 ih.1 (FR29_54 n).2 ih.2), (c54s (FR29_54 n).1 ih.1 (FR29_54 n).2 ih.2)⟩
def F29 (r1 : exec_run) (acts4 : (List Action)) : Option exec_run := (FR29_54 fuel0).1 r1 acts4
theorem c29 : ∀ (g2 : Nat) (r1 : exec_run) (acts4 : (List Action)) (r : exec_run), F29 r1 acts4 = some r → Con Try.prog 29 [ptrL g2 (Lens.id kexec_run_o2), rd (ksl kAction) acts4] (BoxF g2 78 kexec_run_o2 (fun v => (⟨r1.Env, r1.groups, v, r1.header, r1.depth⟩ : exec_run_o2)) 59 kOut r1.out) (fun _ : Unit => top) (fun _ => BoxF g2 78 kexec_run_o2 (fun v => (⟨r.Env, r.groups, v, r.header, r.depth⟩ : exec_run_o2)) 59 kOut r.out) := (cR29_54 fuel0).1
def F54 (r1 : exec_run) (id4 : Int) : Option exec_run := (FR29_54 fuel0).2 r1 id4
theorem c54 : ∀ (g2 : Nat) (r1 : exec_run) (id4 : Int) (r : exec_run), F54 r1 id4 = some r → Con Try.prog 54 [ptrL g2 (Lens.id kexec_run_o2), rd (kint .i64) id4] (BoxF g2 78 kexec_run_o2 (fun v => (⟨r1.Env, r1.groups, v, r1.header, r1.depth⟩ : exec_run_o2)) 59 kOut r1.out) (fun _ : Unit => top) (fun _ => BoxF g2 78 kexec_run_o2 (fun v => (⟨r.Env, r.groups, v, r.header, r.depth⟩ : exec_run_o2)) 59 kOut r.out) := (cR29_54 fuel0).2
-- weirbox/exec.Group
def F36 (l1 : (List Group)) (e2 : Env) (id3 : Int) (h4 : (Vector Wide 24)) : Option (List Out) :=
  (F54 (⟨e2, l1, [], h4, 0⟩ : exec_run) id3).bind fun b8 => some b8.out
theorem c36 (l1 : (List Group)) (e2 : Env) (id3 : Int) (h4 : (Vector Wide 24)) (r : (List Out)) (h : F36 l1 e2 id3 h4 = some r) : PCon Try.prog 36 [rd (ksl kGroup) l1, rd kEnv e2, rd (kint .i64) id3, rd (karr 24 kWide) h4] (rd (ksl kOut) r) := by
  refine PCon.of (Con.intro0 Try.func36 rfl Try.ntmps36 rfl fun w H => ?_)
  unfold F36 at h
  refine AW.seq ?_
  refine AW.region ?_
  refine AOps.consT rfl (op_box 6 rfl rfl (vt rfl)) ?_
  rintro _ ⟨g5, rfl⟩
  refine AOps.consT rfl (op_box 8 rfl rfl (vt rfl)) ?_
  rintro _ ⟨g6, rfl⟩
  refine AOps.cons (op_assign (A := rd (ksl kOut) []) rfl rfl vnil) rfl ?_
  refine AOps.nil ?_
  refine AW.seq ?_
  refine AW.newnil 2302 59 kOut ?_
  refine AW.region ?_
  refine AOps.cons (op_load rfl rfl ty41 (vt rfl) (i := 6) rfl) rfl ?_
  refine AOps.cons (op_move (A := rd (ksl kGroup) l1) rfl rfl (vt rfl)) rfl ?_
  refine AOps.cons (op_load rfl rfl ty43 (vt rfl) (i := 8) rfl) rfl ?_
  refine AOps.cons (op_build (ps := [(0, .tmp 10), (1, .tmp 11), (3, .tmp 12)]) (x := (⟨e2, l1, (.slice none 0 0), h4, 0⟩ : exec_run_o2)) rfl rfl rfl (by kernel_rfl) zrv78_2 ⟨_, _, lexec_run_o2_0, _, by kernel_rfl, (vt rfl), _, _, lexec_run_o2_1, _, by kernel_rfl, (vt rfl), _, _, lexec_run_o2_3, _, by kernel_rfl, (vt rfl), rfl⟩) rfl ?_
  refine AOps.consT rfl (op_box 15 rfl rfl (vt rfl)) ?_
  rintro _ ⟨g7, rfl⟩
  refine AOps.cons (op_assign (A := ptrL g7 (Lens.id kexec_run_o2)) rfl rfl (vt rfl)) rfl ?_
  refine AOps.nil ?_
  refine AW.seq ?_
  obtain ⟨b8, hb8, h⟩ := bsome h
  refine AW.region ?_
  refine AOps.cons (op_move (A := ptrL g7 (Lens.id kexec_run_o2)) rfl rfl (vt rfl)) rfl ?_
  refine AOps.cons (op_move (A := rd (kint .i64) id3) rfl rfl (vt rfl)) rfl ?_
  refine AOps.packF 15 2302 (fun v => (⟨e2, l1, v, h4, 0⟩ : exec_run_o2)) (by decide) rfl rfl ?_
  refine AOps.consT rfl (op_callR 15 (xs := [.tmp 15, .tmp 16]) (c54 _ _ _ _ hb8) (Ent.mk Try.func54 rfl rfl) rfl rfl ⟨vt rfl, vt rfl, trivial⟩ rfl) ?_
  rintro _ ⟨_u, rfl⟩
  refine AOps.unboxF 15 2302 (by decide) rfl rfl fun v9 => ?_
  refine AOps.nil ?_
  refine AW.seq ?_
  refine AW.region ?_
  refine AOps.cons (op_move (A := ptrL g7 (Lens.id kexec_run_o2)) rfl rfl (vt rfl)) rfl ?_
  refine AOps.cons (op_nilCheck rfl rfl (vt rfl)) rfl ?_
  refine AOps.cons (op_field lexec_run_o2_2 rfl rfl flv78_2_2 (vt rfl)) rfl ?_
  refine AOps.cons (op_loadv v9 rfl rfl tyr46 (vt rfl) (i := 15) rfl rfl) rfl ?_
  refine AOps.cons (op_assign (A := raw v9) rfl rfl (vt rfl)) rfl ?_
  refine AOps.nil ?_
  refine AW.freezes [8, 21] 2302 rfl ⟨rfl, rfl, trivial⟩ rfl ?_
  refine AW.ret ?_
  obtain rfl := Option.some.inj h
  exact ret1 Try.results36 rfl (out_tmp rfl)
end Go.Proofs.Ytokmmcflinnfiab.W
