/- A part of the proof. -/
import Derived.Test.YtknpgojdkobgjaaG0
set_option linter.unusedVariables false
set_option maxRecDepth 4000
set_option linter.unusedSimpArgs false
namespace Go.Proofs.Ytknpgojdkobgjaa.W
open Go Go.Wb
def F_slices_swapRangeCmpFunc_Action_l1 (n5 : Int) (b4 : Int) (a3 : Int) : Nat → (List Action) → Int → Option (List Action)
  | 0, _, _ => none
  | m11 + 1, l9, i10 => (bif (decide (i10 < n5)) then (lget l9 (IntKind.i64.wrap (b4 + i10))).bind fun e12 => (lget l9 (IntKind.i64.wrap (a3 + i10))).bind fun e13 => (lget l9 (IntKind.i64.wrap (a3 + i10))).bind fun e14 => (lget (List.set l9 (IntKind.i64.wrap (a3 + i10)).toNat e12) (IntKind.i64.wrap (b4 + i10))).bind fun e15 => (F_slices_swapRangeCmpFunc_Action_l1 n5 b4 a3 m11) (List.set (List.set l9 (IntKind.i64.wrap (a3 + i10)).toNat e12) (IntKind.i64.wrap (b4 + i10)).toNat e13) (IntKind.i64.wrap (i10 + 1)) else some l9)
def F_slices_swapRangeCmpFunc_Action (data1 : (List Action)) (a3 : Int) (b4 : Int) (n5 : Int) (cmp6 : (Action → Action → Option Int)) : Option (List Action) :=
  F_slices_swapRangeCmpFunc_Action_l1 n5 b4 a3 (((n5 : Int) - 0).toNat + 1) data1 0
theorem c_slices_swapRangeCmpFunc_Action_o (v2 : Value) (data1 : (List Action)) (a3 : Int) (b4 : Int) (n5 : Int) (cmp6 : (Action → Action → Option Int)) (r : (List Action)) (h : F_slices_swapRangeCmpFunc_Action data1 a3 b4 n5 cmp6 = some r) : Con Try.prog 150 [raw v2, rd (kint .i64) a3, rd (kint .i64) b4, rd (kint .i64) n5, fn2 Try.prog kAction kAction (kint .i64) cmp6] (Row v2 95 kAction data1) (fun _ : Unit => top) (fun _ => Row v2 95 kAction r) := by
  refine Con.intro Try.func150 rfl Try.ntmps150 rfl fun w H X => ?_
  unfold F_slices_swapRangeCmpFunc_Action at h
  refine AW.seq ?_
  refine AW.region ?_
  refine AOps.cons (op_assign (A := rd (kint .i64) 0) rfl rfl (vk rfl)) rfl ?_
  refine AOps.nil ?_
  refine AW.block ?_
  refine AW.loopG (d := []) (ν := Nat × (List Action) × Int) (fun n => True ∧ F_slices_swapRangeCmpFunc_Action_l1 n5 b4 a3 n.1 n.2.1 n.2.2 = some r) (fun n => n.1) (fun n => [(0, raw v2), (1, rd (kint .i64) a3), (2, rd (kint .i64) b4), (3, rd (kint .i64) n5), (10, rd (kint .i64) n.2.2)]) (fun n => [(0, Row v2 95 kAction n.2.1)]) ((((n5 : Int) - 0).toNat + 1), data1, 0) ⟨trivial, h⟩ ⟨rfl, ⟨rfl, rfl, rfl, rfl, rfl, trivial⟩, ⟨rfl, trivial⟩⟩ ?_
  rintro ⟨m11, l9, i10⟩ ⟨hsf1, h⟩
  change True at hsf1
  change F_slices_swapRangeCmpFunc_Action_l1 n5 b4 a3 m11 l9 i10 = some r at h
  change AW _ _ _ ⟨slots [(0, raw v2), (1, rd (kint .i64) a3), (2, rd (kint .i64) b4), (3, rd (kint .i64) n5), (10, rd (kint .i64) i10)], ress [(0, Row v2 95 kAction l9)], _⟩
  cases m11 with
  | zero => cases h
  | succ m11 =>
    unfold F_slices_swapRangeCmpFunc_Action_l1 at h
    generalize hgo1 : F_slices_swapRangeCmpFunc_Action_l1 n5 b4 a3 m11 = go1 at h
    refine AW.seq ?_
    refine AW.seq ?_
    refine AW.region ?_
    refine AOps.cons (op_move (A := rd (kint .i64) i10) rfl rfl (vt rfl)) rfl ?_
    refine AOps.cons (op_move (A := rd (kint .i64) n5) rfl rfl (vt rfl)) rfl ?_
    refine AOps.cons (op_lss rfl rfl (vt rfl) (vt rfl)) rfl ?_
    refine AOps.nil ?_
    refine AW.cond (vt rfl) (fun hc => ?_) (fun hc => ?_)
    · have h := cond_t hc h
      refine AW.skip ?_
      refine AW.seq ?_
      refine AW.block ?_
      refine AW.vlen 0 rfl fun hvl0_127 => ?_
      obtain ⟨e12, he12, h⟩ := bsome h
      obtain ⟨e13, he13, h⟩ := bsome h
      obtain ⟨e14, he14, h⟩ := bsome h
      obtain ⟨e15, he15, h⟩ := bsome h
      refine AW.regionAny [⟨[0], [16], [], []⟩, ⟨[1], [17], [], []⟩, ⟨[10], [18], [], []⟩, ⟨[17, 18], [19], [], []⟩, ⟨[0], [20], [], []⟩, ⟨[2], [21], [], []⟩, ⟨[10], [22], [], []⟩, ⟨[21, 22], [23], [], []⟩, ⟨[0], [24], [], []⟩, ⟨[2], [25], [], []⟩, ⟨[10], [26], [], []⟩, ⟨[25, 26], [27], [], []⟩, ⟨[24, 27], [28], [], []⟩, ⟨[28], [29], [0], []⟩, ⟨[0], [30], [], []⟩, ⟨[1], [31], [], []⟩, ⟨[10], [32], [], []⟩, ⟨[31, 32], [33], [], []⟩, ⟨[30, 33], [34], [], []⟩, ⟨[34], [35], [0], []⟩, ⟨[16, 19], [36], [], []⟩, ⟨[36, 29], [], [0], [0]⟩, ⟨[20, 23], [37], [], []⟩, ⟨[37, 35], [], [0], [0]⟩] mixed (by kernel_rfl) ?_
      refine SeqA.cons (loc [0] [] rfl rfl fun S hs hr => op_move (A := raw v2) rfl rfl (vt ((hs 0 rfl).trans rfl))) ⟨rfl, rfl, rfl, rfl⟩ ?_
      refine SeqA.cons (loc [1] [] rfl rfl fun S hs hr => op_move (A := rd (kint .i64) a3) rfl rfl (vt ((hs 1 rfl).trans rfl))) ⟨rfl, rfl, rfl, rfl⟩ ?_
      refine SeqA.cons (loc [10] [] rfl rfl fun S hs hr => op_move (A := rd (kint .i64) i10) rfl rfl (vt ((hs 10 rfl).trans rfl))) ⟨rfl, rfl, rfl, rfl⟩ ?_
      refine SeqA.cons (loc [17, 18] [] rfl rfl fun S hs hr => op_add rfl rfl (vt ((hs 17 rfl).trans rfl)) (vt ((hs 18 rfl).trans rfl))) ⟨rfl, rfl, rfl, rfl⟩ ?_
      refine SeqA.cons (loc [0] [] rfl rfl fun S hs hr => op_move (A := raw v2) rfl rfl (vt ((hs 0 rfl).trans rfl))) ⟨rfl, rfl, rfl, rfl⟩ ?_
      refine SeqA.cons (loc [2] [] rfl rfl fun S hs hr => op_move (A := rd (kint .i64) b4) rfl rfl (vt ((hs 2 rfl).trans rfl))) ⟨rfl, rfl, rfl, rfl⟩ ?_
      refine SeqA.cons (loc [10] [] rfl rfl fun S hs hr => op_move (A := rd (kint .i64) i10) rfl rfl (vt ((hs 10 rfl).trans rfl))) ⟨rfl, rfl, rfl, rfl⟩ ?_
      refine SeqA.cons (loc [21, 22] [] rfl rfl fun S hs hr => op_add rfl rfl (vt ((hs 21 rfl).trans rfl)) (vt ((hs 22 rfl).trans rfl))) ⟨rfl, rfl, rfl, rfl⟩ ?_
      refine SeqA.cons (loc [0] [] rfl rfl fun S hs hr => op_move (A := raw v2) rfl rfl (vt ((hs 0 rfl).trans rfl))) ⟨rfl, rfl, rfl, rfl⟩ ?_
      refine SeqA.cons (loc [2] [] rfl rfl fun S hs hr => op_move (A := rd (kint .i64) b4) rfl rfl (vt ((hs 2 rfl).trans rfl))) ⟨rfl, rfl, rfl, rfl⟩ ?_
      refine SeqA.cons (loc [10] [] rfl rfl fun S hs hr => op_move (A := rd (kint .i64) i10) rfl rfl (vt ((hs 10 rfl).trans rfl))) ⟨rfl, rfl, rfl, rfl⟩ ?_
      refine SeqA.cons (loc [25, 26] [] rfl rfl fun S hs hr => op_add rfl rfl (vt ((hs 25 rfl).trans rfl)) (vt ((hs 26 rfl).trans rfl))) ⟨rfl, rfl, rfl, rfl⟩ ?_
      refine SeqA.cons (loc [24, 27] [] rfl rfl fun S hs hr => op_indexoP (l := l9) hvl0_127 rfl rfl rfl sl66 (vt ((hs 24 rfl).trans rfl)) (vt ((hs 27 rfl).trans rfl)) he12) ⟨rfl, rfl, rfl, rfl⟩ ?_
      refine SeqA.cons (loc [28] [0] rfl rfl fun S hs hr => op_loado' 0 rfl rfl ty95 (vt ((hs 28 rfl).trans rfl)) ((hr 0 rfl).trans rfl) (lget_of he12).2) ⟨rfl, rfl, rfl, rfl⟩ ?_
      refine SeqA.cons (loc [0] [] rfl rfl fun S hs hr => op_move (A := raw v2) rfl rfl (vt ((hs 0 rfl).trans rfl))) ⟨rfl, rfl, rfl, rfl⟩ ?_
      refine SeqA.cons (loc [1] [] rfl rfl fun S hs hr => op_move (A := rd (kint .i64) a3) rfl rfl (vt ((hs 1 rfl).trans rfl))) ⟨rfl, rfl, rfl, rfl⟩ ?_
      refine SeqA.cons (loc [10] [] rfl rfl fun S hs hr => op_move (A := rd (kint .i64) i10) rfl rfl (vt ((hs 10 rfl).trans rfl))) ⟨rfl, rfl, rfl, rfl⟩ ?_
      refine SeqA.cons (loc [31, 32] [] rfl rfl fun S hs hr => op_add rfl rfl (vt ((hs 31 rfl).trans rfl)) (vt ((hs 32 rfl).trans rfl))) ⟨rfl, rfl, rfl, rfl⟩ ?_
      refine SeqA.cons (loc [30, 33] [] rfl rfl fun S hs hr => op_indexoP (l := l9) hvl0_127 rfl rfl rfl sl66 (vt ((hs 30 rfl).trans rfl)) (vt ((hs 33 rfl).trans rfl)) he13) ⟨rfl, rfl, rfl, rfl⟩ ?_
      refine SeqA.cons (loc [34] [0] rfl rfl fun S hs hr => op_loado' 0 rfl rfl ty95 (vt ((hs 34 rfl).trans rfl)) ((hr 0 rfl).trans rfl) (lget_of he13).2) ⟨rfl, rfl, rfl, rfl⟩ ?_
      refine SeqA.cons (loc [16, 19] [] rfl rfl fun S hs hr => op_indexoP (l := l9) hvl0_127 rfl rfl rfl sl66 (vt ((hs 16 rfl).trans rfl)) (vt ((hs 19 rfl).trans rfl)) he14) ⟨rfl, rfl, rfl, rfl⟩ ?_
      refine SeqA.cons (locr [36, 29] [0] rfl fun S hs hr => op_storeo' 0 rfl rfl ty95 (vt ((hs 36 rfl).trans rfl)) ((hr 0 rfl).trans rfl) (lget_of he14).2 (vt ((hs 29 rfl).trans rfl))) ⟨rfl, rfl, rfl, rfl⟩ ?_
      refine SeqA.cons (loc [20, 23] [] rfl rfl fun S hs hr => op_indexoP (l := (List.set l9 (IntKind.i64.wrap (a3 + i10)).toNat e12)) hvl0_127 (by simp) rfl rfl sl66 (vt ((hs 20 rfl).trans rfl)) (vt ((hs 23 rfl).trans rfl)) he15) ⟨rfl, rfl, rfl, rfl⟩ ?_
      refine SeqA.cons (locr [37, 35] [0] rfl fun S hs hr => op_storeo' 0 rfl rfl ty95 (vt ((hs 37 rfl).trans rfl)) ((hr 0 rfl).trans rfl) (lget_of he15).2 (vt ((hs 35 rfl).trans rfl))) ⟨rfl, rfl, rfl, rfl⟩ ?_
      refine AW.region ?_
      refine AOps.cons (op_move (A := rd (kint .i64) i10) rfl rfl (vt rfl)) rfl ?_
      refine AOps.cons (op_add rfl rfl (vt rfl) (vk rfl)) rfl ?_
      refine AOps.cons (op_assign (A := rd (kint .i64) (IntKind.i64.wrap (i10 + 1))) rfl rfl (vt rfl)) rfl ?_
      refine AOps.nil ?_
      subst hgo1
      exact ⟨(m11, (List.set (List.set l9 (IntKind.i64.wrap (a3 + i10)).toNat e12) (IntKind.i64.wrap (b4 + i10)).toNat e13), (IntKind.i64.wrap (i10 + 1))), Nat.lt_succ_self _, ⟨trivial, h⟩, ⟨rfl, ⟨rfl, rfl, rfl, rfl, rfl, trivial⟩, ⟨rfl, trivial⟩⟩⟩
    · have h := cond_f hc h
      refine AW.exit ?_
      obtain rfl := Option.some.inj h
      exact ret0Y (i := 0) Try.results150 rfl rfl
def F_slices_rotateCmpFunc_Action_l1 (m4 : Int) (cmp6 : (Action → Action → Option Int)) : Nat → (List Action) → Int → Int → Option (List Action)
  | 0, _, _, _ => none
  | m13 + 1, l10, i11, j12 => (bif (decide (i11 ≠ j12)) then (bif (decide (i11 > j12)) then (F_slices_swapRangeCmpFunc_Action l10 (IntKind.i64.wrap (m4 - i11)) m4 j12 cmp6).bind fun l14 => (F_slices_rotateCmpFunc_Action_l1 m4 cmp6 m13) l14 (IntKind.i64.wrap (i11 - j12)) j12 else (F_slices_swapRangeCmpFunc_Action l10 (IntKind.i64.wrap (m4 - i11)) (IntKind.i64.wrap ((IntKind.i64.wrap (m4 + j12)) - i11)) i11 cmp6).bind fun l15 => (F_slices_rotateCmpFunc_Action_l1 m4 cmp6 m13) l15 i11 (IntKind.i64.wrap (j12 - i11))) else (F_slices_swapRangeCmpFunc_Action l10 (IntKind.i64.wrap (m4 - i11)) m4 i11 cmp6).bind fun l16 => some l16)
def F_slices_rotateCmpFunc_Action (data1 : (List Action)) (a3 : Int) (m4 : Int) (b5 : Int) (cmp6 : (Action → Action → Option Int)) : Option (List Action) :=
  F_slices_rotateCmpFunc_Action_l1 m4 cmp6 fuel0 data1 (IntKind.i64.wrap (m4 - a3)) (IntKind.i64.wrap (b5 - m4))
theorem c_slices_rotateCmpFunc_Action_o (v2 : Value) (data1 : (List Action)) (a3 : Int) (m4 : Int) (b5 : Int) (cmp6 : (Action → Action → Option Int)) (r : (List Action)) (h : F_slices_rotateCmpFunc_Action data1 a3 m4 b5 cmp6 = some r) : Con Try.prog 147 [raw v2, rd (kint .i64) a3, rd (kint .i64) m4, rd (kint .i64) b5, fn2 Try.prog kAction kAction (kint .i64) cmp6] (Row v2 95 kAction data1) (fun _ : Unit => top) (fun _ => Row v2 95 kAction r) := by
  refine Con.intro Try.func147 rfl Try.ntmps147 rfl fun w H X => ?_
  unfold F_slices_rotateCmpFunc_Action at h
  refine AW.seq ?_
  refine AW.region ?_
  refine AOps.cons (op_move (A := rd (kint .i64) m4) rfl rfl (vt rfl)) rfl ?_
  refine AOps.cons (op_move (A := rd (kint .i64) a3) rfl rfl (vt rfl)) rfl ?_
  refine AOps.cons (op_sub rfl rfl (vt rfl) (vt rfl)) rfl ?_
  refine AOps.cons (op_assign (A := rd (kint .i64) (IntKind.i64.wrap (m4 - a3))) rfl rfl (vt rfl)) rfl ?_
  refine AOps.nil ?_
  refine AW.seq ?_
  refine AW.region ?_
  refine AOps.cons (op_move (A := rd (kint .i64) b5) rfl rfl (vt rfl)) rfl ?_
  refine AOps.cons (op_move (A := rd (kint .i64) m4) rfl rfl (vt rfl)) rfl ?_
  refine AOps.cons (op_sub rfl rfl (vt rfl) (vt rfl)) rfl ?_
  refine AOps.cons (op_assign (A := rd (kint .i64) (IntKind.i64.wrap (b5 - m4))) rfl rfl (vt rfl)) rfl ?_
  refine AOps.nil ?_
  refine AW.seq ?_
  refine AW.block ?_
  refine AW.loopG (d := []) (ν := Nat × (List Action) × Int × Int) (fun n => True ∧ F_slices_rotateCmpFunc_Action_l1 m4 cmp6 n.1 n.2.1 n.2.2.1 n.2.2.2 = some r) (fun n => n.1) (fun n => [(0, raw v2), (2, rd (kint .i64) m4), (4, fn2 Try.prog kAction kAction (kint .i64) cmp6), (10, rd (kint .i64) n.2.2.1), (11, rd (kint .i64) n.2.2.2)]) (fun n => [(0, Row v2 95 kAction n.2.1)]) (fuel0, data1, (IntKind.i64.wrap (m4 - a3)), (IntKind.i64.wrap (b5 - m4))) ⟨trivial, h⟩ ⟨rfl, ⟨rfl, rfl, rfl, rfl, rfl, trivial⟩, ⟨rfl, trivial⟩⟩ ?_
  rintro ⟨m13, l10, i11, j12⟩ ⟨hsf1, h⟩
  change True at hsf1
  change F_slices_rotateCmpFunc_Action_l1 m4 cmp6 m13 l10 i11 j12 = some r at h
  change AW _ _ _ ⟨slots [(0, raw v2), (2, rd (kint .i64) m4), (4, fn2 Try.prog kAction kAction (kint .i64) cmp6), (10, rd (kint .i64) i11), (11, rd (kint .i64) j12)], ress [(0, Row v2 95 kAction l10)], _⟩
  cases m13 with
  | zero => cases h
  | succ m13 =>
    unfold F_slices_rotateCmpFunc_Action_l1 at h
    generalize hgo1 : F_slices_rotateCmpFunc_Action_l1 m4 cmp6 m13 = go1 at h
    refine AW.seq ?_
    refine AW.seq ?_
    refine AW.region ?_
    refine AOps.cons (op_move (A := rd (kint .i64) i11) rfl rfl (vt rfl)) rfl ?_
    refine AOps.cons (op_move (A := rd (kint .i64) j12) rfl rfl (vt rfl)) rfl ?_
    refine AOps.cons (op_neq rfl rfl (vt rfl) (vt rfl)) rfl ?_
    refine AOps.nil ?_
    refine AW.cond (vt rfl) (fun hc => ?_) (fun hc => ?_)
    · have h := cond_t hc h
      refine AW.skip ?_
      refine AW.block ?_
      refine AW.seq ?_
      refine AW.region ?_
      refine AOps.cons (op_move (A := rd (kint .i64) i11) rfl rfl (vt rfl)) rfl ?_
      refine AOps.cons (op_move (A := rd (kint .i64) j12) rfl rfl (vt rfl)) rfl ?_
      refine AOps.cons (op_gtr rfl rfl (vt rfl) (vt rfl)) rfl ?_
      refine AOps.nil ?_
      refine AW.cond (vt rfl) (fun hc => ?_) (fun hc => ?_)
      · have h := cond_t hc h
        refine AW.seq ?_
        obtain ⟨l14, hl14, h⟩ := bsome h
        refine AW.region ?_
        refine AOps.cons (op_move (A := raw v2) rfl rfl (vt rfl)) rfl ?_
        refine AOps.cons (op_move (A := rd (kint .i64) m4) rfl rfl (vt rfl)) rfl ?_
        refine AOps.cons (op_move (A := rd (kint .i64) i11) rfl rfl (vt rfl)) rfl ?_
        refine AOps.cons (op_sub rfl rfl (vt rfl) (vt rfl)) rfl ?_
        refine AOps.cons (op_move (A := rd (kint .i64) m4) rfl rfl (vt rfl)) rfl ?_
        refine AOps.cons (op_move (A := rd (kint .i64) j12) rfl rfl (vt rfl)) rfl ?_
        refine AOps.cons (op_move (A := fn2 Try.prog kAction kAction (kint .i64) cmp6) rfl rfl (vt rfl)) rfl ?_
        refine AOps.consT rfl (op_callR 0 (xs := [.tmp 24, .tmp 27, .tmp 28, .tmp 29, .tmp 30]) (c_slices_swapRangeCmpFunc_Action_o _ _ _ _ _ _ _ hl14) (Ent.mk Try.func150 rfl rfl) rfl rfl ⟨vt rfl, vt rfl, vt rfl, vt rfl, vt rfl, trivial⟩ rfl) ?_
        rintro _ ⟨_u, rfl⟩
        refine AOps.nil ?_
        refine AW.region ?_
        refine AOps.cons (op_move (A := rd (kint .i64) i11) rfl rfl (vt rfl)) rfl ?_
        refine AOps.cons (op_move (A := rd (kint .i64) j12) rfl rfl (vt rfl)) rfl ?_
        refine AOps.cons (op_sub rfl rfl (vt rfl) (vt rfl)) rfl ?_
        refine AOps.cons (op_assign (A := rd (kint .i64) (IntKind.i64.wrap (i11 - j12))) rfl rfl (vt rfl)) rfl ?_
        refine AOps.nil ?_
        subst hgo1
        exact ⟨(m13, l14, (IntKind.i64.wrap (i11 - j12)), j12), Nat.lt_succ_self _, ⟨trivial, h⟩, ⟨rfl, ⟨rfl, rfl, rfl, rfl, rfl, trivial⟩, ⟨rfl, trivial⟩⟩⟩
      · have h := cond_f hc h
        refine AW.seq ?_
        obtain ⟨l15, hl15, h⟩ := bsome h
        refine AW.region ?_
        refine AOps.cons (op_move (A := raw v2) rfl rfl (vt rfl)) rfl ?_
        refine AOps.cons (op_move (A := rd (kint .i64) m4) rfl rfl (vt rfl)) rfl ?_
        refine AOps.cons (op_move (A := rd (kint .i64) i11) rfl rfl (vt rfl)) rfl ?_
        refine AOps.cons (op_sub rfl rfl (vt rfl) (vt rfl)) rfl ?_
        refine AOps.cons (op_move (A := rd (kint .i64) m4) rfl rfl (vt rfl)) rfl ?_
        refine AOps.cons (op_move (A := rd (kint .i64) j12) rfl rfl (vt rfl)) rfl ?_
        refine AOps.cons (op_add rfl rfl (vt rfl) (vt rfl)) rfl ?_
        refine AOps.cons (op_move (A := rd (kint .i64) i11) rfl rfl (vt rfl)) rfl ?_
        refine AOps.cons (op_sub rfl rfl (vt rfl) (vt rfl)) rfl ?_
        refine AOps.cons (op_move (A := rd (kint .i64) i11) rfl rfl (vt rfl)) rfl ?_
        refine AOps.cons (op_move (A := fn2 Try.prog kAction kAction (kint .i64) cmp6) rfl rfl (vt rfl)) rfl ?_
        refine AOps.consT rfl (op_callR 0 (xs := [.tmp 35, .tmp 38, .tmp 43, .tmp 44, .tmp 45]) (c_slices_swapRangeCmpFunc_Action_o _ _ _ _ _ _ _ hl15) (Ent.mk Try.func150 rfl rfl) rfl rfl ⟨vt rfl, vt rfl, vt rfl, vt rfl, vt rfl, trivial⟩ rfl) ?_
        rintro _ ⟨_u, rfl⟩
        refine AOps.nil ?_
        refine AW.region ?_
        refine AOps.cons (op_move (A := rd (kint .i64) j12) rfl rfl (vt rfl)) rfl ?_
        refine AOps.cons (op_move (A := rd (kint .i64) i11) rfl rfl (vt rfl)) rfl ?_
        refine AOps.cons (op_sub rfl rfl (vt rfl) (vt rfl)) rfl ?_
        refine AOps.cons (op_assign (A := rd (kint .i64) (IntKind.i64.wrap (j12 - i11))) rfl rfl (vt rfl)) rfl ?_
        refine AOps.nil ?_
        subst hgo1
        exact ⟨(m13, l15, i11, (IntKind.i64.wrap (j12 - i11))), Nat.lt_succ_self _, ⟨trivial, h⟩, ⟨rfl, ⟨rfl, rfl, rfl, rfl, rfl, trivial⟩, ⟨rfl, trivial⟩⟩⟩
    · have h := cond_f hc h
      refine AW.exit ?_
      obtain ⟨l16, hl16, h⟩ := bsome h
      refine AW.region ?_
      refine AOps.cons (op_move (A := raw v2) rfl rfl (vt rfl)) rfl ?_
      refine AOps.cons (op_move (A := rd (kint .i64) m4) rfl rfl (vt rfl)) rfl ?_
      refine AOps.cons (op_move (A := rd (kint .i64) i11) rfl rfl (vt rfl)) rfl ?_
      refine AOps.cons (op_sub rfl rfl (vt rfl) (vt rfl)) rfl ?_
      refine AOps.cons (op_move (A := rd (kint .i64) m4) rfl rfl (vt rfl)) rfl ?_
      refine AOps.cons (op_move (A := rd (kint .i64) i11) rfl rfl (vt rfl)) rfl ?_
      refine AOps.cons (op_move (A := fn2 Try.prog kAction kAction (kint .i64) cmp6) rfl rfl (vt rfl)) rfl ?_
      refine AOps.consT rfl (op_callR 0 (xs := [.tmp 50, .tmp 53, .tmp 54, .tmp 55, .tmp 56]) (c_slices_swapRangeCmpFunc_Action_o _ _ _ _ _ _ _ hl16) (Ent.mk Try.func150 rfl rfl) rfl rfl ⟨vt rfl, vt rfl, vt rfl, vt rfl, vt rfl, trivial⟩ rfl) ?_
      rintro _ ⟨_u, rfl⟩
      refine AOps.nil ?_
      obtain rfl := Option.some.inj h
      exact ret0Y (i := 0) Try.results147 rfl rfl
def F_slices_symMergeCmpFunc_Action_s_l2 (i9 : Int) : Nat → (List Action) → Int → Option (List Action)
  | 0, _, _ => none
  | m20 + 1, l18, k19 => (bif (decide (k19 < (IntKind.i64.wrap (i9 - 1)))) then (lget l18 (IntKind.i64.wrap (k19 + 1))).bind fun e21 => (lget l18 k19).bind fun e22 => (lget l18 k19).bind fun e23 => (lget (List.set l18 k19.toNat e21) (IntKind.i64.wrap (k19 + 1))).bind fun e24 => (F_slices_symMergeCmpFunc_Action_s_l2 i9 m20) (List.set (List.set l18 k19.toNat e21) (IntKind.i64.wrap (k19 + 1)).toNat e22) (IntKind.i64.wrap (k19 + 1)) else some l18)
def F_slices_symMergeCmpFunc_Action_s_l1 (data1 : (List Action)) (a3 : Int) (cmp6 : (Action → Action → Option Int)) : Nat → Int → Int → Option (List Action)
  | 0, _, _ => none
  | m11 + 1, i9, j10 => (bif (decide (i9 < j10)) then (oushr (BitVec.ofInt 64 (IntKind.i64.wrap (i9 + j10))) ((1 : BitVec 64).toNat : Int)).bind fun q12 => (lget data1 (IntKind.i64.wrap (q12.toNat : Int))).bind fun e13 => (lget data1 a3).bind fun e14 => (cmp6 e13 e14).bind fun x15 => (bif (decide (x15 < 0)) then (F_slices_symMergeCmpFunc_Action_s_l1 data1 a3 cmp6 m11) (IntKind.i64.wrap ((IntKind.i64.wrap (q12.toNat : Int)) + 1)) j10 else (F_slices_symMergeCmpFunc_Action_s_l1 data1 a3 cmp6 m11) i9 (IntKind.i64.wrap (q12.toNat : Int))) else F_slices_symMergeCmpFunc_Action_s_l2 i9 ((((IntKind.i64.wrap (i9 - 1)) : Int) - a3).toNat + 1) data1 a3)
def F_slices_symMergeCmpFunc_Action_s_l4 (i27 : Int) : Nat → (List Action) → Int → Option (List Action)
  | 0, _, _ => none
  | m38 + 1, l36, k37 => (bif (decide (k37 > i27)) then (lget l36 (IntKind.i64.wrap (k37 - 1))).bind fun e39 => (lget l36 k37).bind fun e40 => (lget l36 k37).bind fun e41 => (lget (List.set l36 k37.toNat e39) (IntKind.i64.wrap (k37 - 1))).bind fun e42 => (F_slices_symMergeCmpFunc_Action_s_l4 i27 m38) (List.set (List.set l36 k37.toNat e39) (IntKind.i64.wrap (k37 - 1)).toNat e40) (IntKind.i64.wrap (k37 - 1)) else some l36)
def F_slices_symMergeCmpFunc_Action_s_l3 (data1 : (List Action)) (m4 : Int) (cmp6 : (Action → Action → Option Int)) : Nat → Int → Int → Option (List Action)
  | 0, _, _ => none
  | m29 + 1, i27, j28 => (bif (decide (i27 < j28)) then (oushr (BitVec.ofInt 64 (IntKind.i64.wrap (i27 + j28))) ((1 : BitVec 64).toNat : Int)).bind fun q30 => (lget data1 m4).bind fun e31 => (lget data1 (IntKind.i64.wrap (q30.toNat : Int))).bind fun e32 => (cmp6 e31 e32).bind fun x33 => (bif (!(decide (x33 < 0))) then (F_slices_symMergeCmpFunc_Action_s_l3 data1 m4 cmp6 m29) (IntKind.i64.wrap ((IntKind.i64.wrap (q30.toNat : Int)) + 1)) j28 else (F_slices_symMergeCmpFunc_Action_s_l3 data1 m4 cmp6 m29) i27 (IntKind.i64.wrap (q30.toNat : Int))) else F_slices_symMergeCmpFunc_Action_s_l4 i27 (((m4 : Int) - i27).toNat + 1) data1 m4)
def F_slices_symMergeCmpFunc_Action_s_j8 (q43 : (BitVec 64)) (m4 : Int) (start48 : Int) (b5 : Int) (R_slices_symMergeCmpFunc_Action : ((List Action) → Int → Int → Int → (Action → Action → Option Int) → Option (List Action))) (cmp6 : (Action → Action → Option Int)) (l56 : (List Action)) : Option (List Action) :=
  (bif ((decide ((IntKind.i64.wrap (q43.toNat : Int)) < (IntKind.i64.wrap ((IntKind.i64.wrap ((IntKind.i64.wrap (q43.toNat : Int)) + m4)) - start48)))) && (decide ((IntKind.i64.wrap ((IntKind.i64.wrap ((IntKind.i64.wrap (q43.toNat : Int)) + m4)) - start48)) < b5))) then (R_slices_symMergeCmpFunc_Action l56 (IntKind.i64.wrap (q43.toNat : Int)) (IntKind.i64.wrap ((IntKind.i64.wrap ((IntKind.i64.wrap (q43.toNat : Int)) + m4)) - start48)) b5 cmp6).bind fun l57 => some l57 else some l56)
def F_slices_symMergeCmpFunc_Action_s_j7 (a3 : Int) (start48 : Int) (q43 : (BitVec 64)) (R_slices_symMergeCmpFunc_Action : ((List Action) → Int → Int → Int → (Action → Action → Option Int) → Option (List Action))) (cmp6 : (Action → Action → Option Int)) (m4 : Int) (b5 : Int) (l55 : (List Action)) : Option (List Action) :=
  (bif ((decide (a3 < start48)) && (decide (start48 < (IntKind.i64.wrap (q43.toNat : Int))))) then (R_slices_symMergeCmpFunc_Action l55 a3 start48 (IntKind.i64.wrap (q43.toNat : Int)) cmp6).bind fun l58 => F_slices_symMergeCmpFunc_Action_s_j8 q43 m4 start48 b5 R_slices_symMergeCmpFunc_Action cmp6 l58 else F_slices_symMergeCmpFunc_Action_s_j8 q43 m4 start48 b5 R_slices_symMergeCmpFunc_Action cmp6 l55)
def F_slices_symMergeCmpFunc_Action_s_l6 (data1 : (List Action)) (q43 : (BitVec 64)) (m4 : Int) (cmp6 : (Action → Action → Option Int)) (a3 : Int) (R_slices_symMergeCmpFunc_Action : ((List Action) → Int → Int → Int → (Action → Action → Option Int) → Option (List Action))) (b5 : Int) : Nat → Int → Int → Option (List Action)
  | 0, _, _ => none
  | m50 + 1, start48, r49 => (bif (decide (start48 < r49)) then (oushr (BitVec.ofInt 64 (IntKind.i64.wrap (start48 + r49))) ((1 : BitVec 64).toNat : Int)).bind fun q51 => (lget data1 (IntKind.i64.wrap ((IntKind.i64.wrap ((IntKind.i64.wrap ((IntKind.i64.wrap (q43.toNat : Int)) + m4)) - 1)) - (IntKind.i64.wrap (q51.toNat : Int))))).bind fun e52 => (lget data1 (IntKind.i64.wrap (q51.toNat : Int))).bind fun e53 => (cmp6 e52 e53).bind fun x54 => (bif (!(decide (x54 < 0))) then (F_slices_symMergeCmpFunc_Action_s_l6 data1 q43 m4 cmp6 a3 R_slices_symMergeCmpFunc_Action b5 m50) (IntKind.i64.wrap ((IntKind.i64.wrap (q51.toNat : Int)) + 1)) r49 else (F_slices_symMergeCmpFunc_Action_s_l6 data1 q43 m4 cmp6 a3 R_slices_symMergeCmpFunc_Action b5 m50) start48 (IntKind.i64.wrap (q51.toNat : Int))) else (bif ((decide (start48 < m4)) && (decide (m4 < (IntKind.i64.wrap ((IntKind.i64.wrap ((IntKind.i64.wrap (q43.toNat : Int)) + m4)) - start48))))) then (F_slices_rotateCmpFunc_Action data1 start48 m4 (IntKind.i64.wrap ((IntKind.i64.wrap ((IntKind.i64.wrap (q43.toNat : Int)) + m4)) - start48)) cmp6).bind fun l59 => F_slices_symMergeCmpFunc_Action_s_j7 a3 start48 q43 R_slices_symMergeCmpFunc_Action cmp6 m4 b5 l59 else F_slices_symMergeCmpFunc_Action_s_j7 a3 start48 q43 R_slices_symMergeCmpFunc_Action cmp6 m4 b5 data1))
def F_slices_symMergeCmpFunc_Action_s_j5 (data1 : (List Action)) (q43 : (BitVec 64)) (m4 : Int) (cmp6 : (Action → Action → Option Int)) (a3 : Int) (R_slices_symMergeCmpFunc_Action : ((List Action) → Int → Int → Int → (Action → Action → Option Int) → Option (List Action))) (b5 : Int) (start44 : Int) (r45 : Int) : Option (List Action) :=
  F_slices_symMergeCmpFunc_Action_s_l6 data1 q43 m4 cmp6 a3 R_slices_symMergeCmpFunc_Action b5 (((r45 : Int) - start44).toNat + 1) start44 r45
def F_slices_symMergeCmpFunc_Action_s (R_slices_symMergeCmpFunc_Action : ((List Action) → Int → Int → Int → (Action → Action → Option Int) → Option (List Action))) (data1 : (List Action)) (a3 : Int) (m4 : Int) (b5 : Int) (cmp6 : (Action → Action → Option Int)) : Option (List Action) :=
  (bif (decide ((IntKind.i64.wrap (m4 - a3)) = 1)) then F_slices_symMergeCmpFunc_Action_s_l1 data1 a3 cmp6 (((b5 : Int) - m4).toNat + 1) m4 b5 else (bif (decide ((IntKind.i64.wrap (b5 - m4)) = 1)) then F_slices_symMergeCmpFunc_Action_s_l3 data1 m4 cmp6 (((m4 : Int) - a3).toNat + 1) a3 m4 else (oushr (BitVec.ofInt 64 (IntKind.i64.wrap (a3 + b5))) ((1 : BitVec 64).toNat : Int)).bind fun q43 => (bif (decide (m4 > (IntKind.i64.wrap (q43.toNat : Int)))) then F_slices_symMergeCmpFunc_Action_s_j5 data1 q43 m4 cmp6 a3 R_slices_symMergeCmpFunc_Action b5 (IntKind.i64.wrap ((IntKind.i64.wrap ((IntKind.i64.wrap (q43.toNat : Int)) + m4)) - b5)) (IntKind.i64.wrap (q43.toNat : Int)) else F_slices_symMergeCmpFunc_Action_s_j5 data1 q43 m4 cmp6 a3 R_slices_symMergeCmpFunc_Action b5 a3 m4)))
theorem c_slices_symMergeCmpFunc_Action_s (R_slices_symMergeCmpFunc_Action : ((List Action) → Int → Int → Int → (Action → Action → Option Int) → Option (List Action))) (hR_slices_symMergeCmpFunc_Action : ∀ (v2 : Value) (data1 : (List Action)) (a3 : Int) (m4 : Int) (b5 : Int) (cmp6 : (Action → Action → Option Int)) (r : (List Action)), R_slices_symMergeCmpFunc_Action data1 a3 m4 b5 cmp6 = some r → Con Try.prog 144 [raw v2, rd (kint .i64) a3, rd (kint .i64) m4, rd (kint .i64) b5, fn2 Try.prog kAction kAction (kint .i64) cmp6] (Row v2 95 kAction data1) (fun _ : Unit => top) (fun _ => Row v2 95 kAction r)) (v2 : Value) (data1 : (List Action)) (a3 : Int) (m4 : Int) (b5 : Int) (cmp6 : (Action → Action → Option Int)) (r : (List Action)) (h : F_slices_symMergeCmpFunc_Action_s R_slices_symMergeCmpFunc_Action data1 a3 m4 b5 cmp6 = some r) : Con Try.prog 144 [raw v2, rd (kint .i64) a3, rd (kint .i64) m4, rd (kint .i64) b5, fn2 Try.prog kAction kAction (kint .i64) cmp6] (Row v2 95 kAction data1) (fun _ : Unit => top) (fun _ => Row v2 95 kAction r) := by
  refine Con.intro Try.func144 rfl Try.ntmps144 rfl fun w H X => ?_
  unfold F_slices_symMergeCmpFunc_Action_s at h
  refine AW.seq ?_
  refine AW.seq ?_
  refine AW.region ?_
  refine AOps.cons (op_move (A := rd (kint .i64) m4) rfl rfl (vt rfl)) rfl ?_
  refine AOps.cons (op_move (A := rd (kint .i64) a3) rfl rfl (vt rfl)) rfl ?_
  refine AOps.cons (op_sub rfl rfl (vt rfl) (vt rfl)) rfl ?_
  refine AOps.cons (op_eql rfl rfl (vt rfl) (vk rfl)) rfl ?_
  refine AOps.nil ?_
  refine AW.cond (vt rfl) (fun hc => ?_) (fun hc => ?_)
  · have h := cond_t hc h
    refine AW.seq ?_
    refine AW.region ?_
    refine AOps.cons (op_move (A := rd (kint .i64) m4) rfl rfl (vt rfl)) rfl ?_
    refine AOps.cons (op_assign (A := rd (kint .i64) m4) rfl rfl (vt rfl)) rfl ?_
    refine AOps.nil ?_
    refine AW.seq ?_
    refine AW.region ?_
    refine AOps.cons (op_move (A := rd (kint .i64) b5) rfl rfl (vt rfl)) rfl ?_
    refine AOps.cons (op_assign (A := rd (kint .i64) b5) rfl rfl (vt rfl)) rfl ?_
    refine AOps.nil ?_
    refine AW.seq ?_
    refine AW.block ?_
    refine AW.loopG (d := []) (ν := Nat × Int × Int) (fun n => True ∧ F_slices_symMergeCmpFunc_Action_s_l1 data1 a3 cmp6 n.1 n.2.1 n.2.2 = some r) (fun n => n.1) (fun n => [(0, raw v2), (1, rd (kint .i64) a3), (4, fn2 Try.prog kAction kAction (kint .i64) cmp6), (10, rd (kint .i64) n.2.1), (11, rd (kint .i64) n.2.2)]) (fun n => [(0, Row v2 95 kAction data1)]) ((((b5 : Int) - m4).toNat + 1), m4, b5) ⟨trivial, h⟩ ⟨rfl, ⟨rfl, rfl, rfl, rfl, rfl, trivial⟩, ⟨rfl, trivial⟩⟩ ?_
    rintro ⟨m11, i9, j10⟩ ⟨hsf1, h⟩
    change True at hsf1
    change F_slices_symMergeCmpFunc_Action_s_l1 data1 a3 cmp6 m11 i9 j10 = some r at h
    change AW _ _ _ ⟨slots [(0, raw v2), (1, rd (kint .i64) a3), (4, fn2 Try.prog kAction kAction (kint .i64) cmp6), (10, rd (kint .i64) i9), (11, rd (kint .i64) j10)], ress [(0, Row v2 95 kAction data1)], _⟩
    cases m11 with
    | zero => cases h
    | succ m11 =>
      unfold F_slices_symMergeCmpFunc_Action_s_l1 at h
      generalize hgo1 : F_slices_symMergeCmpFunc_Action_s_l1 data1 a3 cmp6 m11 = go1 at h
      refine AW.seq ?_
      refine AW.seq ?_
      refine AW.region ?_
      refine AOps.cons (op_move (A := rd (kint .i64) i9) rfl rfl (vt rfl)) rfl ?_
      refine AOps.cons (op_move (A := rd (kint .i64) j10) rfl rfl (vt rfl)) rfl ?_
      refine AOps.cons (op_lss rfl rfl (vt rfl) (vt rfl)) rfl ?_
      refine AOps.nil ?_
      refine AW.cond (vt rfl) (fun hc => ?_) (fun hc => ?_)
      · have h := cond_t hc h
        refine AW.skip ?_
        refine AW.block ?_
        refine AW.seq ?_
        obtain ⟨q12, hq12, h⟩ := bsome h
        refine AW.region ?_
        refine AOps.cons (op_move (A := rd (kint .i64) i9) rfl rfl (vt rfl)) rfl ?_
        refine AOps.cons (op_move (A := rd (kint .i64) j10) rfl rfl (vt rfl)) rfl ?_
        refine AOps.cons (op_add rfl rfl (vt rfl) (vt rfl)) rfl ?_
        refine AOps.cons (op_convu rfl rfl us3 un201 (vt rfl)) rfl ?_
        refine AOps.cons (op_ushr rfl rfl (vt rfl) (vu64 (vku (1 : BitVec 64) rfl)) hq12) rfl ?_
        refine AOps.cons (op_uconv rfl rfl us201 un3 (vt rfl)) rfl ?_
        refine AOps.cons (op_assign (A := rd (kint .i64) (IntKind.i64.wrap (q12.toNat : Int))) rfl rfl (vt rfl)) rfl ?_
        refine AOps.nil ?_
        refine AW.seq ?_
        obtain ⟨e13, he13, h⟩ := bsome h
        obtain ⟨e14, he14, h⟩ := bsome h
        obtain ⟨x15, hx15, h⟩ := bsome h
        refine AW.regionAny [⟨[4], [40], [], []⟩, ⟨[0], [41], [], []⟩, ⟨[12], [42], [], []⟩, ⟨[41, 42], [43], [0], []⟩, ⟨[43], [44], [0], []⟩, ⟨[0], [45], [], []⟩, ⟨[1], [46], [], []⟩, ⟨[45, 46], [47], [0], []⟩, ⟨[47], [48], [0], []⟩, ⟨[40, 44, 48], [49], [], []⟩, ⟨[49], [50], [], []⟩] mixed (by kernel_rfl) ?_
        refine SeqA.cons (loc [4] [] rfl rfl fun S hs hr => op_move (A := fn2 Try.prog kAction kAction (kint .i64) cmp6) rfl rfl (vt ((hs 4 rfl).trans rfl))) ⟨rfl, rfl, rfl, rfl⟩ ?_
        refine SeqA.cons (loc [0] [] rfl rfl fun S hs hr => op_move (A := raw v2) rfl rfl (vt ((hs 0 rfl).trans rfl))) ⟨rfl, rfl, rfl, rfl⟩ ?_
        refine SeqA.cons (loc [12] [] rfl rfl fun S hs hr => op_move (A := rd (kint .i64) (IntKind.i64.wrap (q12.toNat : Int))) rfl rfl (vt ((hs 12 rfl).trans rfl))) ⟨rfl, rfl, rfl, rfl⟩ ?_
        refine SeqA.cons (loc [41, 42] [0] rfl rfl fun S hs hr => op_indexo' 0 rfl rfl sl66 (vt ((hs 41 rfl).trans rfl)) ((hr 0 rfl).trans rfl) (vt ((hs 42 rfl).trans rfl)) he13) ⟨rfl, rfl, rfl, rfl⟩ ?_
        refine SeqA.cons (loc [43] [0] rfl rfl fun S hs hr => op_loado' 0 rfl rfl ty95 (vt ((hs 43 rfl).trans rfl)) ((hr 0 rfl).trans rfl) (lget_of he13).2) ⟨rfl, rfl, rfl, rfl⟩ ?_
        refine SeqA.cons (loc [0] [] rfl rfl fun S hs hr => op_move (A := raw v2) rfl rfl (vt ((hs 0 rfl).trans rfl))) ⟨rfl, rfl, rfl, rfl⟩ ?_
        refine SeqA.cons (loc [1] [] rfl rfl fun S hs hr => op_move (A := rd (kint .i64) a3) rfl rfl (vt ((hs 1 rfl).trans rfl))) ⟨rfl, rfl, rfl, rfl⟩ ?_
        refine SeqA.cons (loc [45, 46] [0] rfl rfl fun S hs hr => op_indexo' 0 rfl rfl sl66 (vt ((hs 45 rfl).trans rfl)) ((hr 0 rfl).trans rfl) (vt ((hs 46 rfl).trans rfl)) he14) ⟨rfl, rfl, rfl, rfl⟩ ?_
        refine SeqA.cons (loc [47] [0] rfl rfl fun S hs hr => op_loado' 0 rfl rfl ty95 (vt ((hs 47 rfl).trans rfl)) ((hr 0 rfl).trans rfl) (lget_of he14).2) ⟨rfl, rfl, rfl, rfl⟩ ?_
        refine SeqA.cons (loc [40, 44, 48] [] rfl rfl fun S hs hr => op_call2 hx15 rfl rfl (vt ((hs 40 rfl).trans rfl)) (vt ((hs 44 rfl).trans rfl)) (vt ((hs 48 rfl).trans rfl))) ⟨rfl, rfl, rfl, rfl⟩ ?_
        refine SeqA.cons (loc [49] [] rfl rfl fun S hs hr => op_lss rfl rfl (vt ((hs 49 rfl).trans rfl)) (vk rfl)) ⟨rfl, rfl, rfl, rfl⟩ ?_
        refine AW.cond (vt rfl) (fun hc => ?_) (fun hc => ?_)
        · have h := cond_t hc h
          refine AW.region ?_
          refine AOps.cons (op_move (A := rd (kint .i64) (IntKind.i64.wrap (q12.toNat : Int))) rfl rfl (vt rfl)) rfl ?_
          refine AOps.cons (op_add rfl rfl (vt rfl) (vk rfl)) rfl ?_
          refine AOps.cons (op_assign (A := rd (kint .i64) (IntKind.i64.wrap ((IntKind.i64.wrap (q12.toNat : Int)) + 1))) rfl rfl (vt rfl)) rfl ?_
          refine AOps.nil ?_
          subst hgo1
          exact ⟨(m11, (IntKind.i64.wrap ((IntKind.i64.wrap (q12.toNat : Int)) + 1)), j10), Nat.lt_succ_self _, ⟨trivial, h⟩, ⟨rfl, ⟨rfl, rfl, rfl, rfl, rfl, trivial⟩, ⟨rfl, trivial⟩⟩⟩
        · have h := cond_f hc h
          refine AW.region ?_
          refine AOps.cons (op_move (A := rd (kint .i64) (IntKind.i64.wrap (q12.toNat : Int))) rfl rfl (vt rfl)) rfl ?_
          refine AOps.cons (op_assign (A := rd (kint .i64) (IntKind.i64.wrap (q12.toNat : Int))) rfl rfl (vt rfl)) rfl ?_
          refine AOps.nil ?_
          subst hgo1
          exact ⟨(m11, i9, (IntKind.i64.wrap (q12.toNat : Int))), Nat.lt_succ_self _, ⟨trivial, h⟩, ⟨rfl, ⟨rfl, rfl, rfl, rfl, rfl, trivial⟩, ⟨rfl, trivial⟩⟩⟩
      · have h := cond_f hc h
        refine AW.exit ?_
        refine AW.seq ?_
        refine AW.seq ?_
        refine AW.region ?_
        refine AOps.cons (op_move (A := rd (kint .i64) a3) rfl rfl (vt rfl)) rfl ?_
        refine AOps.cons (op_assign (A := rd (kint .i64) a3) rfl rfl (vt rfl)) rfl ?_
        refine AOps.nil ?_
        refine AW.block ?_
        refine AW.loopG (d := []) (ν := Nat × (List Action) × Int) (fun n => True ∧ F_slices_symMergeCmpFunc_Action_s_l2 i9 n.1 n.2.1 n.2.2 = some r) (fun n => n.1) (fun n => [(0, raw v2), (10, rd (kint .i64) i9), (13, rd (kint .i64) n.2.2)]) (fun n => [(0, Row v2 95 kAction n.2.1)]) (((((IntKind.i64.wrap (i9 - 1)) : Int) - a3).toNat + 1), data1, a3) ⟨trivial, h⟩ ⟨rfl, ⟨rfl, rfl, rfl, trivial⟩, ⟨rfl, trivial⟩⟩ ?_
        rintro ⟨m20, l18, k19⟩ ⟨hsf2, h⟩
        change True at hsf2
        change F_slices_symMergeCmpFunc_Action_s_l2 i9 m20 l18 k19 = some r at h
        change AW _ _ _ ⟨slots [(0, raw v2), (10, rd (kint .i64) i9), (13, rd (kint .i64) k19)], ress [(0, Row v2 95 kAction l18)], _⟩
        cases m20 with
        | zero => cases h
        | succ m20 =>
          unfold F_slices_symMergeCmpFunc_Action_s_l2 at h
          generalize hgo2 : F_slices_symMergeCmpFunc_Action_s_l2 i9 m20 = go2 at h
          refine AW.seq ?_
          refine AW.seq ?_
          refine AW.region ?_
          refine AOps.cons (op_move (A := rd (kint .i64) k19) rfl rfl (vt rfl)) rfl ?_
          refine AOps.cons (op_move (A := rd (kint .i64) i9) rfl rfl (vt rfl)) rfl ?_
          refine AOps.cons (op_sub rfl rfl (vt rfl) (vk rfl)) rfl ?_
          refine AOps.cons (op_lss rfl rfl (vt rfl) (vt rfl)) rfl ?_
          refine AOps.nil ?_
          refine AW.cond (vt rfl) (fun hc => ?_) (fun hc => ?_)
          · have h := cond_t hc h
            refine AW.skip ?_
            refine AW.seq ?_
            refine AW.block ?_
            refine AW.vlen 0 rfl fun hvl0_218 => ?_
            obtain ⟨e21, he21, h⟩ := bsome h
            obtain ⟨e22, he22, h⟩ := bsome h
            obtain ⟨e23, he23, h⟩ := bsome h
            obtain ⟨e24, he24, h⟩ := bsome h
            refine AW.regionAny [⟨[0], [61], [], []⟩, ⟨[13], [62], [], []⟩, ⟨[0], [63], [], []⟩, ⟨[13], [64], [], []⟩, ⟨[64], [65], [], []⟩, ⟨[0], [66], [], []⟩, ⟨[13], [67], [], []⟩, ⟨[67], [68], [], []⟩, ⟨[66, 68], [69], [], []⟩, ⟨[69], [70], [0], []⟩, ⟨[0], [71], [], []⟩, ⟨[13], [72], [], []⟩, ⟨[71, 72], [73], [], []⟩, ⟨[73], [74], [0], []⟩, ⟨[61, 62], [75], [], []⟩, ⟨[75, 70], [], [0], [0]⟩, ⟨[63, 65], [76], [], []⟩, ⟨[76, 74], [], [0], [0]⟩] mixed (by kernel_rfl) ?_
            refine SeqA.cons (loc [0] [] rfl rfl fun S hs hr => op_move (A := raw v2) rfl rfl (vt ((hs 0 rfl).trans rfl))) ⟨rfl, rfl, rfl, rfl⟩ ?_
            refine SeqA.cons (loc [13] [] rfl rfl fun S hs hr => op_move (A := rd (kint .i64) k19) rfl rfl (vt ((hs 13 rfl).trans rfl))) ⟨rfl, rfl, rfl, rfl⟩ ?_
            refine SeqA.cons (loc [0] [] rfl rfl fun S hs hr => op_move (A := raw v2) rfl rfl (vt ((hs 0 rfl).trans rfl))) ⟨rfl, rfl, rfl, rfl⟩ ?_
            refine SeqA.cons (loc [13] [] rfl rfl fun S hs hr => op_move (A := rd (kint .i64) k19) rfl rfl (vt ((hs 13 rfl).trans rfl))) ⟨rfl, rfl, rfl, rfl⟩ ?_
            refine SeqA.cons (loc [64] [] rfl rfl fun S hs hr => op_add rfl rfl (vt ((hs 64 rfl).trans rfl)) (vk rfl)) ⟨rfl, rfl, rfl, rfl⟩ ?_
            refine SeqA.cons (loc [0] [] rfl rfl fun S hs hr => op_move (A := raw v2) rfl rfl (vt ((hs 0 rfl).trans rfl))) ⟨rfl, rfl, rfl, rfl⟩ ?_
            refine SeqA.cons (loc [13] [] rfl rfl fun S hs hr => op_move (A := rd (kint .i64) k19) rfl rfl (vt ((hs 13 rfl).trans rfl))) ⟨rfl, rfl, rfl, rfl⟩ ?_
            refine SeqA.cons (loc [67] [] rfl rfl fun S hs hr => op_add rfl rfl (vt ((hs 67 rfl).trans rfl)) (vk rfl)) ⟨rfl, rfl, rfl, rfl⟩ ?_
            refine SeqA.cons (loc [66, 68] [] rfl rfl fun S hs hr => op_indexoP (l := l18) hvl0_218 rfl rfl rfl sl66 (vt ((hs 66 rfl).trans rfl)) (vt ((hs 68 rfl).trans rfl)) he21) ⟨rfl, rfl, rfl, rfl⟩ ?_
            refine SeqA.cons (loc [69] [0] rfl rfl fun S hs hr => op_loado' 0 rfl rfl ty95 (vt ((hs 69 rfl).trans rfl)) ((hr 0 rfl).trans rfl) (lget_of he21).2) ⟨rfl, rfl, rfl, rfl⟩ ?_
            refine SeqA.cons (loc [0] [] rfl rfl fun S hs hr => op_move (A := raw v2) rfl rfl (vt ((hs 0 rfl).trans rfl))) ⟨rfl, rfl, rfl, rfl⟩ ?_
            refine SeqA.cons (loc [13] [] rfl rfl fun S hs hr => op_move (A := rd (kint .i64) k19) rfl rfl (vt ((hs 13 rfl).trans rfl))) ⟨rfl, rfl, rfl, rfl⟩ ?_
            refine SeqA.cons (loc [71, 72] [] rfl rfl fun S hs hr => op_indexoP (l := l18) hvl0_218 rfl rfl rfl sl66 (vt ((hs 71 rfl).trans rfl)) (vt ((hs 72 rfl).trans rfl)) he22) ⟨rfl, rfl, rfl, rfl⟩ ?_
            refine SeqA.cons (loc [73] [0] rfl rfl fun S hs hr => op_loado' 0 rfl rfl ty95 (vt ((hs 73 rfl).trans rfl)) ((hr 0 rfl).trans rfl) (lget_of he22).2) ⟨rfl, rfl, rfl, rfl⟩ ?_
            refine SeqA.cons (loc [61, 62] [] rfl rfl fun S hs hr => op_indexoP (l := l18) hvl0_218 rfl rfl rfl sl66 (vt ((hs 61 rfl).trans rfl)) (vt ((hs 62 rfl).trans rfl)) he23) ⟨rfl, rfl, rfl, rfl⟩ ?_
            refine SeqA.cons (locr [75, 70] [0] rfl fun S hs hr => op_storeo' 0 rfl rfl ty95 (vt ((hs 75 rfl).trans rfl)) ((hr 0 rfl).trans rfl) (lget_of he23).2 (vt ((hs 70 rfl).trans rfl))) ⟨rfl, rfl, rfl, rfl⟩ ?_
            refine SeqA.cons (loc [63, 65] [] rfl rfl fun S hs hr => op_indexoP (l := (List.set l18 k19.toNat e21)) hvl0_218 (by simp) rfl rfl sl66 (vt ((hs 63 rfl).trans rfl)) (vt ((hs 65 rfl).trans rfl)) he24) ⟨rfl, rfl, rfl, rfl⟩ ?_
            refine SeqA.cons (locr [76, 74] [0] rfl fun S hs hr => op_storeo' 0 rfl rfl ty95 (vt ((hs 76 rfl).trans rfl)) ((hr 0 rfl).trans rfl) (lget_of he24).2 (vt ((hs 74 rfl).trans rfl))) ⟨rfl, rfl, rfl, rfl⟩ ?_
            refine AW.region ?_
            refine AOps.cons (op_move (A := rd (kint .i64) k19) rfl rfl (vt rfl)) rfl ?_
            refine AOps.cons (op_add rfl rfl (vt rfl) (vk rfl)) rfl ?_
            refine AOps.cons (op_assign (A := rd (kint .i64) (IntKind.i64.wrap (k19 + 1))) rfl rfl (vt rfl)) rfl ?_
            refine AOps.nil ?_
            subst hgo2
            exact ⟨(m20, (List.set (List.set l18 k19.toNat e21) (IntKind.i64.wrap (k19 + 1)).toNat e22), (IntKind.i64.wrap (k19 + 1))), Nat.lt_succ_self _, ⟨trivial, h⟩, ⟨rfl, ⟨rfl, rfl, rfl, trivial⟩, ⟨rfl, trivial⟩⟩⟩
          · have h := cond_f hc h
            refine AW.exit ?_
            refine AW.ret ?_
            obtain rfl := Option.some.inj h
            exact ret0Y (i := 0) Try.results144 rfl rfl
  · have h := cond_f hc h
    refine AW.skip ?_
    refine AW.seq ?_
    refine AW.seq ?_
    refine AW.region ?_
    refine AOps.cons (op_move (A := rd (kint .i64) b5) rfl rfl (vt rfl)) rfl ?_
    refine AOps.cons (op_move (A := rd (kint .i64) m4) rfl rfl (vt rfl)) rfl ?_
    refine AOps.cons (op_sub rfl rfl (vt rfl) (vt rfl)) rfl ?_
    refine AOps.cons (op_eql rfl rfl (vt rfl) (vk rfl)) rfl ?_
    refine AOps.nil ?_
    refine AW.cond (vt rfl) (fun hc => ?_) (fun hc => ?_)
    · have h := cond_t hc h
      refine AW.seq ?_
      refine AW.region ?_
      refine AOps.cons (op_move (A := rd (kint .i64) a3) rfl rfl (vt rfl)) rfl ?_
      refine AOps.cons (op_assign (A := rd (kint .i64) a3) rfl rfl (vt rfl)) rfl ?_
      refine AOps.nil ?_
      refine AW.seq ?_
      refine AW.region ?_
      refine AOps.cons (op_move (A := rd (kint .i64) m4) rfl rfl (vt rfl)) rfl ?_
      refine AOps.cons (op_assign (A := rd (kint .i64) m4) rfl rfl (vt rfl)) rfl ?_
      refine AOps.nil ?_
      refine AW.seq ?_
      refine AW.block ?_
      refine AW.loopG (d := []) (ν := Nat × Int × Int) (fun n => True ∧ F_slices_symMergeCmpFunc_Action_s_l3 data1 m4 cmp6 n.1 n.2.1 n.2.2 = some r) (fun n => n.1) (fun n => [(0, raw v2), (2, rd (kint .i64) m4), (4, fn2 Try.prog kAction kAction (kint .i64) cmp6), (14, rd (kint .i64) n.2.1), (15, rd (kint .i64) n.2.2)]) (fun n => [(0, Row v2 95 kAction data1)]) ((((m4 : Int) - a3).toNat + 1), a3, m4) ⟨trivial, h⟩ ⟨rfl, ⟨rfl, rfl, rfl, rfl, rfl, trivial⟩, ⟨rfl, trivial⟩⟩ ?_
      rintro ⟨m29, i27, j28⟩ ⟨hsf3, h⟩
      change True at hsf3
      change F_slices_symMergeCmpFunc_Action_s_l3 data1 m4 cmp6 m29 i27 j28 = some r at h
      change AW _ _ _ ⟨slots [(0, raw v2), (2, rd (kint .i64) m4), (4, fn2 Try.prog kAction kAction (kint .i64) cmp6), (14, rd (kint .i64) i27), (15, rd (kint .i64) j28)], ress [(0, Row v2 95 kAction data1)], _⟩
      cases m29 with
      | zero => cases h
      | succ m29 =>
        unfold F_slices_symMergeCmpFunc_Action_s_l3 at h
        generalize hgo3 : F_slices_symMergeCmpFunc_Action_s_l3 data1 m4 cmp6 m29 = go3 at h
        refine AW.seq ?_
        refine AW.seq ?_
        refine AW.region ?_
        refine AOps.cons (op_move (A := rd (kint .i64) i27) rfl rfl (vt rfl)) rfl ?_
        refine AOps.cons (op_move (A := rd (kint .i64) j28) rfl rfl (vt rfl)) rfl ?_
        refine AOps.cons (op_lss rfl rfl (vt rfl) (vt rfl)) rfl ?_
        refine AOps.nil ?_
        refine AW.cond (vt rfl) (fun hc => ?_) (fun hc => ?_)
        · have h := cond_t hc h
          refine AW.skip ?_
          refine AW.block ?_
          refine AW.seq ?_
          obtain ⟨q30, hq30, h⟩ := bsome h
          refine AW.region ?_
          refine AOps.cons (op_move (A := rd (kint .i64) i27) rfl rfl (vt rfl)) rfl ?_
          refine AOps.cons (op_move (A := rd (kint .i64) j28) rfl rfl (vt rfl)) rfl ?_
          refine AOps.cons (op_add rfl rfl (vt rfl) (vt rfl)) rfl ?_
          refine AOps.cons (op_convu rfl rfl us3 un201 (vt rfl)) rfl ?_
          refine AOps.cons (op_ushr rfl rfl (vt rfl) (vu64 (vku (1 : BitVec 64) rfl)) hq30) rfl ?_
          refine AOps.cons (op_uconv rfl rfl us201 un3 (vt rfl)) rfl ?_
          refine AOps.cons (op_assign (A := rd (kint .i64) (IntKind.i64.wrap (q30.toNat : Int))) rfl rfl (vt rfl)) rfl ?_
          refine AOps.nil ?_
          refine AW.seq ?_
          obtain ⟨e31, he31, h⟩ := bsome h
          obtain ⟨e32, he32, h⟩ := bsome h
          obtain ⟨x33, hx33, h⟩ := bsome h
          refine AW.regionAny [⟨[4], [92], [], []⟩, ⟨[0], [93], [], []⟩, ⟨[2], [94], [], []⟩, ⟨[93, 94], [95], [0], []⟩, ⟨[95], [96], [0], []⟩, ⟨[0], [97], [], []⟩, ⟨[16], [98], [], []⟩, ⟨[97, 98], [99], [0], []⟩, ⟨[99], [100], [0], []⟩, ⟨[92, 96, 100], [101], [], []⟩, ⟨[101], [102], [], []⟩, ⟨[102], [103], [], []⟩] mixed (by kernel_rfl) ?_
          refine SeqA.cons (loc [4] [] rfl rfl fun S hs hr => op_move (A := fn2 Try.prog kAction kAction (kint .i64) cmp6) rfl rfl (vt ((hs 4 rfl).trans rfl))) ⟨rfl, rfl, rfl, rfl⟩ ?_
          refine SeqA.cons (loc [0] [] rfl rfl fun S hs hr => op_move (A := raw v2) rfl rfl (vt ((hs 0 rfl).trans rfl))) ⟨rfl, rfl, rfl, rfl⟩ ?_
          refine SeqA.cons (loc [2] [] rfl rfl fun S hs hr => op_move (A := rd (kint .i64) m4) rfl rfl (vt ((hs 2 rfl).trans rfl))) ⟨rfl, rfl, rfl, rfl⟩ ?_
          refine SeqA.cons (loc [93, 94] [0] rfl rfl fun S hs hr => op_indexo' 0 rfl rfl sl66 (vt ((hs 93 rfl).trans rfl)) ((hr 0 rfl).trans rfl) (vt ((hs 94 rfl).trans rfl)) he31) ⟨rfl, rfl, rfl, rfl⟩ ?_
          refine SeqA.cons (loc [95] [0] rfl rfl fun S hs hr => op_loado' 0 rfl rfl ty95 (vt ((hs 95 rfl).trans rfl)) ((hr 0 rfl).trans rfl) (lget_of he31).2) ⟨rfl, rfl, rfl, rfl⟩ ?_
          refine SeqA.cons (loc [0] [] rfl rfl fun S hs hr => op_move (A := raw v2) rfl rfl (vt ((hs 0 rfl).trans rfl))) ⟨rfl, rfl, rfl, rfl⟩ ?_
          refine SeqA.cons (loc [16] [] rfl rfl fun S hs hr => op_move (A := rd (kint .i64) (IntKind.i64.wrap (q30.toNat : Int))) rfl rfl (vt ((hs 16 rfl).trans rfl))) ⟨rfl, rfl, rfl, rfl⟩ ?_
          refine SeqA.cons (loc [97, 98] [0] rfl rfl fun S hs hr => op_indexo' 0 rfl rfl sl66 (vt ((hs 97 rfl).trans rfl)) ((hr 0 rfl).trans rfl) (vt ((hs 98 rfl).trans rfl)) he32) ⟨rfl, rfl, rfl, rfl⟩ ?_
          refine SeqA.cons (loc [99] [0] rfl rfl fun S hs hr => op_loado' 0 rfl rfl ty95 (vt ((hs 99 rfl).trans rfl)) ((hr 0 rfl).trans rfl) (lget_of he32).2) ⟨rfl, rfl, rfl, rfl⟩ ?_
          refine SeqA.cons (loc [92, 96, 100] [] rfl rfl fun S hs hr => op_call2 hx33 rfl rfl (vt ((hs 92 rfl).trans rfl)) (vt ((hs 96 rfl).trans rfl)) (vt ((hs 100 rfl).trans rfl))) ⟨rfl, rfl, rfl, rfl⟩ ?_
          refine SeqA.cons (loc [101] [] rfl rfl fun S hs hr => op_lss rfl rfl (vt ((hs 101 rfl).trans rfl)) (vk rfl)) ⟨rfl, rfl, rfl, rfl⟩ ?_
          refine SeqA.cons (loc [102] [] rfl rfl fun S hs hr => op_not rfl rfl (vt ((hs 102 rfl).trans rfl))) ⟨rfl, rfl, rfl, rfl⟩ ?_
          refine AW.cond (vt rfl) (fun hc => ?_) (fun hc => ?_)
          · have h := cond_t hc h
            refine AW.region ?_
            refine AOps.cons (op_move (A := rd (kint .i64) (IntKind.i64.wrap (q30.toNat : Int))) rfl rfl (vt rfl)) rfl ?_
            refine AOps.cons (op_add rfl rfl (vt rfl) (vk rfl)) rfl ?_
            refine AOps.cons (op_assign (A := rd (kint .i64) (IntKind.i64.wrap ((IntKind.i64.wrap (q30.toNat : Int)) + 1))) rfl rfl (vt rfl)) rfl ?_
            refine AOps.nil ?_
            subst hgo3
            exact ⟨(m29, (IntKind.i64.wrap ((IntKind.i64.wrap (q30.toNat : Int)) + 1)), j28), Nat.lt_succ_self _, ⟨trivial, h⟩, ⟨rfl, ⟨rfl, rfl, rfl, rfl, rfl, trivial⟩, ⟨rfl, trivial⟩⟩⟩
          · have h := cond_f hc h
            refine AW.region ?_
            refine AOps.cons (op_move (A := rd (kint .i64) (IntKind.i64.wrap (q30.toNat : Int))) rfl rfl (vt rfl)) rfl ?_
            refine AOps.cons (op_assign (A := rd (kint .i64) (IntKind.i64.wrap (q30.toNat : Int))) rfl rfl (vt rfl)) rfl ?_
            refine AOps.nil ?_
            subst hgo3
            exact ⟨(m29, i27, (IntKind.i64.wrap (q30.toNat : Int))), Nat.lt_succ_self _, ⟨trivial, h⟩, ⟨rfl, ⟨rfl, rfl, rfl, rfl, rfl, trivial⟩, ⟨rfl, trivial⟩⟩⟩
        · have h := cond_f hc h
          refine AW.exit ?_
          refine AW.seq ?_
          refine AW.seq ?_
          refine AW.region ?_
          refine AOps.cons (op_move (A := rd (kint .i64) m4) rfl rfl (vt rfl)) rfl ?_
          refine AOps.cons (op_assign (A := rd (kint .i64) m4) rfl rfl (vt rfl)) rfl ?_
          refine AOps.nil ?_
          refine AW.block ?_
          refine AW.loopG (d := []) (ν := Nat × (List Action) × Int) (fun n => True ∧ F_slices_symMergeCmpFunc_Action_s_l4 i27 n.1 n.2.1 n.2.2 = some r) (fun n => n.1) (fun n => [(0, raw v2), (14, rd (kint .i64) i27), (17, rd (kint .i64) n.2.2)]) (fun n => [(0, Row v2 95 kAction n.2.1)]) ((((m4 : Int) - i27).toNat + 1), data1, m4) ⟨trivial, h⟩ ⟨rfl, ⟨rfl, rfl, rfl, trivial⟩, ⟨rfl, trivial⟩⟩ ?_
          rintro ⟨m38, l36, k37⟩ ⟨hsf4, h⟩
          change True at hsf4
          change F_slices_symMergeCmpFunc_Action_s_l4 i27 m38 l36 k37 = some r at h
          change AW _ _ _ ⟨slots [(0, raw v2), (14, rd (kint .i64) i27), (17, rd (kint .i64) k37)], ress [(0, Row v2 95 kAction l36)], _⟩
          cases m38 with
          | zero => cases h
          | succ m38 =>
            unfold F_slices_symMergeCmpFunc_Action_s_l4 at h
            generalize hgo4 : F_slices_symMergeCmpFunc_Action_s_l4 i27 m38 = go4 at h
            refine AW.seq ?_
            refine AW.seq ?_
            refine AW.region ?_
            refine AOps.cons (op_move (A := rd (kint .i64) k37) rfl rfl (vt rfl)) rfl ?_
            refine AOps.cons (op_move (A := rd (kint .i64) i27) rfl rfl (vt rfl)) rfl ?_
            refine AOps.cons (op_gtr rfl rfl (vt rfl) (vt rfl)) rfl ?_
            refine AOps.nil ?_
            refine AW.cond (vt rfl) (fun hc => ?_) (fun hc => ?_)
            · have h := cond_t hc h
              refine AW.skip ?_
              refine AW.seq ?_
              refine AW.block ?_
              refine AW.vlen 0 rfl fun hvl0_474 => ?_
              obtain ⟨e39, he39, h⟩ := bsome h
              obtain ⟨e40, he40, h⟩ := bsome h
              obtain ⟨e41, he41, h⟩ := bsome h
              obtain ⟨e42, he42, h⟩ := bsome h
              refine AW.regionAny [⟨[0], [113], [], []⟩, ⟨[17], [114], [], []⟩, ⟨[0], [115], [], []⟩, ⟨[17], [116], [], []⟩, ⟨[116], [117], [], []⟩, ⟨[0], [118], [], []⟩, ⟨[17], [119], [], []⟩, ⟨[119], [120], [], []⟩, ⟨[118, 120], [121], [], []⟩, ⟨[121], [122], [0], []⟩, ⟨[0], [123], [], []⟩, ⟨[17], [124], [], []⟩, ⟨[123, 124], [125], [], []⟩, ⟨[125], [126], [0], []⟩, ⟨[113, 114], [127], [], []⟩, ⟨[127, 122], [], [0], [0]⟩, ⟨[115, 117], [128], [], []⟩, ⟨[128, 126], [], [0], [0]⟩] mixed (by kernel_rfl) ?_
              refine SeqA.cons (loc [0] [] rfl rfl fun S hs hr => op_move (A := raw v2) rfl rfl (vt ((hs 0 rfl).trans rfl))) ⟨rfl, rfl, rfl, rfl⟩ ?_
              refine SeqA.cons (loc [17] [] rfl rfl fun S hs hr => op_move (A := rd (kint .i64) k37) rfl rfl (vt ((hs 17 rfl).trans rfl))) ⟨rfl, rfl, rfl, rfl⟩ ?_
              refine SeqA.cons (loc [0] [] rfl rfl fun S hs hr => op_move (A := raw v2) rfl rfl (vt ((hs 0 rfl).trans rfl))) ⟨rfl, rfl, rfl, rfl⟩ ?_
              refine SeqA.cons (loc [17] [] rfl rfl fun S hs hr => op_move (A := rd (kint .i64) k37) rfl rfl (vt ((hs 17 rfl).trans rfl))) ⟨rfl, rfl, rfl, rfl⟩ ?_
              refine SeqA.cons (loc [116] [] rfl rfl fun S hs hr => op_sub rfl rfl (vt ((hs 116 rfl).trans rfl)) (vk rfl)) ⟨rfl, rfl, rfl, rfl⟩ ?_
              refine SeqA.cons (loc [0] [] rfl rfl fun S hs hr => op_move (A := raw v2) rfl rfl (vt ((hs 0 rfl).trans rfl))) ⟨rfl, rfl, rfl, rfl⟩ ?_
              refine SeqA.cons (loc [17] [] rfl rfl fun S hs hr => op_move (A := rd (kint .i64) k37) rfl rfl (vt ((hs 17 rfl).trans rfl))) ⟨rfl, rfl, rfl, rfl⟩ ?_
              refine SeqA.cons (loc [119] [] rfl rfl fun S hs hr => op_sub rfl rfl (vt ((hs 119 rfl).trans rfl)) (vk rfl)) ⟨rfl, rfl, rfl, rfl⟩ ?_
              refine SeqA.cons (loc [118, 120] [] rfl rfl fun S hs hr => op_indexoP (l := l36) hvl0_474 rfl rfl rfl sl66 (vt ((hs 118 rfl).trans rfl)) (vt ((hs 120 rfl).trans rfl)) he39) ⟨rfl, rfl, rfl, rfl⟩ ?_
              refine SeqA.cons (loc [121] [0] rfl rfl fun S hs hr => op_loado' 0 rfl rfl ty95 (vt ((hs 121 rfl).trans rfl)) ((hr 0 rfl).trans rfl) (lget_of he39).2) ⟨rfl, rfl, rfl, rfl⟩ ?_
              refine SeqA.cons (loc [0] [] rfl rfl fun S hs hr => op_move (A := raw v2) rfl rfl (vt ((hs 0 rfl).trans rfl))) ⟨rfl, rfl, rfl, rfl⟩ ?_
              refine SeqA.cons (loc [17] [] rfl rfl fun S hs hr => op_move (A := rd (kint .i64) k37) rfl rfl (vt ((hs 17 rfl).trans rfl))) ⟨rfl, rfl, rfl, rfl⟩ ?_
              refine SeqA.cons (loc [123, 124] [] rfl rfl fun S hs hr => op_indexoP (l := l36) hvl0_474 rfl rfl rfl sl66 (vt ((hs 123 rfl).trans rfl)) (vt ((hs 124 rfl).trans rfl)) he40) ⟨rfl, rfl, rfl, rfl⟩ ?_
              refine SeqA.cons (loc [125] [0] rfl rfl fun S hs hr => op_loado' 0 rfl rfl ty95 (vt ((hs 125 rfl).trans rfl)) ((hr 0 rfl).trans rfl) (lget_of he40).2) ⟨rfl, rfl, rfl, rfl⟩ ?_
              refine SeqA.cons (loc [113, 114] [] rfl rfl fun S hs hr => op_indexoP (l := l36) hvl0_474 rfl rfl rfl sl66 (vt ((hs 113 rfl).trans rfl)) (vt ((hs 114 rfl).trans rfl)) he41) ⟨rfl, rfl, rfl, rfl⟩ ?_
              refine SeqA.cons (locr [127, 122] [0] rfl fun S hs hr => op_storeo' 0 rfl rfl ty95 (vt ((hs 127 rfl).trans rfl)) ((hr 0 rfl).trans rfl) (lget_of he41).2 (vt ((hs 122 rfl).trans rfl))) ⟨rfl, rfl, rfl, rfl⟩ ?_
              refine SeqA.cons (loc [115, 117] [] rfl rfl fun S hs hr => op_indexoP (l := (List.set l36 k37.toNat e39)) hvl0_474 (by simp) rfl rfl sl66 (vt ((hs 115 rfl).trans rfl)) (vt ((hs 117 rfl).trans rfl)) he42) ⟨rfl, rfl, rfl, rfl⟩ ?_
              refine SeqA.cons (locr [128, 126] [0] rfl fun S hs hr => op_storeo' 0 rfl rfl ty95 (vt ((hs 128 rfl).trans rfl)) ((hr 0 rfl).trans rfl) (lget_of he42).2 (vt ((hs 126 rfl).trans rfl))) ⟨rfl, rfl, rfl, rfl⟩ ?_
              refine AW.region ?_
              refine AOps.cons (op_move (A := rd (kint .i64) k37) rfl rfl (vt rfl)) rfl ?_
              refine AOps.cons (op_sub rfl rfl (vt rfl) (vk rfl)) rfl ?_
              refine AOps.cons (op_assign (A := rd (kint .i64) (IntKind.i64.wrap (k37 - 1))) rfl rfl (vt rfl)) rfl ?_
              refine AOps.nil ?_
              subst hgo4
              exact ⟨(m38, (List.set (List.set l36 k37.toNat e39) (IntKind.i64.wrap (k37 - 1)).toNat e40), (IntKind.i64.wrap (k37 - 1))), Nat.lt_succ_self _, ⟨trivial, h⟩, ⟨rfl, ⟨rfl, rfl, rfl, trivial⟩, ⟨rfl, trivial⟩⟩⟩
            · have h := cond_f hc h
              refine AW.exit ?_
              refine AW.ret ?_
              obtain rfl := Option.some.inj h
              exact ret0Y (i := 0) Try.results144 rfl rfl
    · have h := cond_f hc h
      refine AW.skip ?_
      refine AW.seq ?_
      obtain ⟨q43, hq43, h⟩ := bsome h
      refine AW.region ?_
      refine AOps.cons (op_move (A := rd (kint .i64) a3) rfl rfl (vt rfl)) rfl ?_
      refine AOps.cons (op_move (A := rd (kint .i64) b5) rfl rfl (vt rfl)) rfl ?_
      refine AOps.cons (op_add rfl rfl (vt rfl) (vt rfl)) rfl ?_
      refine AOps.cons (op_convu rfl rfl us3 un201 (vt rfl)) rfl ?_
      refine AOps.cons (op_ushr rfl rfl (vt rfl) (vu64 (vku (1 : BitVec 64) rfl)) hq43) rfl ?_
      refine AOps.cons (op_uconv rfl rfl us201 un3 (vt rfl)) rfl ?_
      refine AOps.cons (op_assign (A := rd (kint .i64) (IntKind.i64.wrap (q43.toNat : Int))) rfl rfl (vt rfl)) rfl ?_
      refine AOps.nil ?_
      refine AW.seq ?_
      refine AW.region ?_
      refine AOps.cons (op_move (A := rd (kint .i64) (IntKind.i64.wrap (q43.toNat : Int))) rfl rfl (vt rfl)) rfl ?_
      refine AOps.cons (op_move (A := rd (kint .i64) m4) rfl rfl (vt rfl)) rfl ?_
      refine AOps.cons (op_add rfl rfl (vt rfl) (vt rfl)) rfl ?_
      refine AOps.cons (op_assign (A := rd (kint .i64) (IntKind.i64.wrap ((IntKind.i64.wrap (q43.toNat : Int)) + m4))) rfl rfl (vt rfl)) rfl ?_
      refine AOps.nil ?_
      refine AW.seq ?_
      refine AW.region ?_
      refine AOps.cons (op_assign (A := rd (kint .i64) 0) rfl rfl (vk rfl)) rfl ?_
      refine AOps.cons (op_assign (A := rd (kint .i64) 0) rfl rfl (vk rfl)) rfl ?_
      refine AOps.nil ?_
      refine AW.join (d := []) (ν := Int × Int) (fun n => F_slices_symMergeCmpFunc_Action_s_j5 data1 q43 m4 cmp6 a3 R_slices_symMergeCmpFunc_Action b5 n.1 n.2 = some r) (fun n => [(0, raw v2), (1, rd (kint .i64) a3), (2, rd (kint .i64) m4), (3, rd (kint .i64) b5), (4, fn2 Try.prog kAction kAction (kint .i64) cmp6), (18, rd (kint .i64) (IntKind.i64.wrap (q43.toNat : Int))), (19, rd (kint .i64) (IntKind.i64.wrap ((IntKind.i64.wrap (q43.toNat : Int)) + m4))), (20, rd (kint .i64) n.1), (21, rd (kint .i64) n.2)]) (fun n => [(0, Row v2 95 kAction data1)]) ?hx5 ?hy5
      case hy5 =>
        rintro ⟨start44, r45⟩ h
        unfold F_slices_symMergeCmpFunc_Action_s_j5 at h
        change AW _ _ _ ⟨slots [(0, raw v2), (1, rd (kint .i64) a3), (2, rd (kint .i64) m4), (3, rd (kint .i64) b5), (4, fn2 Try.prog kAction kAction (kint .i64) cmp6), (18, rd (kint .i64) (IntKind.i64.wrap (q43.toNat : Int))), (19, rd (kint .i64) (IntKind.i64.wrap ((IntKind.i64.wrap (q43.toNat : Int)) + m4))), (20, rd (kint .i64) start44), (21, rd (kint .i64) r45)], ress [(0, Row v2 95 kAction data1)], _⟩
        refine AW.seq ?_
        refine AW.region ?_
        refine AOps.cons (op_move (A := rd (kint .i64) (IntKind.i64.wrap ((IntKind.i64.wrap (q43.toNat : Int)) + m4))) rfl rfl (vt rfl)) rfl ?_
        refine AOps.cons (op_sub rfl rfl (vt rfl) (vk rfl)) rfl ?_
        refine AOps.cons (op_assign (A := rd (kint .i64) (IntKind.i64.wrap ((IntKind.i64.wrap ((IntKind.i64.wrap (q43.toNat : Int)) + m4)) - 1))) rfl rfl (vt rfl)) rfl ?_
        refine AOps.nil ?_
        refine AW.seq ?_
        refine AW.block ?_
        refine AW.loopG (d := []) (ν := Nat × Int × Int) (fun n => True ∧ F_slices_symMergeCmpFunc_Action_s_l6 data1 q43 m4 cmp6 a3 R_slices_symMergeCmpFunc_Action b5 n.1 n.2.1 n.2.2 = some r) (fun n => n.1) (fun n => [(0, raw v2), (1, rd (kint .i64) a3), (2, rd (kint .i64) m4), (3, rd (kint .i64) b5), (4, fn2 Try.prog kAction kAction (kint .i64) cmp6), (18, rd (kint .i64) (IntKind.i64.wrap (q43.toNat : Int))), (19, rd (kint .i64) (IntKind.i64.wrap ((IntKind.i64.wrap (q43.toNat : Int)) + m4))), (20, rd (kint .i64) n.2.1), (21, rd (kint .i64) n.2.2), (22, rd (kint .i64) (IntKind.i64.wrap ((IntKind.i64.wrap ((IntKind.i64.wrap (q43.toNat : Int)) + m4)) - 1)))]) (fun n => [(0, Row v2 95 kAction data1)]) ((((r45 : Int) - start44).toNat + 1), start44, r45) ⟨trivial, h⟩ ⟨rfl, ⟨rfl, rfl, rfl, rfl, rfl, rfl, rfl, rfl, rfl, rfl, trivial⟩, ⟨rfl, trivial⟩⟩ ?_
        rintro ⟨m50, start48, r49⟩ ⟨hsf6, h⟩
        change True at hsf6
        change F_slices_symMergeCmpFunc_Action_s_l6 data1 q43 m4 cmp6 a3 R_slices_symMergeCmpFunc_Action b5 m50 start48 r49 = some r at h
        change AW _ _ _ ⟨slots [(0, raw v2), (1, rd (kint .i64) a3), (2, rd (kint .i64) m4), (3, rd (kint .i64) b5), (4, fn2 Try.prog kAction kAction (kint .i64) cmp6), (18, rd (kint .i64) (IntKind.i64.wrap (q43.toNat : Int))), (19, rd (kint .i64) (IntKind.i64.wrap ((IntKind.i64.wrap (q43.toNat : Int)) + m4))), (20, rd (kint .i64) start48), (21, rd (kint .i64) r49), (22, rd (kint .i64) (IntKind.i64.wrap ((IntKind.i64.wrap ((IntKind.i64.wrap (q43.toNat : Int)) + m4)) - 1)))], ress [(0, Row v2 95 kAction data1)], _⟩
        cases m50 with
        | zero => cases h
        | succ m50 =>
          unfold F_slices_symMergeCmpFunc_Action_s_l6 at h
          generalize hgo6 : F_slices_symMergeCmpFunc_Action_s_l6 data1 q43 m4 cmp6 a3 R_slices_symMergeCmpFunc_Action b5 m50 = go6 at h
          refine AW.seq ?_
          refine AW.seq ?_
          refine AW.region ?_
          refine AOps.cons (op_move (A := rd (kint .i64) start48) rfl rfl (vt rfl)) rfl ?_
          refine AOps.cons (op_move (A := rd (kint .i64) r49) rfl rfl (vt rfl)) rfl ?_
          refine AOps.cons (op_lss rfl rfl (vt rfl) (vt rfl)) rfl ?_
          refine AOps.nil ?_
          refine AW.cond (vt rfl) (fun hc => ?_) (fun hc => ?_)
          · have h := cond_t hc h
            refine AW.skip ?_
            refine AW.block ?_
            refine AW.seq ?_
            obtain ⟨q51, hq51, h⟩ := bsome h
            refine AW.region ?_
            refine AOps.cons (op_move (A := rd (kint .i64) start48) rfl rfl (vt rfl)) rfl ?_
            refine AOps.cons (op_move (A := rd (kint .i64) r49) rfl rfl (vt rfl)) rfl ?_
            refine AOps.cons (op_add rfl rfl (vt rfl) (vt rfl)) rfl ?_
            refine AOps.cons (op_convu rfl rfl us3 un201 (vt rfl)) rfl ?_
            refine AOps.cons (op_ushr rfl rfl (vt rfl) (vu64 (vku (1 : BitVec 64) rfl)) hq51) rfl ?_
            refine AOps.cons (op_uconv rfl rfl us201 un3 (vt rfl)) rfl ?_
            refine AOps.cons (op_assign (A := rd (kint .i64) (IntKind.i64.wrap (q51.toNat : Int))) rfl rfl (vt rfl)) rfl ?_
            refine AOps.nil ?_
            refine AW.seq ?_
            obtain ⟨e52, he52, h⟩ := bsome h
            obtain ⟨e53, he53, h⟩ := bsome h
            obtain ⟨x54, hx54, h⟩ := bsome h
            refine AW.regionAny [⟨[4], [158], [], []⟩, ⟨[0], [159], [], []⟩, ⟨[22], [160], [], []⟩, ⟨[23], [161], [], []⟩, ⟨[160, 161], [162], [], []⟩, ⟨[159, 162], [163], [0], []⟩, ⟨[163], [164], [0], []⟩, ⟨[0], [165], [], []⟩, ⟨[23], [166], [], []⟩, ⟨[165, 166], [167], [0], []⟩, ⟨[167], [168], [0], []⟩, ⟨[158, 164, 168], [169], [], []⟩, ⟨[169], [170], [], []⟩, ⟨[170], [171], [], []⟩] mixed (by kernel_rfl) ?_
            refine SeqA.cons (loc [4] [] rfl rfl fun S hs hr => op_move (A := fn2 Try.prog kAction kAction (kint .i64) cmp6) rfl rfl (vt ((hs 4 rfl).trans rfl))) ⟨rfl, rfl, rfl, rfl⟩ ?_
            refine SeqA.cons (loc [0] [] rfl rfl fun S hs hr => op_move (A := raw v2) rfl rfl (vt ((hs 0 rfl).trans rfl))) ⟨rfl, rfl, rfl, rfl⟩ ?_
            refine SeqA.cons (loc [22] [] rfl rfl fun S hs hr => op_move (A := rd (kint .i64) (IntKind.i64.wrap ((IntKind.i64.wrap ((IntKind.i64.wrap (q43.toNat : Int)) + m4)) - 1))) rfl rfl (vt ((hs 22 rfl).trans rfl))) ⟨rfl, rfl, rfl, rfl⟩ ?_
            refine SeqA.cons (loc [23] [] rfl rfl fun S hs hr => op_move (A := rd (kint .i64) (IntKind.i64.wrap (q51.toNat : Int))) rfl rfl (vt ((hs 23 rfl).trans rfl))) ⟨rfl, rfl, rfl, rfl⟩ ?_
            refine SeqA.cons (loc [160, 161] [] rfl rfl fun S hs hr => op_sub rfl rfl (vt ((hs 160 rfl).trans rfl)) (vt ((hs 161 rfl).trans rfl))) ⟨rfl, rfl, rfl, rfl⟩ ?_
            refine SeqA.cons (loc [159, 162] [0] rfl rfl fun S hs hr => op_indexo' 0 rfl rfl sl66 (vt ((hs 159 rfl).trans rfl)) ((hr 0 rfl).trans rfl) (vt ((hs 162 rfl).trans rfl)) he52) ⟨rfl, rfl, rfl, rfl⟩ ?_
            refine SeqA.cons (loc [163] [0] rfl rfl fun S hs hr => op_loado' 0 rfl rfl ty95 (vt ((hs 163 rfl).trans rfl)) ((hr 0 rfl).trans rfl) (lget_of he52).2) ⟨rfl, rfl, rfl, rfl⟩ ?_
            refine SeqA.cons (loc [0] [] rfl rfl fun S hs hr => op_move (A := raw v2) rfl rfl (vt ((hs 0 rfl).trans rfl))) ⟨rfl, rfl, rfl, rfl⟩ ?_
            refine SeqA.cons (loc [23] [] rfl rfl fun S hs hr => op_move (A := rd (kint .i64) (IntKind.i64.wrap (q51.toNat : Int))) rfl rfl (vt ((hs 23 rfl).trans rfl))) ⟨rfl, rfl, rfl, rfl⟩ ?_
            refine SeqA.cons (loc [165, 166] [0] rfl rfl fun S hs hr => op_indexo' 0 rfl rfl sl66 (vt ((hs 165 rfl).trans rfl)) ((hr 0 rfl).trans rfl) (vt ((hs 166 rfl).trans rfl)) he53) ⟨rfl, rfl, rfl, rfl⟩ ?_
            refine SeqA.cons (loc [167] [0] rfl rfl fun S hs hr => op_loado' 0 rfl rfl ty95 (vt ((hs 167 rfl).trans rfl)) ((hr 0 rfl).trans rfl) (lget_of he53).2) ⟨rfl, rfl, rfl, rfl⟩ ?_
            refine SeqA.cons (loc [158, 164, 168] [] rfl rfl fun S hs hr => op_call2 hx54 rfl rfl (vt ((hs 158 rfl).trans rfl)) (vt ((hs 164 rfl).trans rfl)) (vt ((hs 168 rfl).trans rfl))) ⟨rfl, rfl, rfl, rfl⟩ ?_
            refine SeqA.cons (loc [169] [] rfl rfl fun S hs hr => op_lss rfl rfl (vt ((hs 169 rfl).trans rfl)) (vk rfl)) ⟨rfl, rfl, rfl, rfl⟩ ?_
            refine SeqA.cons (loc [170] [] rfl rfl fun S hs hr => op_not rfl rfl (vt ((hs 170 rfl).trans rfl))) ⟨rfl, rfl, rfl, rfl⟩ ?_
            refine AW.cond (vt rfl) (fun hc => ?_) (fun hc => ?_)
            · have h := cond_t hc h
              refine AW.region ?_
              refine AOps.cons (op_move (A := rd (kint .i64) (IntKind.i64.wrap (q51.toNat : Int))) rfl rfl (vt rfl)) rfl ?_
              refine AOps.cons (op_add rfl rfl (vt rfl) (vk rfl)) rfl ?_
              refine AOps.cons (op_assign (A := rd (kint .i64) (IntKind.i64.wrap ((IntKind.i64.wrap (q51.toNat : Int)) + 1))) rfl rfl (vt rfl)) rfl ?_
              refine AOps.nil ?_
              subst hgo6
              exact ⟨(m50, (IntKind.i64.wrap ((IntKind.i64.wrap (q51.toNat : Int)) + 1)), r49), Nat.lt_succ_self _, ⟨trivial, h⟩, ⟨rfl, ⟨rfl, rfl, rfl, rfl, rfl, rfl, rfl, rfl, rfl, rfl, trivial⟩, ⟨rfl, trivial⟩⟩⟩
            · have h := cond_f hc h
              refine AW.region ?_
              refine AOps.cons (op_move (A := rd (kint .i64) (IntKind.i64.wrap (q51.toNat : Int))) rfl rfl (vt rfl)) rfl ?_
              refine AOps.cons (op_assign (A := rd (kint .i64) (IntKind.i64.wrap (q51.toNat : Int))) rfl rfl (vt rfl)) rfl ?_
              refine AOps.nil ?_
              subst hgo6
              exact ⟨(m50, start48, (IntKind.i64.wrap (q51.toNat : Int))), Nat.lt_succ_self _, ⟨trivial, h⟩, ⟨rfl, ⟨rfl, rfl, rfl, rfl, rfl, rfl, rfl, rfl, rfl, rfl, trivial⟩, ⟨rfl, trivial⟩⟩⟩
          · have h := cond_f hc h
            refine AW.exit ?_
            refine AW.seq ?_
            refine AW.region ?_
            refine AOps.cons (op_move (A := rd (kint .i64) (IntKind.i64.wrap ((IntKind.i64.wrap (q43.toNat : Int)) + m4))) rfl rfl (vt rfl)) rfl ?_
            refine AOps.cons (op_move (A := rd (kint .i64) start48) rfl rfl (vt rfl)) rfl ?_
            refine AOps.cons (op_sub rfl rfl (vt rfl) (vt rfl)) rfl ?_
            refine AOps.cons (op_assign (A := rd (kint .i64) (IntKind.i64.wrap ((IntKind.i64.wrap ((IntKind.i64.wrap (q43.toNat : Int)) + m4)) - start48))) rfl rfl (vt rfl)) rfl ?_
            refine AOps.nil ?_
            refine AW.join (d := []) (ν := (List Action)) (fun n => F_slices_symMergeCmpFunc_Action_s_j7 a3 start48 q43 R_slices_symMergeCmpFunc_Action cmp6 m4 b5 n = some r) (fun n => [(0, raw v2), (1, rd (kint .i64) a3), (3, rd (kint .i64) b5), (4, fn2 Try.prog kAction kAction (kint .i64) cmp6), (18, rd (kint .i64) (IntKind.i64.wrap (q43.toNat : Int))), (20, rd (kint .i64) start48), (24, rd (kint .i64) (IntKind.i64.wrap ((IntKind.i64.wrap ((IntKind.i64.wrap (q43.toNat : Int)) + m4)) - start48)))]) (fun n => [(0, Row v2 95 kAction n)]) ?hx7 ?hy7
            case hy7 =>
              intro l55 h
              unfold F_slices_symMergeCmpFunc_Action_s_j7 at h
              change AW _ _ _ ⟨slots [(0, raw v2), (1, rd (kint .i64) a3), (3, rd (kint .i64) b5), (4, fn2 Try.prog kAction kAction (kint .i64) cmp6), (18, rd (kint .i64) (IntKind.i64.wrap (q43.toNat : Int))), (20, rd (kint .i64) start48), (24, rd (kint .i64) (IntKind.i64.wrap ((IntKind.i64.wrap ((IntKind.i64.wrap (q43.toNat : Int)) + m4)) - start48)))], ress [(0, Row v2 95 kAction l55)], _⟩
              refine AW.join (d := []) (ν := (List Action)) (fun n => F_slices_symMergeCmpFunc_Action_s_j8 q43 m4 start48 b5 R_slices_symMergeCmpFunc_Action cmp6 n = some r) (fun n => [(0, raw v2), (3, rd (kint .i64) b5), (4, fn2 Try.prog kAction kAction (kint .i64) cmp6), (18, rd (kint .i64) (IntKind.i64.wrap (q43.toNat : Int))), (24, rd (kint .i64) (IntKind.i64.wrap ((IntKind.i64.wrap ((IntKind.i64.wrap (q43.toNat : Int)) + m4)) - start48)))]) (fun n => [(0, Row v2 95 kAction n)]) ?hx8 ?hy8
              case hy8 =>
                intro l56 h
                unfold F_slices_symMergeCmpFunc_Action_s_j8 at h
                change AW _ _ _ ⟨slots [(0, raw v2), (3, rd (kint .i64) b5), (4, fn2 Try.prog kAction kAction (kint .i64) cmp6), (18, rd (kint .i64) (IntKind.i64.wrap (q43.toNat : Int))), (24, rd (kint .i64) (IntKind.i64.wrap ((IntKind.i64.wrap ((IntKind.i64.wrap (q43.toNat : Int)) + m4)) - start48)))], ress [(0, Row v2 95 kAction l56)], _⟩
                refine AW.seq ?_
                refine AW.region ?_
                refine AOps.cons (op_move (A := rd (kint .i64) (IntKind.i64.wrap (q43.toNat : Int))) rfl rfl (vt rfl)) rfl ?_
                refine AOps.cons (op_move (A := rd (kint .i64) (IntKind.i64.wrap ((IntKind.i64.wrap ((IntKind.i64.wrap (q43.toNat : Int)) + m4)) - start48))) rfl rfl (vt rfl)) rfl ?_
                refine AOps.cons (op_lss rfl rfl (vt rfl) (vt rfl)) rfl ?_
                refine AOps.cons (op_move (A := rd kbool (decide ((IntKind.i64.wrap (q43.toNat : Int)) < (IntKind.i64.wrap ((IntKind.i64.wrap ((IntKind.i64.wrap (q43.toNat : Int)) + m4)) - start48))))) rfl rfl (vt rfl)) rfl ?_
                refine AOps.consG (OpG.guard rfl rfl rfl rfl rfl fun hq => op_move (A := rd (kint .i64) (IntKind.i64.wrap ((IntKind.i64.wrap ((IntKind.i64.wrap (q43.toNat : Int)) + m4)) - start48))) rfl rfl (vt rfl)) ?_
                refine AOps.consG (OpG.guard rfl rfl rfl rfl rfl fun hq => op_move (A := rd (kint .i64) b5) rfl rfl (vt rfl)) ?_
                refine AOps.consG (OpG.guard rfl rfl rfl rfl rfl fun hq => op_lss rfl rfl (vgt rfl hq) (vgt rfl hq)) ?_
                refine AOps.cons (op_all rfl rfl (vt rfl) (vt rfl)) rfl ?_
                refine AOps.nil ?_
                refine AW.cond (vt rfl) (fun hc => ?_) (fun hc => ?_)
                · have h := cond_t hc h
                  obtain ⟨l57, hl57, h⟩ := bsome h
                  refine AW.region ?_
                  refine AOps.cons (op_move (A := raw v2) rfl rfl (vt rfl)) rfl ?_
                  refine AOps.cons (op_move (A := rd (kint .i64) (IntKind.i64.wrap (q43.toNat : Int))) rfl rfl (vt rfl)) rfl ?_
                  refine AOps.cons (op_move (A := rd (kint .i64) (IntKind.i64.wrap ((IntKind.i64.wrap ((IntKind.i64.wrap (q43.toNat : Int)) + m4)) - start48))) rfl rfl (vt rfl)) rfl ?_
                  refine AOps.cons (op_move (A := rd (kint .i64) b5) rfl rfl (vt rfl)) rfl ?_
                  refine AOps.cons (op_move (A := fn2 Try.prog kAction kAction (kint .i64) cmp6) rfl rfl (vt rfl)) rfl ?_
                  refine AOps.consT rfl (op_callR 0 (xs := [.tmp 214, .tmp 215, .tmp 216, .tmp 217, .tmp 218]) (hR_slices_symMergeCmpFunc_Action _ _ _ _ _ _ _ hl57) (Ent.mk Try.func144 rfl rfl) rfl rfl ⟨vt rfl, vt rfl, vt rfl, vt rfl, vt rfl, trivial⟩ rfl) ?_
                  rintro _ ⟨_u, rfl⟩
                  refine AOps.nil ?_
                  obtain rfl := Option.some.inj h
                  exact ret0Y (i := 0) Try.results144 rfl rfl
                · have h := cond_f hc h
                  refine AW.skip ?_
                  obtain rfl := Option.some.inj h
                  exact ret0Y (i := 0) Try.results144 rfl rfl
              case hx8 =>
                refine AW.seq ?_
                refine AW.region ?_
                refine AOps.cons (op_move (A := rd (kint .i64) a3) rfl rfl (vt rfl)) rfl ?_
                refine AOps.cons (op_move (A := rd (kint .i64) start48) rfl rfl (vt rfl)) rfl ?_
                refine AOps.cons (op_lss rfl rfl (vt rfl) (vt rfl)) rfl ?_
                refine AOps.cons (op_move (A := rd kbool (decide (a3 < start48))) rfl rfl (vt rfl)) rfl ?_
                refine AOps.consG (OpG.guard rfl rfl rfl rfl rfl fun hq => op_move (A := rd (kint .i64) start48) rfl rfl (vt rfl)) ?_
                refine AOps.consG (OpG.guard rfl rfl rfl rfl rfl fun hq => op_move (A := rd (kint .i64) (IntKind.i64.wrap (q43.toNat : Int))) rfl rfl (vt rfl)) ?_
                refine AOps.consG (OpG.guard rfl rfl rfl rfl rfl fun hq => op_lss rfl rfl (vgt rfl hq) (vgt rfl hq)) ?_
                refine AOps.cons (op_all rfl rfl (vt rfl) (vt rfl)) rfl ?_
                refine AOps.nil ?_
                refine AW.cond (vt rfl) (fun hc => ?_) (fun hc => ?_)
                · have h := cond_t hc h
                  obtain ⟨l58, hl58, h⟩ := bsome h
                  refine AW.region ?_
                  refine AOps.cons (op_move (A := raw v2) rfl rfl (vt rfl)) rfl ?_
                  refine AOps.cons (op_move (A := rd (kint .i64) a3) rfl rfl (vt rfl)) rfl ?_
                  refine AOps.cons (op_move (A := rd (kint .i64) start48) rfl rfl (vt rfl)) rfl ?_
                  refine AOps.cons (op_move (A := rd (kint .i64) (IntKind.i64.wrap (q43.toNat : Int))) rfl rfl (vt rfl)) rfl ?_
                  refine AOps.cons (op_move (A := fn2 Try.prog kAction kAction (kint .i64) cmp6) rfl rfl (vt rfl)) rfl ?_
                  refine AOps.consT rfl (op_callR 0 (xs := [.tmp 200, .tmp 201, .tmp 202, .tmp 203, .tmp 204]) (hR_slices_symMergeCmpFunc_Action _ _ _ _ _ _ _ hl58) (Ent.mk Try.func144 rfl rfl) rfl rfl ⟨vt rfl, vt rfl, vt rfl, vt rfl, vt rfl, trivial⟩ rfl) ?_
                  rintro _ ⟨_u, rfl⟩
                  refine AOps.nil ?_
                  exact ⟨l58, h, ⟨rfl, ⟨rfl, rfl, rfl, rfl, rfl, trivial⟩, ⟨rfl, trivial⟩⟩⟩
                · have h := cond_f hc h
                  refine AW.skip ?_
                  exact ⟨l55, h, ⟨rfl, ⟨rfl, rfl, rfl, rfl, rfl, trivial⟩, ⟨rfl, trivial⟩⟩⟩
            case hx7 =>
              refine AW.seq ?_
              refine AW.region ?_
              refine AOps.cons (op_move (A := rd (kint .i64) start48) rfl rfl (vt rfl)) rfl ?_
              refine AOps.cons (op_move (A := rd (kint .i64) m4) rfl rfl (vt rfl)) rfl ?_
              refine AOps.cons (op_lss rfl rfl (vt rfl) (vt rfl)) rfl ?_
              refine AOps.cons (op_move (A := rd kbool (decide (start48 < m4))) rfl rfl (vt rfl)) rfl ?_
              refine AOps.consG (OpG.guard rfl rfl rfl rfl rfl fun hq => op_move (A := rd (kint .i64) m4) rfl rfl (vt rfl)) ?_
              refine AOps.consG (OpG.guard rfl rfl rfl rfl rfl fun hq => op_move (A := rd (kint .i64) (IntKind.i64.wrap ((IntKind.i64.wrap ((IntKind.i64.wrap (q43.toNat : Int)) + m4)) - start48))) rfl rfl (vt rfl)) ?_
              refine AOps.consG (OpG.guard rfl rfl rfl rfl rfl fun hq => op_lss rfl rfl (vgt rfl hq) (vgt rfl hq)) ?_
              refine AOps.cons (op_all rfl rfl (vt rfl) (vt rfl)) rfl ?_
              refine AOps.nil ?_
              refine AW.cond (vt rfl) (fun hc => ?_) (fun hc => ?_)
              · have h := cond_t hc h
                obtain ⟨l59, hl59, h⟩ := bsome h
                refine AW.region ?_
                refine AOps.cons (op_move (A := raw v2) rfl rfl (vt rfl)) rfl ?_
                refine AOps.cons (op_move (A := rd (kint .i64) start48) rfl rfl (vt rfl)) rfl ?_
                refine AOps.cons (op_move (A := rd (kint .i64) m4) rfl rfl (vt rfl)) rfl ?_
                refine AOps.cons (op_move (A := rd (kint .i64) (IntKind.i64.wrap ((IntKind.i64.wrap ((IntKind.i64.wrap (q43.toNat : Int)) + m4)) - start48))) rfl rfl (vt rfl)) rfl ?_
                refine AOps.cons (op_move (A := fn2 Try.prog kAction kAction (kint .i64) cmp6) rfl rfl (vt rfl)) rfl ?_
                refine AOps.consT rfl (op_callR 0 (xs := [.tmp 186, .tmp 187, .tmp 188, .tmp 189, .tmp 190]) (c_slices_rotateCmpFunc_Action_o _ _ _ _ _ _ _ hl59) (Ent.mk Try.func147 rfl rfl) rfl rfl ⟨vt rfl, vt rfl, vt rfl, vt rfl, vt rfl, trivial⟩ rfl) ?_
                rintro _ ⟨_u, rfl⟩
                refine AOps.nil ?_
                exact ⟨l59, h, ⟨rfl, ⟨rfl, rfl, rfl, rfl, rfl, rfl, rfl, trivial⟩, ⟨rfl, trivial⟩⟩⟩
              · have h := cond_f hc h
                refine AW.skip ?_
                exact ⟨data1, h, ⟨rfl, ⟨rfl, rfl, rfl, rfl, rfl, rfl, rfl, trivial⟩, ⟨rfl, trivial⟩⟩⟩
      case hx5 =>
        refine AW.seq ?_
        refine AW.region ?_
        refine AOps.cons (op_move (A := rd (kint .i64) m4) rfl rfl (vt rfl)) rfl ?_
        refine AOps.cons (op_move (A := rd (kint .i64) (IntKind.i64.wrap (q43.toNat : Int))) rfl rfl (vt rfl)) rfl ?_
        refine AOps.cons (op_gtr rfl rfl (vt rfl) (vt rfl)) rfl ?_
        refine AOps.nil ?_
        refine AW.cond (vt rfl) (fun hc => ?_) (fun hc => ?_)
        · have h := cond_t hc h
          refine AW.seq ?_
          refine AW.region ?_
          refine AOps.cons (op_move (A := rd (kint .i64) (IntKind.i64.wrap ((IntKind.i64.wrap (q43.toNat : Int)) + m4))) rfl rfl (vt rfl)) rfl ?_
          refine AOps.cons (op_move (A := rd (kint .i64) b5) rfl rfl (vt rfl)) rfl ?_
          refine AOps.cons (op_sub rfl rfl (vt rfl) (vt rfl)) rfl ?_
          refine AOps.cons (op_assign (A := rd (kint .i64) (IntKind.i64.wrap ((IntKind.i64.wrap ((IntKind.i64.wrap (q43.toNat : Int)) + m4)) - b5))) rfl rfl (vt rfl)) rfl ?_
          refine AOps.nil ?_
          refine AW.region ?_
          refine AOps.cons (op_move (A := rd (kint .i64) (IntKind.i64.wrap (q43.toNat : Int))) rfl rfl (vt rfl)) rfl ?_
          refine AOps.cons (op_assign (A := rd (kint .i64) (IntKind.i64.wrap (q43.toNat : Int))) rfl rfl (vt rfl)) rfl ?_
          refine AOps.nil ?_
          exact ⟨((IntKind.i64.wrap ((IntKind.i64.wrap ((IntKind.i64.wrap (q43.toNat : Int)) + m4)) - b5)), (IntKind.i64.wrap (q43.toNat : Int))), h, ⟨rfl, ⟨rfl, rfl, rfl, rfl, rfl, rfl, rfl, rfl, rfl, trivial⟩, ⟨rfl, trivial⟩⟩⟩
        · have h := cond_f hc h
          refine AW.seq ?_
          refine AW.region ?_
          refine AOps.cons (op_move (A := rd (kint .i64) a3) rfl rfl (vt rfl)) rfl ?_
          refine AOps.cons (op_assign (A := rd (kint .i64) a3) rfl rfl (vt rfl)) rfl ?_
          refine AOps.nil ?_
          refine AW.region ?_
          refine AOps.cons (op_move (A := rd (kint .i64) m4) rfl rfl (vt rfl)) rfl ?_
          refine AOps.cons (op_assign (A := rd (kint .i64) m4) rfl rfl (vt rfl)) rfl ?_
          refine AOps.nil ?_
          exact ⟨(a3, m4), h, ⟨rfl, ⟨rfl, rfl, rfl, rfl, rfl, rfl, rfl, rfl, rfl, trivial⟩, ⟨rfl, trivial⟩⟩⟩
def FR_slices_symMergeCmpFunc_Action : Nat → ((List Action) → Int → Int → Int → (Action → Action → Option Int) → Option (List Action))
  | 0 => (fun _ _ _ _ _ => none)
  | n + 1 => (F_slices_symMergeCmpFunc_Action_s (FR_slices_symMergeCmpFunc_Action n))
theorem cR_slices_symMergeCmpFunc_Action : ∀ n : Nat, (∀ (v2 : Value) (data1 : (List Action)) (a3 : Int) (m4 : Int) (b5 : Int) (cmp6 : (Action → Action → Option Int)) (r : (List Action)), (FR_slices_symMergeCmpFunc_Action n) data1 a3 m4 b5 cmp6 = some r → Con Try.prog 144 [raw v2, rd (kint .i64) a3, rd (kint .i64) m4, rd (kint .i64) b5, fn2 Try.prog kAction kAction (kint .i64) cmp6] (Row v2 95 kAction data1) (fun _ : Unit => top) (fun _ => Row v2 95 kAction r))
  | 0 => (by intros; rename_i h; cases h)
  | n + 1 => by
    have ih := cR_slices_symMergeCmpFunc_Action n
    exact (c_slices_symMergeCmpFunc_Action_s (FR_slices_symMergeCmpFunc_Action n) ih)
def F_slices_symMergeCmpFunc_Action (data1 : (List Action)) (a3 : Int) (m4 : Int) (b5 : Int) (cmp6 : (Action → Action → Option Int)) : Option (List Action) := (FR_slices_symMergeCmpFunc_Action fuel0) data1 a3 m4 b5 cmp6
theorem c_slices_symMergeCmpFunc_Action_o : ∀ (v2 : Value) (data1 : (List Action)) (a3 : Int) (m4 : Int) (b5 : Int) (cmp6 : (Action → Action → Option Int)) (r : (List Action)), F_slices_symMergeCmpFunc_Action data1 a3 m4 b5 cmp6 = some r → Con Try.prog 144 [raw v2, rd (kint .i64) a3, rd (kint .i64) m4, rd (kint .i64) b5, fn2 Try.prog kAction kAction (kint .i64) cmp6] (Row v2 95 kAction data1) (fun _ : Unit => top) (fun _ => Row v2 95 kAction r) := cR_slices_symMergeCmpFunc_Action fuel0
def F_slices_stableCmpFunc_Action_l3 (n3 : Int) (blockSize17 : Int) (cmp4 : (Action → Action → Option Int)) (go2 : (List Action) → Int → Option (List Action)) : Nat → (List Action) → Int → Int → Option (List Action)
  | 0, _, _, _ => none
  | m25 + 1, l22, a23, b24 => (bif (decide (b24 ≤ n3)) then (F_slices_symMergeCmpFunc_Action l22 a23 (IntKind.i64.wrap (a23 + blockSize17)) b24 cmp4).bind fun l26 => (F_slices_stableCmpFunc_Action_l3 n3 blockSize17 cmp4 go2 m25) l26 b24 (IntKind.i64.wrap (b24 + (IntKind.i64.wrap (2 * blockSize17)))) else (bif (decide ((IntKind.i64.wrap (a23 + blockSize17)) < n3)) then (F_slices_symMergeCmpFunc_Action l22 a23 (IntKind.i64.wrap (a23 + blockSize17)) n3 cmp4).bind fun l27 => go2 l27 (IntKind.i64.wrap (blockSize17 * 2)) else go2 l22 (IntKind.i64.wrap (blockSize17 * 2))))
def F_slices_stableCmpFunc_Action_l2 (n3 : Int) (cmp4 : (Action → Action → Option Int)) : Nat → (List Action) → Int → Option (List Action)
  | 0, _, _ => none
  | m18 + 1, l16, blockSize17 => (bif (decide (blockSize17 < n3)) then F_slices_stableCmpFunc_Action_l3 n3 blockSize17 cmp4 (F_slices_stableCmpFunc_Action_l2 n3 cmp4 m18) (((n3 : Int) - (IntKind.i64.wrap (2 * blockSize17))).toNat + 2) l16 0 (IntKind.i64.wrap (2 * blockSize17)) else some l16)
def F_slices_stableCmpFunc_Action_l1 (n3 : Int) (cmp4 : (Action → Action → Option Int)) : Nat → (List Action) → Int → Int → Option (List Action)
  | 0, _, _, _ => none
  | m11 + 1, l8, a9, b10 => (bif (decide (b10 ≤ n3)) then (F_slices_insertionSortCmpFunc_Action l8 a9 b10 cmp4).bind fun l12 => (F_slices_stableCmpFunc_Action_l1 n3 cmp4 m11) l12 b10 (IntKind.i64.wrap (b10 + 20)) else (F_slices_insertionSortCmpFunc_Action l8 a9 n3 cmp4).bind fun l13 => F_slices_stableCmpFunc_Action_l2 n3 cmp4 (((n3 : Int) - 20).toNat + 1) l13 20)
def F_slices_stableCmpFunc_Action (data1 : (List Action)) (n3 : Int) (cmp4 : (Action → Action → Option Int)) : Option (List Action) :=
  F_slices_stableCmpFunc_Action_l1 n3 cmp4 (((n3 : Int) - 20).toNat + 2) data1 0 20
theorem c_slices_stableCmpFunc_Action_o (v2 : Value) (data1 : (List Action)) (n3 : Int) (cmp4 : (Action → Action → Option Int)) (r : (List Action)) (h : F_slices_stableCmpFunc_Action data1 n3 cmp4 = some r) : Con Try.prog 134 [raw v2, rd (kint .i64) n3, fn2 Try.prog kAction kAction (kint .i64) cmp4] (Row v2 95 kAction data1) (fun _ : Unit => top) (fun _ => Row v2 95 kAction r) := by
  refine Con.intro Try.func134 rfl Try.ntmps134 rfl fun w H X => ?_
  unfold F_slices_stableCmpFunc_Action at h
  refine AW.seq ?_
  refine AW.region ?_
  refine AOps.cons (op_assign (A := rd (kint .i64) 20) rfl rfl (vk rfl)) rfl ?_
  refine AOps.nil ?_
  refine AW.seq ?_
  refine AW.region ?_
  refine AOps.cons (op_move (A := rd (kint .i64) 20) rfl rfl (vt rfl)) rfl ?_
  refine AOps.cons (op_assign (A := rd (kint .i64) 0) rfl rfl (vk rfl)) rfl ?_
  refine AOps.cons (op_assign (A := rd (kint .i64) 20) rfl rfl (vt rfl)) rfl ?_
  refine AOps.nil ?_
  refine AW.seq ?_
  refine AW.block ?_
  refine AW.loopG (d := []) (ν := Nat × (List Action) × Int × Int) (fun n => True ∧ F_slices_stableCmpFunc_Action_l1 n3 cmp4 n.1 n.2.1 n.2.2.1 n.2.2.2 = some r) (fun n => n.1) (fun n => [(0, raw v2), (1, rd (kint .i64) n3), (2, fn2 Try.prog kAction kAction (kint .i64) cmp4), (6, rd (kint .i64) 20), (7, rd (kint .i64) n.2.2.1), (8, rd (kint .i64) n.2.2.2)]) (fun n => [(0, Row v2 95 kAction n.2.1)]) ((((n3 : Int) - 20).toNat + 2), data1, 0, 20) ⟨trivial, h⟩ ⟨rfl, ⟨rfl, rfl, rfl, rfl, rfl, rfl, trivial⟩, ⟨rfl, trivial⟩⟩ ?_
  rintro ⟨m11, l8, a9, b10⟩ ⟨hsf1, h⟩
  change True at hsf1
  change F_slices_stableCmpFunc_Action_l1 n3 cmp4 m11 l8 a9 b10 = some r at h
  change AW _ _ _ ⟨slots [(0, raw v2), (1, rd (kint .i64) n3), (2, fn2 Try.prog kAction kAction (kint .i64) cmp4), (6, rd (kint .i64) 20), (7, rd (kint .i64) a9), (8, rd (kint .i64) b10)], ress [(0, Row v2 95 kAction l8)], _⟩
  cases m11 with
  | zero => cases h
  | succ m11 =>
    unfold F_slices_stableCmpFunc_Action_l1 at h
    generalize hgo1 : F_slices_stableCmpFunc_Action_l1 n3 cmp4 m11 = go1 at h
    refine AW.seq ?_
    refine AW.seq ?_
    refine AW.region ?_
    refine AOps.cons (op_move (A := rd (kint .i64) b10) rfl rfl (vt rfl)) rfl ?_
    refine AOps.cons (op_move (A := rd (kint .i64) n3) rfl rfl (vt rfl)) rfl ?_
    refine AOps.cons (op_leq rfl rfl (vt rfl) (vt rfl)) rfl ?_
    refine AOps.nil ?_
    refine AW.cond (vt rfl) (fun hc => ?_) (fun hc => ?_)
    · have h := cond_t hc h
      refine AW.skip ?_
      refine AW.block ?_
      refine AW.seq ?_
      obtain ⟨l12, hl12, h⟩ := bsome h
      refine AW.region ?_
      refine AOps.cons (op_move (A := raw v2) rfl rfl (vt rfl)) rfl ?_
      refine AOps.cons (op_move (A := rd (kint .i64) a9) rfl rfl (vt rfl)) rfl ?_
      refine AOps.cons (op_move (A := rd (kint .i64) b10) rfl rfl (vt rfl)) rfl ?_
      refine AOps.cons (op_move (A := fn2 Try.prog kAction kAction (kint .i64) cmp4) rfl rfl (vt rfl)) rfl ?_
      refine AOps.consT rfl (op_callR 0 (xs := [.tmp 14, .tmp 15, .tmp 16, .tmp 17]) (c_slices_insertionSortCmpFunc_Action_o _ _ _ _ _ _ hl12) (Ent.mk Try.func143 rfl rfl) rfl rfl ⟨vt rfl, vt rfl, vt rfl, vt rfl, trivial⟩ rfl) ?_
      rintro _ ⟨_u, rfl⟩
      refine AOps.nil ?_
      refine AW.seq ?_
      refine AW.region ?_
      refine AOps.cons (op_move (A := rd (kint .i64) b10) rfl rfl (vt rfl)) rfl ?_
      refine AOps.cons (op_assign (A := rd (kint .i64) b10) rfl rfl (vt rfl)) rfl ?_
      refine AOps.nil ?_
      refine AW.region ?_
      refine AOps.cons (op_move (A := rd (kint .i64) b10) rfl rfl (vt rfl)) rfl ?_
      refine AOps.cons (op_move (A := rd (kint .i64) 20) rfl rfl (vt rfl)) rfl ?_
      refine AOps.cons (op_add rfl rfl (vt rfl) (vt rfl)) rfl ?_
      refine AOps.cons (op_assign (A := rd (kint .i64) (IntKind.i64.wrap (b10 + 20))) rfl rfl (vt rfl)) rfl ?_
      refine AOps.nil ?_
      subst hgo1
      exact ⟨(m11, l12, b10, (IntKind.i64.wrap (b10 + 20))), Nat.lt_succ_self _, ⟨trivial, h⟩, ⟨rfl, ⟨rfl, rfl, rfl, rfl, rfl, rfl, trivial⟩, ⟨rfl, trivial⟩⟩⟩
    · have h := cond_f hc h
      refine AW.exit ?_
      refine AW.seq ?_
      obtain ⟨l13, hl13, h⟩ := bsome h
      refine AW.region ?_
      refine AOps.cons (op_move (A := raw v2) rfl rfl (vt rfl)) rfl ?_
      refine AOps.cons (op_move (A := rd (kint .i64) a9) rfl rfl (vt rfl)) rfl ?_
      refine AOps.cons (op_move (A := rd (kint .i64) n3) rfl rfl (vt rfl)) rfl ?_
      refine AOps.cons (op_move (A := fn2 Try.prog kAction kAction (kint .i64) cmp4) rfl rfl (vt rfl)) rfl ?_
      refine AOps.consT rfl (op_callR 0 (xs := [.tmp 23, .tmp 24, .tmp 25, .tmp 26]) (c_slices_insertionSortCmpFunc_Action_o _ _ _ _ _ _ hl13) (Ent.mk Try.func143 rfl rfl) rfl rfl ⟨vt rfl, vt rfl, vt rfl, vt rfl, trivial⟩ rfl) ?_
      rintro _ ⟨_u, rfl⟩
      refine AOps.nil ?_
      refine AW.block ?_
      refine AW.loopG (d := []) (ν := Nat × (List Action) × Int) (fun n => True ∧ F_slices_stableCmpFunc_Action_l2 n3 cmp4 n.1 n.2.1 n.2.2 = some r) (fun n => n.1) (fun n => [(0, raw v2), (1, rd (kint .i64) n3), (2, fn2 Try.prog kAction kAction (kint .i64) cmp4), (6, rd (kint .i64) n.2.2)]) (fun n => [(0, Row v2 95 kAction n.2.1)]) ((((n3 : Int) - 20).toNat + 1), l13, 20) ⟨trivial, h⟩ ⟨rfl, ⟨rfl, rfl, rfl, rfl, trivial⟩, ⟨rfl, trivial⟩⟩ ?_
      rintro ⟨m18, l16, blockSize17⟩ ⟨hsf2, h⟩
      change True at hsf2
      change F_slices_stableCmpFunc_Action_l2 n3 cmp4 m18 l16 blockSize17 = some r at h
      change AW _ _ _ ⟨slots [(0, raw v2), (1, rd (kint .i64) n3), (2, fn2 Try.prog kAction kAction (kint .i64) cmp4), (6, rd (kint .i64) blockSize17)], ress [(0, Row v2 95 kAction l16)], _⟩
      cases m18 with
      | zero => cases h
      | succ m18 =>
        unfold F_slices_stableCmpFunc_Action_l2 at h
        generalize hgo2 : F_slices_stableCmpFunc_Action_l2 n3 cmp4 m18 = go2 at h
        refine AW.seq ?_
        refine AW.seq ?_
        refine AW.region ?_
        refine AOps.cons (op_move (A := rd (kint .i64) blockSize17) rfl rfl (vt rfl)) rfl ?_
        refine AOps.cons (op_move (A := rd (kint .i64) n3) rfl rfl (vt rfl)) rfl ?_
        refine AOps.cons (op_lss rfl rfl (vt rfl) (vt rfl)) rfl ?_
        refine AOps.nil ?_
        refine AW.cond (vt rfl) (fun hc => ?_) (fun hc => ?_)
        · have h := cond_t hc h
          refine AW.skip ?_
          refine AW.block ?_
          refine AW.seq ?_
          refine AW.region ?_
          refine AOps.cons (op_move (A := rd (kint .i64) blockSize17) rfl rfl (vt rfl)) rfl ?_
          refine AOps.cons (op_mul rfl rfl (vk rfl) (vt rfl)) rfl ?_
          refine AOps.cons (op_assign (A := rd (kint .i64) 0) rfl rfl (vk rfl)) rfl ?_
          refine AOps.cons (op_assign (A := rd (kint .i64) (IntKind.i64.wrap (2 * blockSize17))) rfl rfl (vt rfl)) rfl ?_
          refine AOps.nil ?_
          refine AW.seq ?_
          refine AW.block ?_
          refine AW.loopG (d := []) (ν := Nat × (List Action) × Int × Int) (fun n => True ∧ F_slices_stableCmpFunc_Action_l3 n3 blockSize17 cmp4 go2 n.1 n.2.1 n.2.2.1 n.2.2.2 = some r) (fun n => n.1) (fun n => [(0, raw v2), (1, rd (kint .i64) n3), (2, fn2 Try.prog kAction kAction (kint .i64) cmp4), (6, rd (kint .i64) blockSize17), (7, rd (kint .i64) n.2.2.1), (8, rd (kint .i64) n.2.2.2)]) (fun n => [(0, Row v2 95 kAction n.2.1)]) ((((n3 : Int) - (IntKind.i64.wrap (2 * blockSize17))).toNat + 2), l16, 0, (IntKind.i64.wrap (2 * blockSize17))) ⟨trivial, h⟩ ⟨rfl, ⟨rfl, rfl, rfl, rfl, rfl, rfl, trivial⟩, ⟨rfl, trivial⟩⟩ ?_
          rintro ⟨m25, l22, a23, b24⟩ ⟨hsf3, h⟩
          change True at hsf3
          change F_slices_stableCmpFunc_Action_l3 n3 blockSize17 cmp4 go2 m25 l22 a23 b24 = some r at h
          change AW _ _ _ ⟨slots [(0, raw v2), (1, rd (kint .i64) n3), (2, fn2 Try.prog kAction kAction (kint .i64) cmp4), (6, rd (kint .i64) blockSize17), (7, rd (kint .i64) a23), (8, rd (kint .i64) b24)], ress [(0, Row v2 95 kAction l22)], _⟩
          cases m25 with
          | zero => cases h
          | succ m25 =>
            unfold F_slices_stableCmpFunc_Action_l3 at h
            generalize hgo3 : F_slices_stableCmpFunc_Action_l3 n3 blockSize17 cmp4 go2 m25 = go3 at h
            refine AW.seq ?_
            refine AW.seq ?_
            refine AW.region ?_
            refine AOps.cons (op_move (A := rd (kint .i64) b24) rfl rfl (vt rfl)) rfl ?_
            refine AOps.cons (op_move (A := rd (kint .i64) n3) rfl rfl (vt rfl)) rfl ?_
            refine AOps.cons (op_leq rfl rfl (vt rfl) (vt rfl)) rfl ?_
            refine AOps.nil ?_
            refine AW.cond (vt rfl) (fun hc => ?_) (fun hc => ?_)
            · have h := cond_t hc h
              refine AW.skip ?_
              refine AW.block ?_
              refine AW.seq ?_
              obtain ⟨l26, hl26, h⟩ := bsome h
              refine AW.region ?_
              refine AOps.cons (op_move (A := raw v2) rfl rfl (vt rfl)) rfl ?_
              refine AOps.cons (op_move (A := rd (kint .i64) a23) rfl rfl (vt rfl)) rfl ?_
              refine AOps.cons (op_move (A := rd (kint .i64) a23) rfl rfl (vt rfl)) rfl ?_
              refine AOps.cons (op_move (A := rd (kint .i64) blockSize17) rfl rfl (vt rfl)) rfl ?_
              refine AOps.cons (op_add rfl rfl (vt rfl) (vt rfl)) rfl ?_
              refine AOps.cons (op_move (A := rd (kint .i64) b24) rfl rfl (vt rfl)) rfl ?_
              refine AOps.cons (op_move (A := fn2 Try.prog kAction kAction (kint .i64) cmp4) rfl rfl (vt rfl)) rfl ?_
              refine AOps.consT rfl (op_callR 0 (xs := [.tmp 36, .tmp 37, .tmp 40, .tmp 41, .tmp 42]) (c_slices_symMergeCmpFunc_Action_o _ _ _ _ _ _ _ hl26) (Ent.mk Try.func144 rfl rfl) rfl rfl ⟨vt rfl, vt rfl, vt rfl, vt rfl, vt rfl, trivial⟩ rfl) ?_
              rintro _ ⟨_u, rfl⟩
              refine AOps.nil ?_
              refine AW.seq ?_
              refine AW.region ?_
              refine AOps.cons (op_move (A := rd (kint .i64) b24) rfl rfl (vt rfl)) rfl ?_
              refine AOps.cons (op_assign (A := rd (kint .i64) b24) rfl rfl (vt rfl)) rfl ?_
              refine AOps.nil ?_
              refine AW.region ?_
              refine AOps.cons (op_move (A := rd (kint .i64) b24) rfl rfl (vt rfl)) rfl ?_
              refine AOps.cons (op_move (A := rd (kint .i64) blockSize17) rfl rfl (vt rfl)) rfl ?_
              refine AOps.cons (op_mul rfl rfl (vk rfl) (vt rfl)) rfl ?_
              refine AOps.cons (op_add rfl rfl (vt rfl) (vt rfl)) rfl ?_
              refine AOps.cons (op_assign (A := rd (kint .i64) (IntKind.i64.wrap (b24 + (IntKind.i64.wrap (2 * blockSize17))))) rfl rfl (vt rfl)) rfl ?_
              refine AOps.nil ?_
              subst hgo3
              exact ⟨(m25, l26, b24, (IntKind.i64.wrap (b24 + (IntKind.i64.wrap (2 * blockSize17))))), Nat.lt_succ_self _, ⟨trivial, h⟩, ⟨rfl, ⟨rfl, rfl, rfl, rfl, rfl, rfl, trivial⟩, ⟨rfl, trivial⟩⟩⟩
            · have h := cond_f hc h
              refine AW.exit ?_
              refine AW.seq ?_
              refine AW.seq ?_
              refine AW.region ?_
              refine AOps.cons (op_move (A := rd (kint .i64) a23) rfl rfl (vt rfl)) rfl ?_
              refine AOps.cons (op_move (A := rd (kint .i64) blockSize17) rfl rfl (vt rfl)) rfl ?_
              refine AOps.cons (op_add rfl rfl (vt rfl) (vt rfl)) rfl ?_
              refine AOps.cons (op_assign (A := rd (kint .i64) (IntKind.i64.wrap (a23 + blockSize17))) rfl rfl (vt rfl)) rfl ?_
              refine AOps.nil ?_
              refine AW.seq ?_
              refine AW.region ?_
              refine AOps.cons (op_move (A := rd (kint .i64) (IntKind.i64.wrap (a23 + blockSize17))) rfl rfl (vt rfl)) rfl ?_
              refine AOps.cons (op_move (A := rd (kint .i64) n3) rfl rfl (vt rfl)) rfl ?_
              refine AOps.cons (op_lss rfl rfl (vt rfl) (vt rfl)) rfl ?_
              refine AOps.nil ?_
              refine AW.cond (vt rfl) (fun hc => ?_) (fun hc => ?_)
              · have h := cond_t hc h
                obtain ⟨l27, hl27, h⟩ := bsome h
                refine AW.region ?_
                refine AOps.cons (op_move (A := raw v2) rfl rfl (vt rfl)) rfl ?_
                refine AOps.cons (op_move (A := rd (kint .i64) a23) rfl rfl (vt rfl)) rfl ?_
                refine AOps.cons (op_move (A := rd (kint .i64) (IntKind.i64.wrap (a23 + blockSize17))) rfl rfl (vt rfl)) rfl ?_
                refine AOps.cons (op_move (A := rd (kint .i64) n3) rfl rfl (vt rfl)) rfl ?_
                refine AOps.cons (op_move (A := fn2 Try.prog kAction kAction (kint .i64) cmp4) rfl rfl (vt rfl)) rfl ?_
                refine AOps.consT rfl (op_callR 0 (xs := [.tmp 55, .tmp 56, .tmp 57, .tmp 58, .tmp 59]) (c_slices_symMergeCmpFunc_Action_o _ _ _ _ _ _ _ hl27) (Ent.mk Try.func144 rfl rfl) rfl rfl ⟨vt rfl, vt rfl, vt rfl, vt rfl, vt rfl, trivial⟩ rfl) ?_
                rintro _ ⟨_u, rfl⟩
                refine AOps.nil ?_
                refine AW.region ?_
                refine AOps.cons (op_move (A := rd (kint .i64) blockSize17) rfl rfl (vt rfl)) rfl ?_
                refine AOps.cons (op_mul rfl rfl (vt rfl) (vk rfl)) rfl ?_
                refine AOps.cons (op_assign (A := rd (kint .i64) (IntKind.i64.wrap (blockSize17 * 2))) rfl rfl (vt rfl)) rfl ?_
                refine AOps.nil ?_
                subst hgo2
                exact ⟨(m18, l27, (IntKind.i64.wrap (blockSize17 * 2))), Nat.lt_succ_self _, ⟨trivial, h⟩, ⟨rfl, ⟨rfl, rfl, rfl, rfl, trivial⟩, ⟨rfl, trivial⟩⟩⟩
              · have h := cond_f hc h
                refine AW.skip ?_
                refine AW.region ?_
                refine AOps.cons (op_move (A := rd (kint .i64) blockSize17) rfl rfl (vt rfl)) rfl ?_
                refine AOps.cons (op_mul rfl rfl (vt rfl) (vk rfl)) rfl ?_
                refine AOps.cons (op_assign (A := rd (kint .i64) (IntKind.i64.wrap (blockSize17 * 2))) rfl rfl (vt rfl)) rfl ?_
                refine AOps.nil ?_
                subst hgo2
                exact ⟨(m18, l22, (IntKind.i64.wrap (blockSize17 * 2))), Nat.lt_succ_self _, ⟨trivial, h⟩, ⟨rfl, ⟨rfl, rfl, rfl, rfl, trivial⟩, ⟨rfl, trivial⟩⟩⟩
        · have h := cond_f hc h
          refine AW.exit ?_
          obtain rfl := Option.some.inj h
          exact ret0Y (i := 0) Try.results134 rfl rfl
def F_slices_SortStableFunc_Action (x1 : (List Action)) (cmp3 : (Action → Action → Option Int)) : Option (List Action) :=
  (F_slices_stableCmpFunc_Action x1 (x1.length : Int) cmp3).bind fun l4 => some l4
theorem c_slices_SortStableFunc_Action_o (v2 : Value) (x1 : (List Action)) (cmp3 : (Action → Action → Option Int)) (r : (List Action)) (h : F_slices_SortStableFunc_Action x1 cmp3 = some r) : Con Try.prog 114 [raw v2, fn2 Try.prog kAction kAction (kint .i64) cmp3] (Row v2 95 kAction x1) (fun _ : Unit => top) (fun _ => Row v2 95 kAction r) := by
  refine Con.intro Try.func114 rfl Try.ntmps114 rfl fun w H X => ?_
  unfold F_slices_SortStableFunc_Action at h
  obtain ⟨l4, hl4, h⟩ := bsome h
  refine AW.region ?_
  refine AOps.cons (op_move (A := raw v2) rfl rfl (vt rfl)) rfl ?_
  refine AOps.cons (op_move (A := raw v2) rfl rfl (vt rfl)) rfl ?_
  refine AOps.cons (op_leno 0 rfl rfl sl66 (vt rfl) rfl) rfl ?_
  refine AOps.cons (op_move (A := fn2 Try.prog kAction kAction (kint .i64) cmp3) rfl rfl (vt rfl)) rfl ?_
  refine AOps.consT rfl (op_callR 0 (xs := [.tmp 4, .tmp 6, .tmp 7]) (c_slices_stableCmpFunc_Action_o _ _ _ _ _ hl4) (Ent.mk Try.func134 rfl rfl) rfl rfl ⟨vt rfl, vt rfl, vt rfl, trivial⟩ rfl) ?_
  rintro _ ⟨_u, rfl⟩
  refine AOps.nil ?_
  obtain rfl := Option.some.inj h
  exact ret0Y (i := 0) Try.results114 rfl rfl
def F_aset_List_3 (a1 : Action) (b2 : Action) : Option Int :=
  (F_aset_at a1).bind fun x5 => (F_aset_at b2).bind fun x6 => (F_aset_turn x5.kind).bind fun x9 => (F_aset_turn x6.kind).bind fun x10 => (bif (decide ((IntKind.i64.wrap (x9 - x10)) ≠ 0)) then some (IntKind.i64.wrap (x9 - x10)) else (bif (decide (x5.field < x6.field)) then some (-1) else (bif (decide (x5.field > x6.field)) then some 1 else some 0)))
theorem c_aset_List_3 (a1 : Action) (b2 : Action) (r : Int) (h : F_aset_List_3 a1 b2 = some r) : PCon Try.prog 115 [rd kAction a1, rd kAction b2] (rd (kint .i64) r) := by
  refine PCon.of (Con.intro0 Try.func115 rfl Try.ntmps115 rfl fun w H => ?_)
  unfold F_aset_List_3 at h
  refine AW.seq ?_
  refine AW.region ?_
  refine AOps.consT rfl (op_box 3 rfl rfl (vt rfl)) ?_
  rintro _ ⟨g3, rfl⟩
  refine AOps.consT rfl (op_box 4 rfl rfl (vt rfl)) ?_
  rintro _ ⟨g4, rfl⟩
  refine AOps.cons (op_assign (A := rd (kint .i64) 0) rfl rfl (vk rfl)) rfl ?_
  refine AOps.nil ?_
  refine AW.seq ?_
  obtain ⟨x5, hx5, h⟩ := bsome h
  obtain ⟨x6, hx6, h⟩ := bsome h
  refine AW.regionAny [⟨[2], [8], [3], []⟩, ⟨[8], [9], [], []⟩, ⟨[3], [10], [4], []⟩, ⟨[10], [11], [], []⟩, ⟨[], [5], [], []⟩, ⟨[], [6], [], []⟩, ⟨[5, 9], [5], [], []⟩, ⟨[6, 11], [6], [], []⟩] mixed (by kernel_rfl) ?_
  refine SeqA.cons (loc [2] [3] rfl rfl fun S hs hr => op_load rfl rfl ty95 (vt ((hs 2 rfl).trans rfl)) (i := 3) ((hr 3 rfl).trans rfl)) ⟨rfl, rfl, rfl, rfl⟩ ?_
  refine SeqA.cons (loc [8] [] rfl rfl fun S hs hr => op_call (xs := [.tmp 8]) (c_aset_at _ _ hx5) (Ent.mk Try.func116 rfl rfl) rfl rfl ⟨vt ((hs 8 rfl).trans rfl), trivial⟩) ⟨rfl, rfl, rfl, rfl⟩ ?_
  refine SeqA.cons (loc [3] [4] rfl rfl fun S hs hr => op_load rfl rfl ty95 (vt ((hs 3 rfl).trans rfl)) (i := 4) ((hr 4 rfl).trans rfl)) ⟨rfl, rfl, rfl, rfl⟩ ?_
  refine SeqA.cons (loc [10] [] rfl rfl fun S hs hr => op_call (xs := [.tmp 10]) (c_aset_at _ _ hx6) (Ent.mk Try.func116 rfl rfl) rfl rfl ⟨vt ((hs 10 rfl).trans rfl), trivial⟩) ⟨rfl, rfl, rfl, rfl⟩ ?_
  refine SeqA.cons (locs (us := [(5, ownP 169 kaset_spot zaset_spot)]) (ur := []) [] [] rfl fun S hs hr => op_allocO rfl rfl rfl zr169) ⟨rfl, rfl, rfl, rfl⟩ ?_
  refine SeqA.cons (locs (us := [(6, ownP 169 kaset_spot zaset_spot)]) (ur := []) [] [] rfl fun S hs hr => op_allocO rfl rfl rfl zr169) ⟨rfl, rfl, rfl, rfl⟩ ?_
  refine SeqA.cons (locs (us := [(5, ownP 169 kaset_spot x5)]) (ur := []) [5, 9] [] rfl fun S hs hr => op_storeO rfl rfl ty169 ((hs 5 rfl).trans rfl) (vt ((hs 9 rfl).trans rfl))) ⟨rfl, rfl, rfl, rfl⟩ ?_
  refine SeqA.cons (locs (us := [(6, ownP 169 kaset_spot x6)]) (ur := []) [6, 11] [] rfl fun S hs hr => op_storeO rfl rfl ty169 ((hs 6 rfl).trans rfl) (vt ((hs 11 rfl).trans rfl))) ⟨rfl, rfl, rfl, rfl⟩ ?_
  refine AW.unpackP 5 6 rfl rfl fun g7 => ?_
  refine AW.unpackP 6 7 rfl rfl fun g8 => ?_
  refine AW.seq ?_
  refine AW.seq ?_
  obtain ⟨x9, hx9, h⟩ := bsome h
  obtain ⟨x10, hx10, h⟩ := bsome h
  refine AW.regionAny [⟨[5], [12], [], []⟩, ⟨[12], [13], [6], []⟩, ⟨[13], [14], [], []⟩, ⟨[6], [15], [], []⟩, ⟨[15], [16], [7], []⟩, ⟨[16], [17], [], []⟩, ⟨[14, 17], [18], [], []⟩, ⟨[18], [7], [], []⟩] mixed (by kernel_rfl) ?_
  refine SeqA.cons (loc [5] [] rfl rfl fun S hs hr => op_field laset_spot_0 rfl rfl fl169_0 (vt ((hs 5 rfl).trans rfl))) ⟨rfl, rfl, rfl, rfl⟩ ?_
  refine SeqA.cons (loc [12] [6] rfl rfl fun S hs hr => op_load rfl rfl ty3 (vt ((hs 12 rfl).trans rfl)) (i := 6) ((hr 6 rfl).trans rfl)) ⟨rfl, rfl, rfl, rfl⟩ ?_
  refine SeqA.cons (loc [13] [] rfl rfl fun S hs hr => op_call (xs := [.tmp 13]) (c_aset_turn _ _ hx9) (Ent.mk Try.func113 rfl rfl) rfl rfl ⟨vt ((hs 13 rfl).trans rfl), trivial⟩) ⟨rfl, rfl, rfl, rfl⟩ ?_
  refine SeqA.cons (loc [6] [] rfl rfl fun S hs hr => op_field laset_spot_0 rfl rfl fl169_0 (vt ((hs 6 rfl).trans rfl))) ⟨rfl, rfl, rfl, rfl⟩ ?_
  refine SeqA.cons (loc [15] [7] rfl rfl fun S hs hr => op_load rfl rfl ty3 (vt ((hs 15 rfl).trans rfl)) (i := 7) ((hr 7 rfl).trans rfl)) ⟨rfl, rfl, rfl, rfl⟩ ?_
  refine SeqA.cons (loc [16] [] rfl rfl fun S hs hr => op_call (xs := [.tmp 16]) (c_aset_turn _ _ hx10) (Ent.mk Try.func113 rfl rfl) rfl rfl ⟨vt ((hs 16 rfl).trans rfl), trivial⟩) ⟨rfl, rfl, rfl, rfl⟩ ?_
  refine SeqA.cons (loc [14, 17] [] rfl rfl fun S hs hr => op_sub rfl rfl (vt ((hs 14 rfl).trans rfl)) (vt ((hs 17 rfl).trans rfl))) ⟨rfl, rfl, rfl, rfl⟩ ?_
  refine SeqA.cons (loc [18] [] rfl rfl fun S hs hr => op_assign (A := rd (kint .i64) (IntKind.i64.wrap (x9 - x10))) rfl rfl (vt ((hs 18 rfl).trans rfl))) ⟨rfl, rfl, rfl, rfl⟩ ?_
  refine AW.seq ?_
  refine AW.region ?_
  refine AOps.cons (op_move (A := rd (kint .i64) (IntKind.i64.wrap (x9 - x10))) rfl rfl (vt rfl)) rfl ?_
  refine AOps.cons (op_neq rfl rfl (vt rfl) (vk rfl)) rfl ?_
  refine AOps.nil ?_
  refine AW.cond (vt rfl) (fun hc => ?_) (fun hc => ?_)
  · have h := cond_t hc h
    refine AW.seq ?_
    refine AW.region ?_
    refine AOps.cons (op_move (A := rd (kint .i64) (IntKind.i64.wrap (x9 - x10))) rfl rfl (vt rfl)) rfl ?_
    refine AOps.cons (op_assign (A := rd (kint .i64) (IntKind.i64.wrap (x9 - x10))) rfl rfl (vt rfl)) rfl ?_
    refine AOps.nil ?_
    refine AW.ret ?_
    obtain rfl := Option.some.inj h
    exact ret1 Try.results115 rfl (out_tmp rfl)
  · have h := cond_f hc h
    refine AW.skip ?_
    refine AW.seq ?_
    refine AW.block ?_
    refine AW.seq ?_
    refine AW.region ?_
    refine AOps.cons (op_field laset_spot_1 rfl rfl fl169_1 (vt rfl)) rfl ?_
    refine AOps.cons (op_load rfl rfl ty3 (vt rfl) (i := 6) rfl) rfl ?_
    refine AOps.cons (op_field laset_spot_1 rfl rfl fl169_1 (vt rfl)) rfl ?_
    refine AOps.cons (op_load rfl rfl ty3 (vt rfl) (i := 7) rfl) rfl ?_
    refine AOps.cons (op_lss rfl rfl (vt rfl) (vt rfl)) rfl ?_
    refine AOps.cons (op_assign (A := rd kbool (decide (x5.field < x6.field))) rfl rfl (vt rfl)) rfl ?_
    refine AOps.nil ?_
    refine AW.cond (vt rfl) (fun hc => ?_) (fun hc => ?_)
    · have h := cond_t hc h
      refine AW.seq ?_
      refine AW.region ?_
      refine AOps.cons (op_assign (A := rd (kint .i64) (-1)) rfl rfl (vk rfl)) rfl ?_
      refine AOps.nil ?_
      refine AW.ret ?_
      obtain rfl := Option.some.inj h
      exact ret1 Try.results115 rfl (out_tmp rfl)
    · have h := cond_f hc h
      refine AW.seq ?_
      refine AW.region ?_
      refine AOps.cons (op_field laset_spot_1 rfl rfl fl169_1 (vt rfl)) rfl ?_
      refine AOps.cons (op_load rfl rfl ty3 (vt rfl) (i := 6) rfl) rfl ?_
      refine AOps.cons (op_field laset_spot_1 rfl rfl fl169_1 (vt rfl)) rfl ?_
      refine AOps.cons (op_load rfl rfl ty3 (vt rfl) (i := 7) rfl) rfl ?_
      refine AOps.cons (op_gtr rfl rfl (vt rfl) (vt rfl)) rfl ?_
      refine AOps.cons (op_assign (A := rd kbool (decide (x5.field > x6.field))) rfl rfl (vt rfl)) rfl ?_
      refine AOps.nil ?_
      refine AW.cond (vt rfl) (fun hc => ?_) (fun hc => ?_)
      · have h := cond_t hc h
        refine AW.seq ?_
        refine AW.region ?_
        refine AOps.cons (op_assign (A := rd (kint .i64) 1) rfl rfl (vk rfl)) rfl ?_
        refine AOps.nil ?_
        refine AW.ret ?_
        obtain rfl := Option.some.inj h
        exact ret1 Try.results115 rfl (out_tmp rfl)
      · have h := cond_f hc h
        refine AW.skip ?_
        refine AW.seq ?_
        refine AW.region ?_
        refine AOps.cons (op_assign (A := rd (kint .i64) 0) rfl rfl (vk rfl)) rfl ?_
        refine AOps.nil ?_
        refine AW.ret ?_
        obtain rfl := Option.some.inj h
        exact ret1 Try.results115 rfl (out_tmp rfl)
def F_aset_List (set1 : (List Action)) : Option (List Action) :=
  (F_slices_ContainsFunc_Action set1 F_aset_List_1).bind fun x2 => (F_slices_Clone_Action set1).bind fun x4 => (F_slices_DeleteFunc_Action x4 (fun x => F_aset_List_2 x x2)).bind fun x6 => (F_slices_SortStableFunc_Action x6 F_aset_List_3).bind fun l8 => some l8
theorem c_aset_List (set1 : (List Action)) (r : (List Action)) (h : F_aset_List set1 = some r) : PCon Try.prog 78 [rd (ksl kAction) set1] (rd (ksl kAction) r) := by
  refine PCon.of (Con.intro0 Try.func78 rfl Try.ntmps78 rfl fun w H => ?_)
  unfold F_aset_List at h
  refine AW.seq ?_
  refine AW.region ?_
  refine AOps.cons (op_assign (A := rd (ksl kAction) []) rfl rfl vnil) rfl ?_
  refine AOps.nil ?_
  refine AW.seq ?_
  obtain ⟨x2, hx2, h⟩ := bsome h
  refine AW.region ?_
  refine AOps.cons (op_move (A := rd (ksl kAction) set1) rfl rfl (vt rfl)) rfl ?_
  refine AOps.cons (op_call (xs := [.tmp 5, .func 109]) (c_slices_ContainsFunc_Action _ _ _ hx2) (Ent.mk Try.func108 rfl rfl) rfl rfl ⟨vt rfl, vf1 (Ent.mk Try.func109 rfl rfl) c_aset_List_1, trivial⟩) rfl ?_
  refine AOps.consT rfl (op_alloc 4 rfl rfl zr4) ?_
  rintro _ ⟨g3, rfl⟩
  refine AOps.cons (op_store rfl rfl ty4 (vt rfl) (i := 4) rfl (vt rfl)) rfl ?_
  refine AOps.nil ?_
  refine AW.seq ?_
  refine AW.freezeB 3 4 rfl rfl rfl ?_
  obtain ⟨x4, hx4, h⟩ := bsome h
  obtain ⟨x6, hx6, h⟩ := bsome h
  refine AW.region ?_
  refine AOps.cons (op_move (A := rd (ksl kAction) set1) rfl rfl (vt rfl)) rfl ?_
  refine AOps.consT rfl (op_callR 1001 (xs := [.tmp 7]) (c_slices_Clone_Action_o _ _ hx4) (Ent.mk Try.func111 rfl rfl) rfl rfl ⟨vt rfl, trivial⟩ rfl) ?_
  rintro _ ⟨v5, rfl⟩
  refine AOps.cons (op_fn1 (cs := [.tmp 3]) (CAs := [rp kbool x2]) (fun x => F_aset_List_2 x x2) rfl rfl (Ent.mk Try.func112 rfl rfl) ⟨vt rfl, trivial⟩ (fun x y h => c_aset_List_2 _ _ y h)) rfl ?_
  refine AOps.consT rfl (op_callR 1001 (xs := [.tmp 8, .tmp 9]) (c_slices_DeleteFunc_Action_o _ _ _ _ hx6) (Ent.mk Try.func110 rfl rfl) rfl rfl ⟨vt rfl, vt rfl, trivial⟩ rfl) ?_
  rintro _ ⟨v7, rfl⟩
  refine AOps.cons (op_assign (A := raw v7) rfl rfl (vt rfl)) rfl ?_
  refine AOps.nil ?_
  refine AW.seq ?_
  obtain ⟨l8, hl8, h⟩ := bsome h
  refine AW.region ?_
  refine AOps.cons (op_move (A := raw v7) rfl rfl (vt rfl)) rfl ?_
  refine AOps.consT rfl (op_callR 1001 (xs := [.tmp 11, .func 115]) (c_slices_SortStableFunc_Action_o _ _ _ _ hl8) (Ent.mk Try.func114 rfl rfl) rfl rfl ⟨vt rfl, vf2 (Ent.mk Try.func115 rfl rfl) c_aset_List_3, trivial⟩ rfl) ?_
  rintro _ ⟨_u, rfl⟩
  refine AOps.nil ?_
  refine AW.seq ?_
  refine AW.region ?_
  refine AOps.cons (op_move (A := raw v7) rfl rfl (vt rfl)) rfl ?_
  refine AOps.cons (op_assign (A := raw v7) rfl rfl (vt rfl)) rfl ?_
  refine AOps.nil ?_
  refine AW.freezes [2, 4, 10, 11, 13] 1001 rfl ⟨rfl, rfl, rfl, rfl, rfl, trivial⟩ rfl ?_
  refine AW.ret ?_
  obtain rfl := Option.some.inj h
  exact ret1 Try.results78 rfl (out_tmp rfl)
def F_wide_And (a1 : Wide) (b2 : Wide) : Option Wide :=
  some (⟨(a1.Hi &&& b2.Hi), (a1.Lo &&& b2.Lo)⟩ : Wide)
theorem c_wide_And (a1 : Wide) (b2 : Wide) (r : Wide) (h : F_wide_And a1 b2 = some r) : PCon Try.prog 84 [rd kWide a1, rd kWide b2] (rd kWide r) := by
  refine PCon.of (Con.intro0 Try.func84 rfl Try.ntmps84 rfl fun w H => ?_)
  unfold F_wide_And at h
  refine AW.seq ?_
  refine AW.region ?_
  refine AOps.consT rfl (op_box 3 rfl rfl (vt rfl)) ?_
  rintro _ ⟨g3, rfl⟩
  refine AOps.consT rfl (op_box 4 rfl rfl (vt rfl)) ?_
  rintro _ ⟨g4, rfl⟩
  refine AOps.consT rfl (op_alloc 5 rfl rfl zr28) ?_
  rintro _ ⟨g5, rfl⟩
  refine AOps.nil ?_
  refine AW.seq ?_
  refine AW.region ?_
  refine AOps.cons (op_field lWide_0 rfl rfl fl28_0 (vt rfl)) rfl ?_
  refine AOps.cons (op_load rfl rfl ty26 (vt rfl) (i := 3) rfl) rfl ?_
  refine AOps.cons (op_field lWide_0 rfl rfl fl28_0 (vt rfl)) rfl ?_
  refine AOps.cons (op_load rfl rfl ty26 (vt rfl) (i := 4) rfl) rfl ?_
  refine AOps.cons (op_and rfl rfl (vt rfl) (vt rfl)) rfl ?_
  refine AOps.cons (op_field lWide_1 rfl rfl fl28_1 (vt rfl)) rfl ?_
  refine AOps.cons (op_load rfl rfl ty26 (vt rfl) (i := 3) rfl) rfl ?_
  refine AOps.cons (op_field lWide_1 rfl rfl fl28_1 (vt rfl)) rfl ?_
  refine AOps.cons (op_load rfl rfl ty26 (vt rfl) (i := 4) rfl) rfl ?_
  refine AOps.cons (op_and rfl rfl (vt rfl) (vt rfl)) rfl ?_
  refine AOps.cons (op_build (ps := [(0, .tmp 9), (1, .tmp 14)]) (x := (⟨(a1.Hi &&& b2.Hi), (a1.Lo &&& b2.Lo)⟩ : Wide)) rfl rfl rfl (by kernel_rfl) zr28 ⟨_, _, lWide_0, _, by kernel_rfl, (vt rfl), _, _, lWide_1, _, by kernel_rfl, (vt rfl), rfl⟩) rfl ?_
  refine AOps.cons (op_store rfl rfl ty28 (vt rfl) (i := 5) rfl (vt rfl)) rfl ?_
  refine AOps.nil ?_
  refine AW.ret ?_
  obtain rfl := Option.some.inj h
  exact ret1 Try.results84 rfl (out_cell rfl (i := 5) rfl ty28)
def F_tern_Clean (t1 : Tern) : Option Tern :=
  (F_wide_And t1.Value t1.Mask).bind fun x4 => some (⟨x4, t1.Mask⟩ : Tern)
theorem c_tern_Clean (t1 : Tern) (r : Tern) (h : F_tern_Clean t1 = some r) : PCon Try.prog 122 [rd kTern t1] (rd kTern r) := by
  refine PCon.of (Con.intro0 Try.func122 rfl Try.ntmps122 rfl fun w H => ?_)
  unfold F_tern_Clean at h
  refine AW.seq ?_
  refine AW.region ?_
  refine AOps.consT rfl (op_box 2 rfl rfl (vt rfl)) ?_
  rintro _ ⟨g2, rfl⟩
  refine AOps.consT rfl (op_alloc 3 rfl rfl zr49) ?_
  rintro _ ⟨g3, rfl⟩
  refine AOps.nil ?_
  refine AW.seq ?_
  obtain ⟨x4, hx4, h⟩ := bsome h
  refine AW.regionAny [⟨[1], [3], [], []⟩, ⟨[3], [4], [2], []⟩, ⟨[1], [5], [], []⟩, ⟨[5], [6], [2], []⟩, ⟨[4, 6], [7], [], []⟩, ⟨[1], [8], [], []⟩, ⟨[8], [9], [2], []⟩, ⟨[7, 9], [10], [], []⟩, ⟨[2, 10], [], [3], [3]⟩] mixed (by kernel_rfl) ?_
  refine SeqA.cons (loc [1] [] rfl rfl fun S hs hr => op_field lTern_0 rfl rfl fl49_0 (vt ((hs 1 rfl).trans rfl))) ⟨rfl, rfl, rfl, rfl⟩ ?_
  refine SeqA.cons (loc [3] [2] rfl rfl fun S hs hr => op_load rfl rfl ty28 (vt ((hs 3 rfl).trans rfl)) (i := 2) ((hr 2 rfl).trans rfl)) ⟨rfl, rfl, rfl, rfl⟩ ?_
  refine SeqA.cons (loc [1] [] rfl rfl fun S hs hr => op_field lTern_1 rfl rfl fl49_1 (vt ((hs 1 rfl).trans rfl))) ⟨rfl, rfl, rfl, rfl⟩ ?_
  refine SeqA.cons (loc [5] [2] rfl rfl fun S hs hr => op_load rfl rfl ty28 (vt ((hs 5 rfl).trans rfl)) (i := 2) ((hr 2 rfl).trans rfl)) ⟨rfl, rfl, rfl, rfl⟩ ?_
  refine SeqA.cons (loc [4, 6] [] rfl rfl fun S hs hr => op_call (xs := [.tmp 4, .tmp 6]) (c_wide_And _ _ _ hx4) (Ent.mk Try.func84 rfl rfl) rfl rfl ⟨vt ((hs 4 rfl).trans rfl), vt ((hs 6 rfl).trans rfl), trivial⟩) ⟨rfl, rfl, rfl, rfl⟩ ?_
  refine SeqA.cons (loc [1] [] rfl rfl fun S hs hr => op_field lTern_1 rfl rfl fl49_1 (vt ((hs 1 rfl).trans rfl))) ⟨rfl, rfl, rfl, rfl⟩ ?_
  refine SeqA.cons (loc [8] [2] rfl rfl fun S hs hr => op_load rfl rfl ty28 (vt ((hs 8 rfl).trans rfl)) (i := 2) ((hr 2 rfl).trans rfl)) ⟨rfl, rfl, rfl, rfl⟩ ?_
  refine SeqA.cons (loc [7, 9] [] rfl rfl fun S hs hr => op_build (ps := [(0, .tmp 7), (1, .tmp 9)]) (x := (⟨x4, t1.Mask⟩ : Tern)) rfl rfl rfl (by kernel_rfl) zr49 ⟨_, _, lTern_0, _, by kernel_rfl, (vt ((hs 7 rfl).trans rfl)), _, _, lTern_1, _, by kernel_rfl, (vt ((hs 9 rfl).trans rfl)), rfl⟩) ⟨rfl, rfl, rfl, rfl⟩ ?_
  refine SeqA.cons (locr [2, 10] [3] rfl fun S hs hr => op_store rfl rfl ty49 (vt ((hs 2 rfl).trans rfl)) (i := 3) ((hr 3 rfl).trans rfl) (vt ((hs 10 rfl).trans rfl))) ⟨rfl, rfl, rfl, rfl⟩ ?_
  refine AW.ret ?_
  obtain rfl := Option.some.inj h
  exact ret1 Try.results122 rfl (out_cell rfl (i := 3) rfl ty49)
end Go.Proofs.Ytknpgojdkobgjaa.W
set_option linter.unusedVariables false
set_option maxRecDepth 4000
set_option linter.unusedSimpArgs false
namespace Go.Proofs.Ytknpgojdkobgjaa.W
open Go Go.Wb
def F_rewrite_Clean_1 (i1 : Int) (cp2 : (Vector Tern 24)) : Option Tern :=
  (chk 24 i1).bind fun j4 => (F_tern_Clean (Vector.get cp2 j4)).bind fun x5 => some x5
theorem c_rewrite_Clean_1 (i1 : Int) (cp2 : (Vector Tern 24)) (r : Tern) (h : F_rewrite_Clean_1 i1 cp2 = some r) : PCon Try.prog 121 [rd (kint .i64) i1, rp (karr 24 kTern) cp2] (rd kTern r) := by
  refine PCon.of (Con.intro0 Try.func121 rfl Try.ntmps121 rfl fun w H => ?_)
  unfold F_rewrite_Clean_1 at h
  refine AW.seq ?_
  refine AW.region ?_
  refine AOps.consT rfl (op_alloc 4 rfl rfl zr49) ?_
  rintro _ ⟨g3, rfl⟩
  refine AOps.nil ?_
  refine AW.seq ?_
  obtain ⟨j4, hj4, h⟩ := bsome h
  obtain ⟨x5, hx5, h⟩ := bsome h
  refine AW.region ?_
  refine AOps.cons (op_move (A := rd (kint .i64) i1) rfl rfl (vt rfl)) rfl ?_
  refine AOps.cons (op_indexp' rfl rfl ar51 (vt rfl) (vt rfl) hj4) rfl ?_
  refine AOps.cons (op_loadp rfl rfl ty49 (vt rfl)) rfl ?_
  refine AOps.cons (op_call (xs := [.tmp 6]) (c_tern_Clean _ _ hx5) (Ent.mk Try.func122 rfl rfl) rfl rfl ⟨vt rfl, trivial⟩) rfl ?_
  refine AOps.cons (op_store rfl rfl ty49 (vt rfl) (i := 4) rfl (vt rfl)) rfl ?_
  refine AOps.nil ?_
  refine AW.ret ?_
  obtain rfl := Option.some.inj h
  exact ret1 Try.results121 rfl (out_cell rfl (i := 4) rfl ty49)
def F_rewrite_each_Rewrite_l1 (f1 : (Int → Option Tern)) : Nat → Nat → (Vector Tern 24) → Option (Vector Tern 24)
  | 0, i6, b5 => some b5
  | m7 + 1, i6, b5 => (f1 (i6 : Int)).bind fun x8 => (chk 24 (i6 : Int)).bind fun j9 => (F_rewrite_each_Rewrite_l1 f1 m7) (i6 + 1) (Vector.set b5 j9.1 x8 j9.2)
def F_rewrite_each_Rewrite (f1 : (Int → Option Tern)) : Option (Vector Tern 24) :=
  F_rewrite_each_Rewrite_l1 f1 (24 : Int).toNat 0 (Vector.replicate 24 zTern)
theorem c_rewrite_each_Rewrite (f1 : (Int → Option Tern)) (r : (Vector Tern 24)) (h : F_rewrite_each_Rewrite f1 = some r) : PCon Try.prog 120 [fn1 Try.prog (kint .i64) kTern f1] (rd (karr 24 kTern) r) := by
  refine PCon.of (Con.intro0 Try.func120 rfl Try.ntmps120 rfl fun w H => ?_)
  unfold F_rewrite_each_Rewrite at h
  refine AW.seq ?_
  refine AW.region ?_
  refine AOps.consT rfl (op_alloc 3 rfl rfl zr51) ?_
  rintro _ ⟨g2, rfl⟩
  refine AOps.nil ?_
  refine AW.seq ?_
  refine AW.region ?_
  refine AOps.consT rfl (op_alloc 4 rfl rfl zr51) ?_
  rintro _ ⟨g3, rfl⟩
  refine AOps.nil ?_
  refine AW.seq ?_
  refine AW.seq ?_
  refine AW.region ?_
  refine AOps.cons (op_move (A := rd (kint .i64) 0) rfl rfl (vk rfl)) rfl ?_
  refine AOps.nil ?_
  refine AW.block ?_
  refine AW.loopG (d := []) (ν := Nat × Nat × (Vector Tern 24)) (fun n => Cnt 24 n.2.1 n.1 ∧ F_rewrite_each_Rewrite_l1 f1 n.1 n.2.1 n.2.2 = some r) (fun n => n.1) (fun n => [(0, fn1 Try.prog (kint .i64) kTern f1), (2, ptrL g2 (Lens.id (karr 24 kTern))), (3, ptrL g3 (Lens.id (karr 24 kTern))), (5, rd (kint .i64) (n.2.1 : Int))]) (fun n => [(3, Blk g2 51 (karr 24 kTern) (Vector.replicate 24 zTern)), (4, Blk g3 51 (karr 24 kTern) n.2.2)]) ((24 : Int).toNat, 0, (Vector.replicate 24 zTern)) ⟨Cnt.start _, h⟩ ⟨rfl, ⟨rfl, rfl, rfl, rfl, trivial⟩, ⟨rfl, rfl, trivial⟩⟩ ?_
  rintro ⟨m7, i6, b5⟩ ⟨hsf1, h⟩
  change Cnt 24 i6 m7 at hsf1
  change F_rewrite_each_Rewrite_l1 f1 m7 i6 b5 = some r at h
  change AW _ _ _ ⟨slots [(0, fn1 Try.prog (kint .i64) kTern f1), (2, ptrL g2 (Lens.id (karr 24 kTern))), (3, ptrL g3 (Lens.id (karr 24 kTern))), (5, rd (kint .i64) (i6 : Int))], ress [(3, Blk g2 51 (karr 24 kTern) (Vector.replicate 24 zTern)), (4, Blk g3 51 (karr 24 kTern) b5)], _⟩
  cases m7 with
  | zero =>
    unfold F_rewrite_each_Rewrite_l1 at h
    refine AW.seq ?_
    refine AW.region ?_
    refine AOps.cons (op_lss rfl rfl (vt rfl) (vk rfl)) rfl ?_
    refine AOps.nil ?_
    refine AW.seq ?_
    refine AW.cond (vt rfl) (fun hc => absurd (of_decide_eq_true hc) hsf1.zero) (fun hc => ?_)
    refine AW.exit ?_
    refine AW.seq ?_
    refine AW.region ?_
    refine AOps.cons (op_load rfl rfl ty51 (vt rfl) (i := 4) rfl) rfl ?_
    refine AOps.cons (op_store rfl rfl ty51 (vt rfl) (i := 3) rfl (vt rfl)) rfl ?_
    refine AOps.nil ?_
    refine AW.ret ?_
    obtain rfl := Option.some.inj h
    exact ret1 Try.results120 rfl (out_cell rfl (i := 3) rfl ty51)
  | succ m7 =>
    unfold F_rewrite_each_Rewrite_l1 at h
    generalize hgo1 : F_rewrite_each_Rewrite_l1 f1 m7 = go1 at h
    refine AW.seq ?_
    refine AW.region ?_
    refine AOps.cons (op_lss rfl rfl (vt rfl) (vk rfl)) rfl ?_
    refine AOps.nil ?_
    refine AW.seq ?_
    refine AW.cond (vt rfl) (fun hc => ?_) (fun hc => absurd hsf1.succ (of_decide_eq_false hc))
    have hlti6 := of_decide_eq_true hc
    refine AW.skip ?_
    refine AW.seq ?_
    refine AW.block ?_
    refine AW.seq ?_
    refine AW.region ?_
    refine AOps.cons (op_move (A := rd (kint .i64) (i6 : Int)) rfl rfl (vt rfl)) rfl ?_
    refine AOps.cons (op_assign (A := rd (kint .i64) (i6 : Int)) rfl rfl (vt rfl)) rfl ?_
    refine AOps.nil ?_
    obtain ⟨x8, hx8, h⟩ := bsome h
    obtain ⟨j9, hj9, h⟩ := bsome h
    refine AW.region ?_
    refine AOps.cons (op_move (A := rd (kint .i64) (i6 : Int)) rfl rfl (vt rfl)) rfl ?_
    refine AOps.cons (op_move (A := fn1 Try.prog (kint .i64) kTern f1) rfl rfl (vt rfl)) rfl ?_
    refine AOps.cons (op_move (A := rd (kint .i64) (i6 : Int)) rfl rfl (vt rfl)) rfl ?_
    refine AOps.cons (op_call1 hx8 rfl rfl (vt rfl) (vt rfl)) rfl ?_
    refine AOps.cons (op_index' rfl rfl ar51 (vt rfl) (vt rfl) hj9) rfl ?_
    refine AOps.cons (op_store rfl rfl ty49 (vt rfl) (i := 4) rfl (vt rfl)) rfl ?_
    refine AOps.nil ?_
    refine AW.region ?_
    refine AOps.cons (op_incrc rfl rfl (vt rfl) (vk rfl) rfl hlti6) rfl ?_
    refine AOps.cons (op_move (A := rd (kint .i64) ((i6 + 1 : Nat) : Int)) rfl rfl (vt rfl)) rfl ?_
    refine AOps.nil ?_
    subst hgo1
    exact ⟨(m7, i6 + 1, (Vector.set b5 j9.1 x8 j9.2)), Nat.lt_succ_self _, ⟨hsf1.next, h⟩, ⟨rfl, ⟨rfl, rfl, rfl, rfl, trivial⟩, ⟨rfl, rfl, trivial⟩⟩⟩
def F_rewrite_Clean (r1 : (Vector Tern 24)) : Option (Vector Tern 24) :=
  (F_rewrite_each_Rewrite (fun x => F_rewrite_Clean_1 x r1)).bind fun x4 => some x4
theorem c_rewrite_Clean (r1 : (Vector Tern 24)) (r : (Vector Tern 24)) (h : F_rewrite_Clean r1 = some r) : PCon Try.prog 81 [rd (karr 24 kTern) r1] (rd (karr 24 kTern) r) := by
  refine PCon.of (Con.intro0 Try.func81 rfl Try.ntmps81 rfl fun w H => ?_)
  unfold F_rewrite_Clean at h
  refine AW.seq ?_
  refine AW.region ?_
  refine AOps.consT rfl (op_box 2 rfl rfl (vt rfl)) ?_
  rintro _ ⟨g2, rfl⟩
  refine AOps.consT rfl (op_alloc 3 rfl rfl zr51) ?_
  rintro _ ⟨g3, rfl⟩
  refine AOps.nil ?_
  refine AW.seq ?_
  refine AW.freezeB 1 2 rfl rfl rfl ?_
  obtain ⟨x4, hx4, h⟩ := bsome h
  refine AW.region ?_
  refine AOps.cons (op_fn1 (cs := [.tmp 1]) (CAs := [rp (karr 24 kTern) r1]) (fun x => F_rewrite_Clean_1 x r1) rfl rfl (Ent.mk Try.func121 rfl rfl) ⟨vt rfl, trivial⟩ (fun x y h => c_rewrite_Clean_1 _ _ y h)) rfl ?_
  refine AOps.cons (op_call (xs := [.tmp 3]) (c_rewrite_each_Rewrite _ _ hx4) (Ent.mk Try.func120 rfl rfl) rfl rfl ⟨vt rfl, trivial⟩) rfl ?_
  refine AOps.cons (op_store rfl rfl ty51 (vt rfl) (i := 3) rfl (vt rfl)) rfl ?_
  refine AOps.nil ?_
  refine AW.ret ?_
  obtain rfl := Option.some.inj h
  exact ret1 Try.results81 rfl (out_cell rfl (i := 3) rfl ty51)
def F_rewrite_None : Option (Vector Tern 24) :=
  some (Vector.replicate 24 zTern)
theorem c_rewrite_None (r : (Vector Tern 24)) (h : F_rewrite_None = some r) : PCon Try.prog 46 [] (rd (karr 24 kTern) r) := by
  refine PCon.of (Con.intro0 Try.func46 rfl Try.ntmps46 rfl fun w H => ?_)
  unfold F_rewrite_None at h
  refine AW.seq ?_
  refine AW.region ?_
  refine AOps.consT rfl (op_alloc 1 rfl rfl zr51) ?_
  rintro _ ⟨g1, rfl⟩
  refine AOps.nil ?_
  refine AW.seq ?_
  refine AW.region ?_
  refine AOps.cons (op_build (ps := []) (x := (Vector.replicate 24 zTern)) rfl rfl rfl (by kernel_rfl) zr51 rfl) rfl ?_
  refine AOps.cons (op_store rfl rfl ty51 (vt rfl) (i := 1) rfl (vt rfl)) rfl ?_
  refine AOps.nil ?_
  refine AW.ret ?_
  obtain rfl := Option.some.inj h
  exact ret1 Try.results46 rfl (out_cell rfl (i := 1) rfl ty51)
def F_field_Right (f1 : Int) : Option Bool :=
  some ((decide (f1 ≥ 0)) && (decide (f1 < 24)))
theorem c_field_Right (f1 : Int) (r : Bool) (h : F_field_Right f1 = some r) : PCon Try.prog 139 [rd (kint .i64) f1] (rd kbool r) := by
  refine PCon.of (Con.intro0 Try.func139 rfl Try.ntmps139 rfl fun w H => ?_)
  unfold F_field_Right at h
  refine AW.seq ?_
  refine AW.region ?_
  refine AOps.cons (op_assign (A := rd kbool false) rfl rfl vb) rfl ?_
  refine AOps.nil ?_
  refine AW.seq ?_
  refine AW.region ?_
  refine AOps.cons (op_move (A := rd (kint .i64) f1) rfl rfl (vt rfl)) rfl ?_
  refine AOps.cons (op_geq rfl rfl (vt rfl) (vk rfl)) rfl ?_
  refine AOps.cons (op_move (A := rd kbool (decide (f1 ≥ 0))) rfl rfl (vt rfl)) rfl ?_
  refine AOps.consG (OpG.guard rfl rfl rfl rfl rfl fun hq => op_move (A := rd (kint .i64) f1) rfl rfl (vt rfl)) ?_
  refine AOps.consG (OpG.guard rfl rfl rfl rfl rfl fun hq => op_lss rfl rfl (vgt rfl hq) (vk rfl)) ?_
  refine AOps.cons (op_all rfl rfl (vt rfl) (vt rfl)) rfl ?_
  refine AOps.cons (op_assign (A := rd kbool ((decide (f1 ≥ 0)) && (decide (f1 < 24)))) rfl rfl (vt rfl)) rfl ?_
  refine AOps.nil ?_
  refine AW.ret ?_
  obtain rfl := Option.some.inj h
  exact ret1 Try.results139 rfl (out_tmp rfl)
def F_field_rows : Option (Vector field_row 24) :=
  some (Vector.set (Vector.set (Vector.set (Vector.set (Vector.set (Vector.set (Vector.set (Vector.set (Vector.set (Vector.set (Vector.set (Vector.set (Vector.set (Vector.set (Vector.set (Vector.set (Vector.set (Vector.set (Vector.set (Vector.set (Vector.set (Vector.set (Vector.set (Vector.set (Vector.replicate 24 zfield_row) 0 (⟨{ data := #[105, 110, 95, 112, 111, 114, 116] }, 0, 32, false⟩ : field_row) (by decide)) 1 (⟨{ data := #[109, 101, 116, 97, 100, 97, 116, 97] }, 2, 64, true⟩ : field_row) (by decide)) 2 (⟨{ data := #[101, 116, 104, 95, 100, 115, 116] }, 3, 48, true⟩ : field_row) (by decide)) 3 (⟨{ data := #[101, 116, 104, 95, 115, 114, 99] }, 4, 48, true⟩ : field_row) (by decide)) 4 (⟨{ data := #[101, 116, 104, 95, 116, 121, 112, 101] }, 5, 16, false⟩ : field_row) (by decide)) 5 (⟨{ data := #[118, 108, 97, 110, 95, 118, 105, 100] }, 6, 13, true⟩ : field_row) (by decide)) 6 (⟨{ data := #[118, 108, 97, 110, 95, 112, 99, 112] }, 7, 3, false⟩ : field_row) (by decide)) 7 (⟨{ data := #[105, 112, 95, 100, 115, 99, 112] }, 8, 6, false⟩ : field_row) (by decide)) 8 (⟨{ data := #[105, 112, 95, 101, 99, 110] }, 9, 2, false⟩ : field_row) (by decide)) 9 (⟨{ data := #[105, 112, 95, 112, 114, 111, 116, 111] }, 10, 8, false⟩ : field_row) (by decide)) 10 (⟨{ data := #[105, 112, 118, 52, 95, 115, 114, 99] }, 11, 32, true⟩ : field_row) (by decide)) 11 (⟨{ data := #[105, 112, 118, 52, 95, 100, 115, 116] }, 12, 32, true⟩ : field_row) (by decide)) 12 (⟨{ data := #[116, 99, 112, 95, 115, 114, 99] }, 13, 16, false⟩ : field_row) (by decide)) 13 (⟨{ data := #[116, 99, 112, 95, 100, 115, 116] }, 14, 16, false⟩ : field_row) (by decide)) 14 (⟨{ data := #[117, 100, 112, 95, 115, 114, 99] }, 15, 16, false⟩ : field_row) (by decide)) 15 (⟨{ data := #[117, 100, 112, 95, 100, 115, 116] }, 16, 16, false⟩ : field_row) (by decide)) 16 (⟨{ data := #[105, 99, 109, 112, 118, 52, 95, 116, 121, 112, 101] }, 19, 8, false⟩ : field_row) (by decide)) 17 (⟨{ data := #[105, 99, 109, 112, 118, 52, 95, 99, 111, 100, 101] }, 20, 8, false⟩ : field_row) (by decide)) 18 (⟨{ data := #[97, 114, 112, 95, 111, 112] }, 21, 16, false⟩ : field_row) (by decide)) 19 (⟨{ data := #[97, 114, 112, 95, 115, 112, 97] }, 22, 32, true⟩ : field_row) (by decide)) 20 (⟨{ data := #[97, 114, 112, 95, 116, 112, 97] }, 23, 32, true⟩ : field_row) (by decide)) 21 (⟨{ data := #[105, 112, 118, 54, 95, 115, 114, 99] }, 26, 128, true⟩ : field_row) (by decide)) 22 (⟨{ data := #[105, 112, 118, 54, 95, 100, 115, 116] }, 27, 128, true⟩ : field_row) (by decide)) 23 (⟨{ data := #[109, 112, 108, 115, 95, 108, 97, 98, 101, 108] }, 34, 20, false⟩ : field_row) (by decide))
theorem c_field_rows (r : (Vector field_row 24)) (h : F_field_rows = some r) : PCon Try.prog 149 [] (rd (karr 24 kfield_row) r) := by
  refine PCon.of (Con.intro0 Try.func149 rfl Try.ntmps149 rfl fun w H => ?_)
  unfold F_field_rows at h
  refine AW.seq ?_
  refine AW.region ?_
  refine AOps.consT rfl (op_alloc 1 rfl rfl zr205) ?_
  rintro _ ⟨g1, rfl⟩
  refine AOps.nil ?_
  refine AW.seq ?_
  refine AW.region ?_
  refine AOps.cons (op_build (ps := [(0, .const (Value.string { data := #[105, 110, 95, 112, 111, 114, 116] })), (1, .const (Value.int IntKind.i64 0)), (2, .const (Value.int IntKind.i64 32)), (3, .const (Value.bool false))]) (x := (⟨{ data := #[105, 110, 95, 112, 111, 114, 116] }, 0, 32, false⟩ : field_row)) rfl rfl rfl (by kernel_rfl) zr203 ⟨_, _, lfield_row_0, _, by kernel_rfl, (vs (by decide)), _, _, lfield_row_1, _, by kernel_rfl, (vk rfl), _, _, lfield_row_2, _, by kernel_rfl, (vk rfl), _, _, lfield_row_3, _, by kernel_rfl, vb, rfl⟩) rfl ?_
  refine AOps.cons (op_build (ps := [(0, .const (Value.string { data := #[109, 101, 116, 97, 100, 97, 116, 97] })), (1, .const (Value.int IntKind.i64 2)), (2, .const (Value.int IntKind.i64 64)), (3, .const (Value.bool true))]) (x := (⟨{ data := #[109, 101, 116, 97, 100, 97, 116, 97] }, 2, 64, true⟩ : field_row)) rfl rfl rfl (by kernel_rfl) zr203 ⟨_, _, lfield_row_0, _, by kernel_rfl, (vs (by decide)), _, _, lfield_row_1, _, by kernel_rfl, (vk rfl), _, _, lfield_row_2, _, by kernel_rfl, (vk rfl), _, _, lfield_row_3, _, by kernel_rfl, vb, rfl⟩) rfl ?_
  refine AOps.cons (op_build (ps := [(0, .const (Value.string { data := #[101, 116, 104, 95, 100, 115, 116] })), (1, .const (Value.int IntKind.i64 3)), (2, .const (Value.int IntKind.i64 48)), (3, .const (Value.bool true))]) (x := (⟨{ data := #[101, 116, 104, 95, 100, 115, 116] }, 3, 48, true⟩ : field_row)) rfl rfl rfl (by kernel_rfl) zr203 ⟨_, _, lfield_row_0, _, by kernel_rfl, (vs (by decide)), _, _, lfield_row_1, _, by kernel_rfl, (vk rfl), _, _, lfield_row_2, _, by kernel_rfl, (vk rfl), _, _, lfield_row_3, _, by kernel_rfl, vb, rfl⟩) rfl ?_
  refine AOps.cons (op_build (ps := [(0, .const (Value.string { data := #[101, 116, 104, 95, 115, 114, 99] })), (1, .const (Value.int IntKind.i64 4)), (2, .const (Value.int IntKind.i64 48)), (3, .const (Value.bool true))]) (x := (⟨{ data := #[101, 116, 104, 95, 115, 114, 99] }, 4, 48, true⟩ : field_row)) rfl rfl rfl (by kernel_rfl) zr203 ⟨_, _, lfield_row_0, _, by kernel_rfl, (vs (by decide)), _, _, lfield_row_1, _, by kernel_rfl, (vk rfl), _, _, lfield_row_2, _, by kernel_rfl, (vk rfl), _, _, lfield_row_3, _, by kernel_rfl, vb, rfl⟩) rfl ?_
  refine AOps.cons (op_build (ps := [(0, .const (Value.string { data := #[101, 116, 104, 95, 116, 121, 112, 101] })), (1, .const (Value.int IntKind.i64 5)), (2, .const (Value.int IntKind.i64 16)), (3, .const (Value.bool false))]) (x := (⟨{ data := #[101, 116, 104, 95, 116, 121, 112, 101] }, 5, 16, false⟩ : field_row)) rfl rfl rfl (by kernel_rfl) zr203 ⟨_, _, lfield_row_0, _, by kernel_rfl, (vs (by decide)), _, _, lfield_row_1, _, by kernel_rfl, (vk rfl), _, _, lfield_row_2, _, by kernel_rfl, (vk rfl), _, _, lfield_row_3, _, by kernel_rfl, vb, rfl⟩) rfl ?_
  refine AOps.cons (op_build (ps := [(0, .const (Value.string { data := #[118, 108, 97, 110, 95, 118, 105, 100] })), (1, .const (Value.int IntKind.i64 6)), (2, .const (Value.int IntKind.i64 13)), (3, .const (Value.bool true))]) (x := (⟨{ data := #[118, 108, 97, 110, 95, 118, 105, 100] }, 6, 13, true⟩ : field_row)) rfl rfl rfl (by kernel_rfl) zr203 ⟨_, _, lfield_row_0, _, by kernel_rfl, (vs (by decide)), _, _, lfield_row_1, _, by kernel_rfl, (vk rfl), _, _, lfield_row_2, _, by kernel_rfl, (vk rfl), _, _, lfield_row_3, _, by kernel_rfl, vb, rfl⟩) rfl ?_
  refine AOps.cons (op_build (ps := [(0, .const (Value.string { data := #[118, 108, 97, 110, 95, 112, 99, 112] })), (1, .const (Value.int IntKind.i64 7)), (2, .const (Value.int IntKind.i64 3)), (3, .const (Value.bool false))]) (x := (⟨{ data := #[118, 108, 97, 110, 95, 112, 99, 112] }, 7, 3, false⟩ : field_row)) rfl rfl rfl (by kernel_rfl) zr203 ⟨_, _, lfield_row_0, _, by kernel_rfl, (vs (by decide)), _, _, lfield_row_1, _, by kernel_rfl, (vk rfl), _, _, lfield_row_2, _, by kernel_rfl, (vk rfl), _, _, lfield_row_3, _, by kernel_rfl, vb, rfl⟩) rfl ?_
  refine AOps.cons (op_build (ps := [(0, .const (Value.string { data := #[105, 112, 95, 100, 115, 99, 112] })), (1, .const (Value.int IntKind.i64 8)), (2, .const (Value.int IntKind.i64 6)), (3, .const (Value.bool false))]) (x := (⟨{ data := #[105, 112, 95, 100, 115, 99, 112] }, 8, 6, false⟩ : field_row)) rfl rfl rfl (by kernel_rfl) zr203 ⟨_, _, lfield_row_0, _, by kernel_rfl, (vs (by decide)), _, _, lfield_row_1, _, by kernel_rfl, (vk rfl), _, _, lfield_row_2, _, by kernel_rfl, (vk rfl), _, _, lfield_row_3, _, by kernel_rfl, vb, rfl⟩) rfl ?_
  refine AOps.cons (op_build (ps := [(0, .const (Value.string { data := #[105, 112, 95, 101, 99, 110] })), (1, .const (Value.int IntKind.i64 9)), (2, .const (Value.int IntKind.i64 2)), (3, .const (Value.bool false))]) (x := (⟨{ data := #[105, 112, 95, 101, 99, 110] }, 9, 2, false⟩ : field_row)) rfl rfl rfl (by kernel_rfl) zr203 ⟨_, _, lfield_row_0, _, by kernel_rfl, (vs (by decide)), _, _, lfield_row_1, _, by kernel_rfl, (vk rfl), _, _, lfield_row_2, _, by kernel_rfl, (vk rfl), _, _, lfield_row_3, _, by kernel_rfl, vb, rfl⟩) rfl ?_
  refine AOps.cons (op_build (ps := [(0, .const (Value.string { data := #[105, 112, 95, 112, 114, 111, 116, 111] })), (1, .const (Value.int IntKind.i64 10)), (2, .const (Value.int IntKind.i64 8)), (3, .const (Value.bool false))]) (x := (⟨{ data := #[105, 112, 95, 112, 114, 111, 116, 111] }, 10, 8, false⟩ : field_row)) rfl rfl rfl (by kernel_rfl) zr203 ⟨_, _, lfield_row_0, _, by kernel_rfl, (vs (by decide)), _, _, lfield_row_1, _, by kernel_rfl, (vk rfl), _, _, lfield_row_2, _, by kernel_rfl, (vk rfl), _, _, lfield_row_3, _, by kernel_rfl, vb, rfl⟩) rfl ?_
  refine AOps.cons (op_build (ps := [(0, .const (Value.string { data := #[105, 112, 118, 52, 95, 115, 114, 99] })), (1, .const (Value.int IntKind.i64 11)), (2, .const (Value.int IntKind.i64 32)), (3, .const (Value.bool true))]) (x := (⟨{ data := #[105, 112, 118, 52, 95, 115, 114, 99] }, 11, 32, true⟩ : field_row)) rfl rfl rfl (by kernel_rfl) zr203 ⟨_, _, lfield_row_0, _, by kernel_rfl, (vs (by decide)), _, _, lfield_row_1, _, by kernel_rfl, (vk rfl), _, _, lfield_row_2, _, by kernel_rfl, (vk rfl), _, _, lfield_row_3, _, by kernel_rfl, vb, rfl⟩) rfl ?_
  refine AOps.cons (op_build (ps := [(0, .const (Value.string { data := #[105, 112, 118, 52, 95, 100, 115, 116] })), (1, .const (Value.int IntKind.i64 12)), (2, .const (Value.int IntKind.i64 32)), (3, .const (Value.bool true))]) (x := (⟨{ data := #[105, 112, 118, 52, 95, 100, 115, 116] }, 12, 32, true⟩ : field_row)) rfl rfl rfl (by kernel_rfl) zr203 ⟨_, _, lfield_row_0, _, by kernel_rfl, (vs (by decide)), _, _, lfield_row_1, _, by kernel_rfl, (vk rfl), _, _, lfield_row_2, _, by kernel_rfl, (vk rfl), _, _, lfield_row_3, _, by kernel_rfl, vb, rfl⟩) rfl ?_
  refine AOps.cons (op_build (ps := [(0, .const (Value.string { data := #[116, 99, 112, 95, 115, 114, 99] })), (1, .const (Value.int IntKind.i64 13)), (2, .const (Value.int IntKind.i64 16)), (3, .const (Value.bool false))]) (x := (⟨{ data := #[116, 99, 112, 95, 115, 114, 99] }, 13, 16, false⟩ : field_row)) rfl rfl rfl (by kernel_rfl) zr203 ⟨_, _, lfield_row_0, _, by kernel_rfl, (vs (by decide)), _, _, lfield_row_1, _, by kernel_rfl, (vk rfl), _, _, lfield_row_2, _, by kernel_rfl, (vk rfl), _, _, lfield_row_3, _, by kernel_rfl, vb, rfl⟩) rfl ?_
  refine AOps.cons (op_build (ps := [(0, .const (Value.string { data := #[116, 99, 112, 95, 100, 115, 116] })), (1, .const (Value.int IntKind.i64 14)), (2, .const (Value.int IntKind.i64 16)), (3, .const (Value.bool false))]) (x := (⟨{ data := #[116, 99, 112, 95, 100, 115, 116] }, 14, 16, false⟩ : field_row)) rfl rfl rfl (by kernel_rfl) zr203 ⟨_, _, lfield_row_0, _, by kernel_rfl, (vs (by decide)), _, _, lfield_row_1, _, by kernel_rfl, (vk rfl), _, _, lfield_row_2, _, by kernel_rfl, (vk rfl), _, _, lfield_row_3, _, by kernel_rfl, vb, rfl⟩) rfl ?_
  refine AOps.cons (op_build (ps := [(0, .const (Value.string { data := #[117, 100, 112, 95, 115, 114, 99] })), (1, .const (Value.int IntKind.i64 15)), (2, .const (Value.int IntKind.i64 16)), (3, .const (Value.bool false))]) (x := (⟨{ data := #[117, 100, 112, 95, 115, 114, 99] }, 15, 16, false⟩ : field_row)) rfl rfl rfl (by kernel_rfl) zr203 ⟨_, _, lfield_row_0, _, by kernel_rfl, (vs (by decide)), _, _, lfield_row_1, _, by kernel_rfl, (vk rfl), _, _, lfield_row_2, _, by kernel_rfl, (vk rfl), _, _, lfield_row_3, _, by kernel_rfl, vb, rfl⟩) rfl ?_
  refine AOps.cons (op_build (ps := [(0, .const (Value.string { data := #[117, 100, 112, 95, 100, 115, 116] })), (1, .const (Value.int IntKind.i64 16)), (2, .const (Value.int IntKind.i64 16)), (3, .const (Value.bool false))]) (x := (⟨{ data := #[117, 100, 112, 95, 100, 115, 116] }, 16, 16, false⟩ : field_row)) rfl rfl rfl (by kernel_rfl) zr203 ⟨_, _, lfield_row_0, _, by kernel_rfl, (vs (by decide)), _, _, lfield_row_1, _, by kernel_rfl, (vk rfl), _, _, lfield_row_2, _, by kernel_rfl, (vk rfl), _, _, lfield_row_3, _, by kernel_rfl, vb, rfl⟩) rfl ?_
  refine AOps.cons (op_build (ps := [(0, .const (Value.string { data := #[105, 99, 109, 112, 118, 52, 95, 116, 121, 112, 101] })), (1, .const (Value.int IntKind.i64 19)), (2, .const (Value.int IntKind.i64 8)), (3, .const (Value.bool false))]) (x := (⟨{ data := #[105, 99, 109, 112, 118, 52, 95, 116, 121, 112, 101] }, 19, 8, false⟩ : field_row)) rfl rfl rfl (by kernel_rfl) zr203 ⟨_, _, lfield_row_0, _, by kernel_rfl, (vs (by decide)), _, _, lfield_row_1, _, by kernel_rfl, (vk rfl), _, _, lfield_row_2, _, by kernel_rfl, (vk rfl), _, _, lfield_row_3, _, by kernel_rfl, vb, rfl⟩) rfl ?_
  refine AOps.cons (op_build (ps := [(0, .const (Value.string { data := #[105, 99, 109, 112, 118, 52, 95, 99, 111, 100, 101] })), (1, .const (Value.int IntKind.i64 20)), (2, .const (Value.int IntKind.i64 8)), (3, .const (Value.bool false))]) (x := (⟨{ data := #[105, 99, 109, 112, 118, 52, 95, 99, 111, 100, 101] }, 20, 8, false⟩ : field_row)) rfl rfl rfl (by kernel_rfl) zr203 ⟨_, _, lfield_row_0, _, by kernel_rfl, (vs (by decide)), _, _, lfield_row_1, _, by kernel_rfl, (vk rfl), _, _, lfield_row_2, _, by kernel_rfl, (vk rfl), _, _, lfield_row_3, _, by kernel_rfl, vb, rfl⟩) rfl ?_
  refine AOps.cons (op_build (ps := [(0, .const (Value.string { data := #[97, 114, 112, 95, 111, 112] })), (1, .const (Value.int IntKind.i64 21)), (2, .const (Value.int IntKind.i64 16)), (3, .const (Value.bool false))]) (x := (⟨{ data := #[97, 114, 112, 95, 111, 112] }, 21, 16, false⟩ : field_row)) rfl rfl rfl (by kernel_rfl) zr203 ⟨_, _, lfield_row_0, _, by kernel_rfl, (vs (by decide)), _, _, lfield_row_1, _, by kernel_rfl, (vk rfl), _, _, lfield_row_2, _, by kernel_rfl, (vk rfl), _, _, lfield_row_3, _, by kernel_rfl, vb, rfl⟩) rfl ?_
  refine AOps.cons (op_build (ps := [(0, .const (Value.string { data := #[97, 114, 112, 95, 115, 112, 97] })), (1, .const (Value.int IntKind.i64 22)), (2, .const (Value.int IntKind.i64 32)), (3, .const (Value.bool true))]) (x := (⟨{ data := #[97, 114, 112, 95, 115, 112, 97] }, 22, 32, true⟩ : field_row)) rfl rfl rfl (by kernel_rfl) zr203 ⟨_, _, lfield_row_0, _, by kernel_rfl, (vs (by decide)), _, _, lfield_row_1, _, by kernel_rfl, (vk rfl), _, _, lfield_row_2, _, by kernel_rfl, (vk rfl), _, _, lfield_row_3, _, by kernel_rfl, vb, rfl⟩) rfl ?_
  refine AOps.cons (op_build (ps := [(0, .const (Value.string { data := #[97, 114, 112, 95, 116, 112, 97] })), (1, .const (Value.int IntKind.i64 23)), (2, .const (Value.int IntKind.i64 32)), (3, .const (Value.bool true))]) (x := (⟨{ data := #[97, 114, 112, 95, 116, 112, 97] }, 23, 32, true⟩ : field_row)) rfl rfl rfl (by kernel_rfl) zr203 ⟨_, _, lfield_row_0, _, by kernel_rfl, (vs (by decide)), _, _, lfield_row_1, _, by kernel_rfl, (vk rfl), _, _, lfield_row_2, _, by kernel_rfl, (vk rfl), _, _, lfield_row_3, _, by kernel_rfl, vb, rfl⟩) rfl ?_
  refine AOps.cons (op_build (ps := [(0, .const (Value.string { data := #[105, 112, 118, 54, 95, 115, 114, 99] })), (1, .const (Value.int IntKind.i64 26)), (2, .const (Value.int IntKind.i64 128)), (3, .const (Value.bool true))]) (x := (⟨{ data := #[105, 112, 118, 54, 95, 115, 114, 99] }, 26, 128, true⟩ : field_row)) rfl rfl rfl (by kernel_rfl) zr203 ⟨_, _, lfield_row_0, _, by kernel_rfl, (vs (by decide)), _, _, lfield_row_1, _, by kernel_rfl, (vk rfl), _, _, lfield_row_2, _, by kernel_rfl, (vk rfl), _, _, lfield_row_3, _, by kernel_rfl, vb, rfl⟩) rfl ?_
  refine AOps.cons (op_build (ps := [(0, .const (Value.string { data := #[105, 112, 118, 54, 95, 100, 115, 116] })), (1, .const (Value.int IntKind.i64 27)), (2, .const (Value.int IntKind.i64 128)), (3, .const (Value.bool true))]) (x := (⟨{ data := #[105, 112, 118, 54, 95, 100, 115, 116] }, 27, 128, true⟩ : field_row)) rfl rfl rfl (by kernel_rfl) zr203 ⟨_, _, lfield_row_0, _, by kernel_rfl, (vs (by decide)), _, _, lfield_row_1, _, by kernel_rfl, (vk rfl), _, _, lfield_row_2, _, by kernel_rfl, (vk rfl), _, _, lfield_row_3, _, by kernel_rfl, vb, rfl⟩) rfl ?_
  refine AOps.cons (op_build (ps := [(0, .const (Value.string { data := #[109, 112, 108, 115, 95, 108, 97, 98, 101, 108] })), (1, .const (Value.int IntKind.i64 34)), (2, .const (Value.int IntKind.i64 20)), (3, .const (Value.bool false))]) (x := (⟨{ data := #[109, 112, 108, 115, 95, 108, 97, 98, 101, 108] }, 34, 20, false⟩ : field_row)) rfl rfl rfl (by kernel_rfl) zr203 ⟨_, _, lfield_row_0, _, by kernel_rfl, (vs (by decide)), _, _, lfield_row_1, _, by kernel_rfl, (vk rfl), _, _, lfield_row_2, _, by kernel_rfl, (vk rfl), _, _, lfield_row_3, _, by kernel_rfl, vb, rfl⟩) rfl ?_
  refine AOps.cons (op_build (ps := [(0, .tmp 1), (1, .tmp 2), (2, .tmp 3), (3, .tmp 4), (4, .tmp 5), (5, .tmp 6), (6, .tmp 7), (7, .tmp 8), (8, .tmp 9), (9, .tmp 10), (10, .tmp 11), (11, .tmp 12), (12, .tmp 13), (13, .tmp 14), (14, .tmp 15), (15, .tmp 16), (16, .tmp 17), (17, .tmp 18), (18, .tmp 19), (19, .tmp 20), (20, .tmp 21), (21, .tmp 22), (22, .tmp 23), (23, .tmp 24)]) (x := (Vector.set (Vector.set (Vector.set (Vector.set (Vector.set (Vector.set (Vector.set (Vector.set (Vector.set (Vector.set (Vector.set (Vector.set (Vector.set (Vector.set (Vector.set (Vector.set (Vector.set (Vector.set (Vector.set (Vector.set (Vector.set (Vector.set (Vector.set (Vector.set (Vector.replicate 24 zfield_row) 0 (⟨{ data := #[105, 110, 95, 112, 111, 114, 116] }, 0, 32, false⟩ : field_row) (by decide)) 1 (⟨{ data := #[109, 101, 116, 97, 100, 97, 116, 97] }, 2, 64, true⟩ : field_row) (by decide)) 2 (⟨{ data := #[101, 116, 104, 95, 100, 115, 116] }, 3, 48, true⟩ : field_row) (by decide)) 3 (⟨{ data := #[101, 116, 104, 95, 115, 114, 99] }, 4, 48, true⟩ : field_row) (by decide)) 4 (⟨{ data := #[101, 116, 104, 95, 116, 121, 112, 101] }, 5, 16, false⟩ : field_row) (by decide)) 5 (⟨{ data := #[118, 108, 97, 110, 95, 118, 105, 100] }, 6, 13, true⟩ : field_row) (by decide)) 6 (⟨{ data := #[118, 108, 97, 110, 95, 112, 99, 112] }, 7, 3, false⟩ : field_row) (by decide)) 7 (⟨{ data := #[105, 112, 95, 100, 115, 99, 112] }, 8, 6, false⟩ : field_row) (by decide)) 8 (⟨{ data := #[105, 112, 95, 101, 99, 110] }, 9, 2, false⟩ : field_row) (by decide)) 9 (⟨{ data := #[105, 112, 95, 112, 114, 111, 116, 111] }, 10, 8, false⟩ : field_row) (by decide)) 10 (⟨{ data := #[105, 112, 118, 52, 95, 115, 114, 99] }, 11, 32, true⟩ : field_row) (by decide)) 11 (⟨{ data := #[105, 112, 118, 52, 95, 100, 115, 116] }, 12, 32, true⟩ : field_row) (by decide)) 12 (⟨{ data := #[116, 99, 112, 95, 115, 114, 99] }, 13, 16, false⟩ : field_row) (by decide)) 13 (⟨{ data := #[116, 99, 112, 95, 100, 115, 116] }, 14, 16, false⟩ : field_row) (by decide)) 14 (⟨{ data := #[117, 100, 112, 95, 115, 114, 99] }, 15, 16, false⟩ : field_row) (by decide)) 15 (⟨{ data := #[117, 100, 112, 95, 100, 115, 116] }, 16, 16, false⟩ : field_row) (by decide)) 16 (⟨{ data := #[105, 99, 109, 112, 118, 52, 95, 116, 121, 112, 101] }, 19, 8, false⟩ : field_row) (by decide)) 17 (⟨{ data := #[105, 99, 109, 112, 118, 52, 95, 99, 111, 100, 101] }, 20, 8, false⟩ : field_row) (by decide)) 18 (⟨{ data := #[97, 114, 112, 95, 111, 112] }, 21, 16, false⟩ : field_row) (by decide)) 19 (⟨{ data := #[97, 114, 112, 95, 115, 112, 97] }, 22, 32, true⟩ : field_row) (by decide)) 20 (⟨{ data := #[97, 114, 112, 95, 116, 112, 97] }, 23, 32, true⟩ : field_row) (by decide)) 21 (⟨{ data := #[105, 112, 118, 54, 95, 115, 114, 99] }, 26, 128, true⟩ : field_row) (by decide)) 22 (⟨{ data := #[105, 112, 118, 54, 95, 100, 115, 116] }, 27, 128, true⟩ : field_row) (by decide)) 23 (⟨{ data := #[109, 112, 108, 115, 95, 108, 97, 98, 101, 108] }, 34, 20, false⟩ : field_row) (by decide))) rfl rfl rfl (by kernel_rfl) zr205 ⟨_, _, Lens.idx 24 kfield_row 0 (by decide), _, by kernel_rfl, (vt rfl), _, _, Lens.idx 24 kfield_row 1 (by decide), _, by kernel_rfl, (vt rfl), _, _, Lens.idx 24 kfield_row 2 (by decide), _, by kernel_rfl, (vt rfl), _, _, Lens.idx 24 kfield_row 3 (by decide), _, by kernel_rfl, (vt rfl), _, _, Lens.idx 24 kfield_row 4 (by decide), _, by kernel_rfl, (vt rfl), _, _, Lens.idx 24 kfield_row 5 (by decide), _, by kernel_rfl, (vt rfl), _, _, Lens.idx 24 kfield_row 6 (by decide), _, by kernel_rfl, (vt rfl), _, _, Lens.idx 24 kfield_row 7 (by decide), _, by kernel_rfl, (vt rfl), _, _, Lens.idx 24 kfield_row 8 (by decide), _, by kernel_rfl, (vt rfl), _, _, Lens.idx 24 kfield_row 9 (by decide), _, by kernel_rfl, (vt rfl), _, _, Lens.idx 24 kfield_row 10 (by decide), _, by kernel_rfl, (vt rfl), _, _, Lens.idx 24 kfield_row 11 (by decide), _, by kernel_rfl, (vt rfl), _, _, Lens.idx 24 kfield_row 12 (by decide), _, by kernel_rfl, (vt rfl), _, _, Lens.idx 24 kfield_row 13 (by decide), _, by kernel_rfl, (vt rfl), _, _, Lens.idx 24 kfield_row 14 (by decide), _, by kernel_rfl, (vt rfl), _, _, Lens.idx 24 kfield_row 15 (by decide), _, by kernel_rfl, (vt rfl), _, _, Lens.idx 24 kfield_row 16 (by decide), _, by kernel_rfl, (vt rfl), _, _, Lens.idx 24 kfield_row 17 (by decide), _, by kernel_rfl, (vt rfl), _, _, Lens.idx 24 kfield_row 18 (by decide), _, by kernel_rfl, (vt rfl), _, _, Lens.idx 24 kfield_row 19 (by decide), _, by kernel_rfl, (vt rfl), _, _, Lens.idx 24 kfield_row 20 (by decide), _, by kernel_rfl, (vt rfl), _, _, Lens.idx 24 kfield_row 21 (by decide), _, by kernel_rfl, (vt rfl), _, _, Lens.idx 24 kfield_row 22 (by decide), _, by kernel_rfl, (vt rfl), _, _, Lens.idx 24 kfield_row 23 (by decide), _, by kernel_rfl, (vt rfl), rfl⟩) rfl ?_
  refine AOps.cons (op_store rfl rfl ty205 (vt rfl) (i := 1) rfl (vt rfl)) rfl ?_
  refine AOps.nil ?_
  refine AW.ret ?_
  obtain rfl := Option.some.inj h
  exact ret1 Try.results149 rfl (out_cell rfl (i := 1) rfl ty205)
def F_field_at (f1 : Int) : Option field_row :=
  (F_field_Right f1).bind fun x3 => (bif (!x3) then some (⟨(⟨#[]⟩ : ByteArray), (-1), 0, false⟩ : field_row) else (F_field_rows).bind fun x4 => (lget (Vector.toList x4) f1).bind fun e5 => some e5)
theorem c_field_at (f1 : Int) (r : field_row) (h : F_field_at f1 = some r) : PCon Try.prog 146 [rd (kint .i64) f1] (rd kfield_row r) := by
  refine PCon.of (Con.intro0 Try.func146 rfl Try.ntmps146 rfl fun w H => ?_)
  unfold F_field_at at h
  refine AW.seq ?_
  refine AW.region ?_
  refine AOps.consT rfl (op_alloc 3 rfl rfl zr203) ?_
  rintro _ ⟨g2, rfl⟩
  refine AOps.nil ?_
  refine AW.seq ?_
  refine AW.seq ?_
  obtain ⟨x3, hx3, h⟩ := bsome h
  refine AW.region ?_
  refine AOps.cons (op_move (A := rd (kint .i64) f1) rfl rfl (vt rfl)) rfl ?_
  refine AOps.cons (op_call (xs := [.tmp 3]) (c_field_Right _ _ hx3) (Ent.mk Try.func139 rfl rfl) rfl rfl ⟨vt rfl, trivial⟩) rfl ?_
  refine AOps.cons (op_not rfl rfl (vt rfl)) rfl ?_
  refine AOps.nil ?_
  refine AW.cond (vt rfl) (fun hc => ?_) (fun hc => ?_)
  · have h := cond_t hc h
    refine AW.seq ?_
    refine AW.region ?_
    refine AOps.cons (op_build (ps := [(1, .const (Value.int IntKind.i64 (-1)))]) (x := (⟨(⟨#[]⟩ : ByteArray), (-1), 0, false⟩ : field_row)) rfl rfl rfl (by kernel_rfl) zr203 ⟨_, _, lfield_row_1, _, by kernel_rfl, (vk rfl), rfl⟩) rfl ?_
    refine AOps.cons (op_store rfl rfl ty203 (vt rfl) (i := 3) rfl (vt rfl)) rfl ?_
    refine AOps.nil ?_
    refine AW.ret ?_
    obtain rfl := Option.some.inj h
    exact ret1 Try.results146 rfl (out_cell rfl (i := 3) rfl ty203)
  · have h := cond_f hc h
    refine AW.skip ?_
    refine AW.seq ?_
    obtain ⟨x4, hx4, h⟩ := bsome h
    obtain ⟨e5, he5, h⟩ := bsome h
    refine AW.region ?_
    refine AOps.cons (op_call (xs := []) (c_field_rows _ hx4) (Ent.mk Try.func149 rfl rfl) rfl rfl trivial) rfl ?_
    refine AOps.cons (op_move (A := rd (kint .i64) f1) rfl rfl (vt rfl)) rfl ?_
    refine AOps.cons (op_indexv rfl rfl ar205 ty203 (vt rfl) (vt rfl) he5) rfl ?_
    refine AOps.cons (op_store rfl rfl ty203 (vt rfl) (i := 3) rfl (vt rfl)) rfl ?_
    refine AOps.nil ?_
    refine AW.ret ?_
    obtain rfl := Option.some.inj h
    exact ret1 Try.results146 rfl (out_cell rfl (i := 3) rfl ty203)
def F_field_Bits (f1 : Int) : Option Int :=
  (F_field_at f1).bind fun x2 => some x2.bits
theorem c_field_Bits (f1 : Int) (r : Int) (h : F_field_Bits f1 = some r) : PCon Try.prog 140 [rd (kint .i64) f1] (rd (kint .i64) r) := by
  refine PCon.of (Con.intro0 Try.func140 rfl Try.ntmps140 rfl fun w H => ?_)
  unfold F_field_Bits at h
  refine AW.seq ?_
  refine AW.region ?_
  refine AOps.cons (op_assign (A := rd (kint .i64) 0) rfl rfl (vk rfl)) rfl ?_
  refine AOps.nil ?_
  refine AW.seq ?_
  obtain ⟨x2, hx2, h⟩ := bsome h
  refine AW.region ?_
  refine AOps.cons (op_move (A := rd (kint .i64) f1) rfl rfl (vt rfl)) rfl ?_
  refine AOps.cons (op_call (xs := [.tmp 3]) (c_field_at _ _ hx2) (Ent.mk Try.func146 rfl rfl) rfl rfl ⟨vt rfl, trivial⟩) rfl ?_
  refine AOps.cons (op_fieldv lfield_row_2 rfl rfl fl203_2 ft203_2 ty3 rfl (vt rfl)) rfl ?_
  refine AOps.cons (op_assign (A := rd (kint .i64) x2.bits) rfl rfl (vt rfl)) rfl ?_
  refine AOps.nil ?_
  refine AW.ret ?_
  obtain rfl := Option.some.inj h
  exact ret1 Try.results140 rfl (out_tmp rfl)
def F_wide_low (n1 : Int) : Option (BitVec 64) :=
  (bif (decide (n1 ≥ 64)) then some (18446744073709551615 : BitVec 64) else (oushl (1 : BitVec 64) (imax n1 0)).bind fun q2 => some (q2 - (1 : BitVec 64)))
theorem c_wide_low (n1 : Int) (r : (BitVec 64)) (h : F_wide_low n1 = some r) : PCon Try.prog 142 [rd (kint .i64) n1] (rd ku64 r) := by
  refine PCon.of (Con.intro0 Try.func142 rfl Try.ntmps142 rfl fun w H => ?_)
  unfold F_wide_low at h
  refine AW.seq ?_
  refine AW.region ?_
  refine AOps.cons (op_assign (A := rd ku64 (0 : BitVec 64)) rfl rfl (vku (0 : BitVec 64) rfl)) rfl ?_
  refine AOps.nil ?_
  refine AW.seq ?_
  refine AW.seq ?_
  refine AW.region ?_
  refine AOps.cons (op_move (A := rd (kint .i64) n1) rfl rfl (vt rfl)) rfl ?_
  refine AOps.cons (op_geq rfl rfl (vt rfl) (vk rfl)) rfl ?_
  refine AOps.nil ?_
  refine AW.cond (vt rfl) (fun hc => ?_) (fun hc => ?_)
  · have h := cond_t hc h
    refine AW.seq ?_
    refine AW.region ?_
    refine AOps.cons (op_assign (A := rd ku64 (18446744073709551615 : BitVec 64)) rfl rfl (vku (18446744073709551615 : BitVec 64) rfl)) rfl ?_
    refine AOps.nil ?_
    refine AW.ret ?_
    obtain rfl := Option.some.inj h
    exact ret1 Try.results142 rfl (out_tmp rfl)
  · have h := cond_f hc h
    refine AW.skip ?_
    refine AW.seq ?_
    obtain ⟨q2, hq2, h⟩ := bsome h
    refine AW.region ?_
    refine AOps.cons (op_move (A := rd (kint .i64) n1) rfl rfl (vt rfl)) rfl ?_
    refine AOps.cons (op_max rfl rfl (vt rfl) (vk rfl)) rfl ?_
    refine AOps.cons (op_ushl rfl rfl (vku (1 : BitVec 64) rfl) (vt rfl) hq2) rfl ?_
    refine AOps.cons (op_usub rfl rfl (vt rfl) (vku (1 : BitVec 64) rfl)) rfl ?_
    refine AOps.cons (op_assign (A := rd ku64 (q2 - (1 : BitVec 64))) rfl rfl (vt rfl)) rfl ?_
    refine AOps.nil ?_
    refine AW.ret ?_
    obtain rfl := Option.some.inj h
    exact ret1 Try.results142 rfl (out_tmp rfl)
end Go.Proofs.Ytknpgojdkobgjaa.W
set_option linter.unusedVariables false
set_option maxRecDepth 4000
set_option linter.unusedSimpArgs false
namespace Go.Proofs.Ytknpgojdkobgjaa.W
open Go Go.Wb
def F_wide_Low (n1 : Int) : Option Wide :=
  (F_wide_low (IntKind.i64.wrap ((imin (imax n1 0) 128) - 64))).bind fun x3 => (F_wide_low (imin (imax n1 0) 128)).bind fun x4 => some (⟨x3, x4⟩ : Wide)
theorem c_wide_Low (n1 : Int) (r : Wide) (h : F_wide_Low n1 = some r) : PCon Try.prog 133 [rd (kint .i64) n1] (rd kWide r) := by
  refine PCon.of (Con.intro0 Try.func133 rfl Try.ntmps133 rfl fun w H => ?_)
  unfold F_wide_Low at h
  refine AW.seq ?_
  refine AW.region ?_
  refine AOps.consT rfl (op_alloc 3 rfl rfl zr28) ?_
  rintro _ ⟨g2, rfl⟩
  refine AOps.nil ?_
  refine AW.seq ?_
  refine AW.region ?_
  refine AOps.cons (op_move (A := rd (kint .i64) n1) rfl rfl (vt rfl)) rfl ?_
  refine AOps.cons (op_max rfl rfl (vt rfl) (vk rfl)) rfl ?_
  refine AOps.cons (op_min rfl rfl (vt rfl) (vk rfl)) rfl ?_
  refine AOps.cons (op_assign (A := rd (kint .i64) (imin (imax n1 0) 128)) rfl rfl (vt rfl)) rfl ?_
  refine AOps.nil ?_
  refine AW.seq ?_
  obtain ⟨x3, hx3, h⟩ := bsome h
  obtain ⟨x4, hx4, h⟩ := bsome h
  refine AW.region ?_
  refine AOps.cons (op_move (A := rd (kint .i64) (imin (imax n1 0) 128)) rfl rfl (vt rfl)) rfl ?_
  refine AOps.cons (op_sub rfl rfl (vt rfl) (vk rfl)) rfl ?_
  refine AOps.cons (op_call (xs := [.tmp 7]) (c_wide_low _ _ hx3) (Ent.mk Try.func142 rfl rfl) rfl rfl ⟨vt rfl, trivial⟩) rfl ?_
  refine AOps.cons (op_move (A := rd (kint .i64) (imin (imax n1 0) 128)) rfl rfl (vt rfl)) rfl ?_
  refine AOps.cons (op_call (xs := [.tmp 9]) (c_wide_low _ _ hx4) (Ent.mk Try.func142 rfl rfl) rfl rfl ⟨vt rfl, trivial⟩) rfl ?_
  refine AOps.cons (op_build (ps := [(0, .tmp 8), (1, .tmp 10)]) (x := (⟨x3, x4⟩ : Wide)) rfl rfl rfl (by kernel_rfl) zr28 ⟨_, _, lWide_0, _, by kernel_rfl, (vt rfl), _, _, lWide_1, _, by kernel_rfl, (vt rfl), rfl⟩) rfl ?_
  refine AOps.cons (op_store rfl rfl ty28 (vt rfl) (i := 3) rfl (vt rfl)) rfl ?_
  refine AOps.nil ?_
  refine AW.ret ?_
  obtain rfl := Option.some.inj h
  exact ret1 Try.results133 rfl (out_cell rfl (i := 3) rfl ty28)
def F_oxm_Tern (o1 : Oxm) : Option Tern :=
  (F_field_Right o1.Field).bind fun x4 => (bif (!x4) then some (⟨zWide, zWide⟩ : Tern) else (bif o1.Masked then some (⟨o1.Value, o1.Mask⟩ : Tern) else (F_field_Bits o1.Field).bind fun x5 => (F_wide_Low x5).bind fun x6 => some (⟨o1.Value, x6⟩ : Tern)))
theorem c_oxm_Tern (o1 : Oxm) (r : Tern) (h : F_oxm_Tern o1 = some r) : PCon Try.prog 131 [rd kOxm o1] (rd kTern r) := by
  refine PCon.of (Con.intro0 Try.func131 rfl Try.ntmps131 rfl fun w H => ?_)
  unfold F_oxm_Tern at h
  refine AW.seq ?_
  refine AW.region ?_
  refine AOps.consT rfl (op_box 2 rfl rfl (vt rfl)) ?_
  rintro _ ⟨g2, rfl⟩
  refine AOps.consT rfl (op_alloc 3 rfl rfl zr49) ?_
  rintro _ ⟨g3, rfl⟩
  refine AOps.nil ?_
  refine AW.seq ?_
  refine AW.block ?_
  refine AW.seq ?_
  obtain ⟨x4, hx4, h⟩ := bsome h
  refine AW.region ?_
  refine AOps.cons (op_field lOxm_0 rfl rfl fl93_0 (vt rfl)) rfl ?_
  refine AOps.cons (op_load rfl rfl ty3 (vt rfl) (i := 2) rfl) rfl ?_
  refine AOps.cons (op_call (xs := [.tmp 5]) (c_field_Right _ _ hx4) (Ent.mk Try.func139 rfl rfl) rfl rfl ⟨vt rfl, trivial⟩) rfl ?_
  refine AOps.cons (op_not rfl rfl (vt rfl)) rfl ?_
  refine AOps.cons (op_assign (A := rd kbool (!x4)) rfl rfl (vt rfl)) rfl ?_
  refine AOps.nil ?_
  refine AW.cond (vt rfl) (fun hc => ?_) (fun hc => ?_)
  · have h := cond_t hc h
    refine AW.seq ?_
    refine AW.region ?_
    refine AOps.cons (op_build (ps := []) (x := (⟨zWide, zWide⟩ : Tern)) rfl rfl rfl (by kernel_rfl) zr49 rfl) rfl ?_
    refine AOps.cons (op_store rfl rfl ty49 (vt rfl) (i := 3) rfl (vt rfl)) rfl ?_
    refine AOps.nil ?_
    refine AW.ret ?_
    obtain rfl := Option.some.inj h
    exact ret1 Try.results131 rfl (out_cell rfl (i := 3) rfl ty49)
  · have h := cond_f hc h
    refine AW.seq ?_
    refine AW.region ?_
    refine AOps.cons (op_field lOxm_1 rfl rfl fl93_1 (vt rfl)) rfl ?_
    refine AOps.cons (op_load rfl rfl ty4 (vt rfl) (i := 2) rfl) rfl ?_
    refine AOps.cons (op_assign (A := rd kbool o1.Masked) rfl rfl (vt rfl)) rfl ?_
    refine AOps.nil ?_
    refine AW.cond (vt rfl) (fun hc => ?_) (fun hc => ?_)
    · have h := cond_t hc h
      refine AW.seq ?_
      refine AW.region ?_
      refine AOps.cons (op_field lOxm_2 rfl rfl fl93_2 (vt rfl)) rfl ?_
      refine AOps.cons (op_load rfl rfl ty28 (vt rfl) (i := 2) rfl) rfl ?_
      refine AOps.cons (op_field lOxm_3 rfl rfl fl93_3 (vt rfl)) rfl ?_
      refine AOps.cons (op_load rfl rfl ty28 (vt rfl) (i := 2) rfl) rfl ?_
      refine AOps.cons (op_build (ps := [(0, .tmp 13), (1, .tmp 15)]) (x := (⟨o1.Value, o1.Mask⟩ : Tern)) rfl rfl rfl (by kernel_rfl) zr49 ⟨_, _, lTern_0, _, by kernel_rfl, (vt rfl), _, _, lTern_1, _, by kernel_rfl, (vt rfl), rfl⟩) rfl ?_
      refine AOps.cons (op_store rfl rfl ty49 (vt rfl) (i := 3) rfl (vt rfl)) rfl ?_
      refine AOps.nil ?_
      refine AW.ret ?_
      obtain rfl := Option.some.inj h
      exact ret1 Try.results131 rfl (out_cell rfl (i := 3) rfl ty49)
    · have h := cond_f hc h
      refine AW.skip ?_
      refine AW.seq ?_
      obtain ⟨x5, hx5, h⟩ := bsome h
      obtain ⟨x6, hx6, h⟩ := bsome h
      refine AW.regionAny [⟨[1], [17], [], []⟩, ⟨[17], [18], [2], []⟩, ⟨[1], [19], [], []⟩, ⟨[19], [20], [2], []⟩, ⟨[20], [21], [], []⟩, ⟨[21], [22], [], []⟩, ⟨[18, 22], [23], [], []⟩, ⟨[2, 23], [], [3], [3]⟩] mixed (by kernel_rfl) ?_
      refine SeqA.cons (loc [1] [] rfl rfl fun S hs hr => op_field lOxm_2 rfl rfl fl93_2 (vt ((hs 1 rfl).trans rfl))) ⟨rfl, rfl, rfl, rfl⟩ ?_
      refine SeqA.cons (loc [17] [2] rfl rfl fun S hs hr => op_load rfl rfl ty28 (vt ((hs 17 rfl).trans rfl)) (i := 2) ((hr 2 rfl).trans rfl)) ⟨rfl, rfl, rfl, rfl⟩ ?_
      refine SeqA.cons (loc [1] [] rfl rfl fun S hs hr => op_field lOxm_0 rfl rfl fl93_0 (vt ((hs 1 rfl).trans rfl))) ⟨rfl, rfl, rfl, rfl⟩ ?_
      refine SeqA.cons (loc [19] [2] rfl rfl fun S hs hr => op_load rfl rfl ty3 (vt ((hs 19 rfl).trans rfl)) (i := 2) ((hr 2 rfl).trans rfl)) ⟨rfl, rfl, rfl, rfl⟩ ?_
      refine SeqA.cons (loc [20] [] rfl rfl fun S hs hr => op_call (xs := [.tmp 20]) (c_field_Bits _ _ hx5) (Ent.mk Try.func140 rfl rfl) rfl rfl ⟨vt ((hs 20 rfl).trans rfl), trivial⟩) ⟨rfl, rfl, rfl, rfl⟩ ?_
      refine SeqA.cons (loc [21] [] rfl rfl fun S hs hr => op_call (xs := [.tmp 21]) (c_wide_Low _ _ hx6) (Ent.mk Try.func133 rfl rfl) rfl rfl ⟨vt ((hs 21 rfl).trans rfl), trivial⟩) ⟨rfl, rfl, rfl, rfl⟩ ?_
      refine SeqA.cons (loc [18, 22] [] rfl rfl fun S hs hr => op_build (ps := [(0, .tmp 18), (1, .tmp 22)]) (x := (⟨o1.Value, x6⟩ : Tern)) rfl rfl rfl (by kernel_rfl) zr49 ⟨_, _, lTern_0, _, by kernel_rfl, (vt ((hs 18 rfl).trans rfl)), _, _, lTern_1, _, by kernel_rfl, (vt ((hs 22 rfl).trans rfl)), rfl⟩) ⟨rfl, rfl, rfl, rfl⟩ ?_
      refine SeqA.cons (locr [2, 23] [3] rfl fun S hs hr => op_store rfl rfl ty49 (vt ((hs 2 rfl).trans rfl)) (i := 3) ((hr 3 rfl).trans rfl) (vt ((hs 23 rfl).trans rfl))) ⟨rfl, rfl, rfl, rfl⟩ ?_
      refine AW.ret ?_
      obtain rfl := Option.some.inj h
      exact ret1 Try.results131 rfl (out_cell rfl (i := 3) rfl ty49)
def F_wide_Less (a1 : Wide) (b2 : Wide) : Option Wide :=
  some (⟨(a1.Hi &&& ~~~b2.Hi), (a1.Lo &&& ~~~b2.Lo)⟩ : Wide)
theorem c_wide_Less (a1 : Wide) (b2 : Wide) (r : Wide) (h : F_wide_Less a1 b2 = some r) : PCon Try.prog 83 [rd kWide a1, rd kWide b2] (rd kWide r) := by
  refine PCon.of (Con.intro0 Try.func83 rfl Try.ntmps83 rfl fun w H => ?_)
  unfold F_wide_Less at h
  refine AW.seq ?_
  refine AW.region ?_
  refine AOps.consT rfl (op_box 3 rfl rfl (vt rfl)) ?_
  rintro _ ⟨g3, rfl⟩
  refine AOps.consT rfl (op_box 4 rfl rfl (vt rfl)) ?_
  rintro _ ⟨g4, rfl⟩
  refine AOps.consT rfl (op_alloc 5 rfl rfl zr28) ?_
  rintro _ ⟨g5, rfl⟩
  refine AOps.nil ?_
  refine AW.seq ?_
  refine AW.region ?_
  refine AOps.cons (op_field lWide_0 rfl rfl fl28_0 (vt rfl)) rfl ?_
  refine AOps.cons (op_load rfl rfl ty26 (vt rfl) (i := 3) rfl) rfl ?_
  refine AOps.cons (op_field lWide_0 rfl rfl fl28_0 (vt rfl)) rfl ?_
  refine AOps.cons (op_load rfl rfl ty26 (vt rfl) (i := 4) rfl) rfl ?_
  refine AOps.cons (op_andNot rfl rfl (vt rfl) (vt rfl)) rfl ?_
  refine AOps.cons (op_field lWide_1 rfl rfl fl28_1 (vt rfl)) rfl ?_
  refine AOps.cons (op_load rfl rfl ty26 (vt rfl) (i := 3) rfl) rfl ?_
  refine AOps.cons (op_field lWide_1 rfl rfl fl28_1 (vt rfl)) rfl ?_
  refine AOps.cons (op_load rfl rfl ty26 (vt rfl) (i := 4) rfl) rfl ?_
  refine AOps.cons (op_andNot rfl rfl (vt rfl) (vt rfl)) rfl ?_
  refine AOps.cons (op_build (ps := [(0, .tmp 9), (1, .tmp 14)]) (x := (⟨(a1.Hi &&& ~~~b2.Hi), (a1.Lo &&& ~~~b2.Lo)⟩ : Wide)) rfl rfl rfl (by kernel_rfl) zr28 ⟨_, _, lWide_0, _, by kernel_rfl, (vt rfl), _, _, lWide_1, _, by kernel_rfl, (vt rfl), rfl⟩) rfl ?_
  refine AOps.cons (op_store rfl rfl ty28 (vt rfl) (i := 5) rfl (vt rfl)) rfl ?_
  refine AOps.nil ?_
  refine AW.ret ?_
  obtain rfl := Option.some.inj h
  exact ret1 Try.results83 rfl (out_cell rfl (i := 5) rfl ty28)
def F_wide_Or (a1 : Wide) (b2 : Wide) : Option Wide :=
  some (⟨(a1.Hi ||| b2.Hi), (a1.Lo ||| b2.Lo)⟩ : Wide)
theorem c_wide_Or (a1 : Wide) (b2 : Wide) (r : Wide) (h : F_wide_Or a1 b2 = some r) : PCon Try.prog 82 [rd kWide a1, rd kWide b2] (rd kWide r) := by
  refine PCon.of (Con.intro0 Try.func82 rfl Try.ntmps82 rfl fun w H => ?_)
  unfold F_wide_Or at h
  refine AW.seq ?_
  refine AW.region ?_
  refine AOps.consT rfl (op_box 3 rfl rfl (vt rfl)) ?_
  rintro _ ⟨g3, rfl⟩
  refine AOps.consT rfl (op_box 4 rfl rfl (vt rfl)) ?_
  rintro _ ⟨g4, rfl⟩
  refine AOps.consT rfl (op_alloc 5 rfl rfl zr28) ?_
  rintro _ ⟨g5, rfl⟩
  refine AOps.nil ?_
  refine AW.seq ?_
  refine AW.region ?_
  refine AOps.cons (op_field lWide_0 rfl rfl fl28_0 (vt rfl)) rfl ?_
  refine AOps.cons (op_load rfl rfl ty26 (vt rfl) (i := 3) rfl) rfl ?_
  refine AOps.cons (op_field lWide_0 rfl rfl fl28_0 (vt rfl)) rfl ?_
  refine AOps.cons (op_load rfl rfl ty26 (vt rfl) (i := 4) rfl) rfl ?_
  refine AOps.cons (op_or rfl rfl (vt rfl) (vt rfl)) rfl ?_
  refine AOps.cons (op_field lWide_1 rfl rfl fl28_1 (vt rfl)) rfl ?_
  refine AOps.cons (op_load rfl rfl ty26 (vt rfl) (i := 3) rfl) rfl ?_
  refine AOps.cons (op_field lWide_1 rfl rfl fl28_1 (vt rfl)) rfl ?_
  refine AOps.cons (op_load rfl rfl ty26 (vt rfl) (i := 4) rfl) rfl ?_
  refine AOps.cons (op_or rfl rfl (vt rfl) (vt rfl)) rfl ?_
  refine AOps.cons (op_build (ps := [(0, .tmp 9), (1, .tmp 14)]) (x := (⟨(a1.Hi ||| b2.Hi), (a1.Lo ||| b2.Lo)⟩ : Wide)) rfl rfl rfl (by kernel_rfl) zr28 ⟨_, _, lWide_0, _, by kernel_rfl, (vt rfl), _, _, lWide_1, _, by kernel_rfl, (vt rfl), rfl⟩) rfl ?_
  refine AOps.cons (op_store rfl rfl ty28 (vt rfl) (i := 5) rfl (vt rfl)) rfl ?_
  refine AOps.nil ?_
  refine AW.ret ?_
  obtain rfl := Option.some.inj h
  exact ret1 Try.results82 rfl (out_cell rfl (i := 5) rfl ty28)
def F_rewrite_over (a1 : Tern) (b2 : Tern) : Option Tern :=
  (F_tern_Clean a1).bind fun x6 => (F_tern_Clean b2).bind fun x7 => (F_wide_Less x6.Value x7.Mask).bind fun x8 => (F_wide_Or x8 x7.Value).bind fun x9 => (F_wide_Or x6.Mask x7.Mask).bind fun x10 => some (⟨x9, x10⟩ : Tern)
theorem c_rewrite_over (a1 : Tern) (b2 : Tern) (r : Tern) (h : F_rewrite_over a1 b2 = some r) : PCon Try.prog 141 [rd kTern a1, rd kTern b2] (rd kTern r) := by
  refine PCon.of (Con.intro0 Try.func141 rfl Try.ntmps141 rfl fun w H => ?_)
  unfold F_rewrite_over at h
  refine AW.seq ?_
  refine AW.region ?_
  refine AOps.consT rfl (op_box 3 rfl rfl (vt rfl)) ?_
  rintro _ ⟨g3, rfl⟩
  refine AOps.consT rfl (op_box 4 rfl rfl (vt rfl)) ?_
  rintro _ ⟨g4, rfl⟩
  refine AOps.consT rfl (op_alloc 5 rfl rfl zr49) ?_
  rintro _ ⟨g5, rfl⟩
  refine AOps.nil ?_
  refine AW.seq ?_
  obtain ⟨x6, hx6, h⟩ := bsome h
  obtain ⟨x7, hx7, h⟩ := bsome h
  refine AW.regionAny [⟨[2], [5], [3], []⟩, ⟨[5], [6], [], []⟩, ⟨[3], [7], [4], []⟩, ⟨[7], [8], [], []⟩, ⟨[2, 6], [], [3], [3]⟩, ⟨[3, 8], [], [4], [4]⟩] mixed (by kernel_rfl) ?_
  refine SeqA.cons (loc [2] [3] rfl rfl fun S hs hr => op_load rfl rfl ty49 (vt ((hs 2 rfl).trans rfl)) (i := 3) ((hr 3 rfl).trans rfl)) ⟨rfl, rfl, rfl, rfl⟩ ?_
  refine SeqA.cons (loc [5] [] rfl rfl fun S hs hr => op_call (xs := [.tmp 5]) (c_tern_Clean _ _ hx6) (Ent.mk Try.func122 rfl rfl) rfl rfl ⟨vt ((hs 5 rfl).trans rfl), trivial⟩) ⟨rfl, rfl, rfl, rfl⟩ ?_
  refine SeqA.cons (loc [3] [4] rfl rfl fun S hs hr => op_load rfl rfl ty49 (vt ((hs 3 rfl).trans rfl)) (i := 4) ((hr 4 rfl).trans rfl)) ⟨rfl, rfl, rfl, rfl⟩ ?_
  refine SeqA.cons (loc [7] [] rfl rfl fun S hs hr => op_call (xs := [.tmp 7]) (c_tern_Clean _ _ hx7) (Ent.mk Try.func122 rfl rfl) rfl rfl ⟨vt ((hs 7 rfl).trans rfl), trivial⟩) ⟨rfl, rfl, rfl, rfl⟩ ?_
  refine SeqA.cons (locr [2, 6] [3] rfl fun S hs hr => op_store rfl rfl ty49 (vt ((hs 2 rfl).trans rfl)) (i := 3) ((hr 3 rfl).trans rfl) (vt ((hs 6 rfl).trans rfl))) ⟨rfl, rfl, rfl, rfl⟩ ?_
  refine SeqA.cons (locr [3, 8] [4] rfl fun S hs hr => op_store rfl rfl ty49 (vt ((hs 3 rfl).trans rfl)) (i := 4) ((hr 4 rfl).trans rfl) (vt ((hs 8 rfl).trans rfl))) ⟨rfl, rfl, rfl, rfl⟩ ?_
  refine AW.seq ?_
  obtain ⟨x8, hx8, h⟩ := bsome h
  obtain ⟨x9, hx9, h⟩ := bsome h
  obtain ⟨x10, hx10, h⟩ := bsome h
  refine AW.regionAny [⟨[2], [9], [], []⟩, ⟨[9], [10], [3], []⟩, ⟨[3], [11], [], []⟩, ⟨[11], [12], [4], []⟩, ⟨[10, 12], [13], [], []⟩, ⟨[3], [14], [], []⟩, ⟨[14], [15], [4], []⟩, ⟨[13, 15], [16], [], []⟩, ⟨[2], [17], [], []⟩, ⟨[17], [18], [3], []⟩, ⟨[3], [19], [], []⟩, ⟨[19], [20], [4], []⟩, ⟨[18, 20], [21], [], []⟩, ⟨[16, 21], [22], [], []⟩, ⟨[4, 22], [], [5], [5]⟩] mixed (by kernel_rfl) ?_
  refine SeqA.cons (loc [2] [] rfl rfl fun S hs hr => op_field lTern_0 rfl rfl fl49_0 (vt ((hs 2 rfl).trans rfl))) ⟨rfl, rfl, rfl, rfl⟩ ?_
  refine SeqA.cons (loc [9] [3] rfl rfl fun S hs hr => op_load rfl rfl ty28 (vt ((hs 9 rfl).trans rfl)) (i := 3) ((hr 3 rfl).trans rfl)) ⟨rfl, rfl, rfl, rfl⟩ ?_
  refine SeqA.cons (loc [3] [] rfl rfl fun S hs hr => op_field lTern_1 rfl rfl fl49_1 (vt ((hs 3 rfl).trans rfl))) ⟨rfl, rfl, rfl, rfl⟩ ?_
  refine SeqA.cons (loc [11] [4] rfl rfl fun S hs hr => op_load rfl rfl ty28 (vt ((hs 11 rfl).trans rfl)) (i := 4) ((hr 4 rfl).trans rfl)) ⟨rfl, rfl, rfl, rfl⟩ ?_
  refine SeqA.cons (loc [10, 12] [] rfl rfl fun S hs hr => op_call (xs := [.tmp 10, .tmp 12]) (c_wide_Less _ _ _ hx8) (Ent.mk Try.func83 rfl rfl) rfl rfl ⟨vt ((hs 10 rfl).trans rfl), vt ((hs 12 rfl).trans rfl), trivial⟩) ⟨rfl, rfl, rfl, rfl⟩ ?_
  refine SeqA.cons (loc [3] [] rfl rfl fun S hs hr => op_field lTern_0 rfl rfl fl49_0 (vt ((hs 3 rfl).trans rfl))) ⟨rfl, rfl, rfl, rfl⟩ ?_
  refine SeqA.cons (loc [14] [4] rfl rfl fun S hs hr => op_load rfl rfl ty28 (vt ((hs 14 rfl).trans rfl)) (i := 4) ((hr 4 rfl).trans rfl)) ⟨rfl, rfl, rfl, rfl⟩ ?_
  refine SeqA.cons (loc [13, 15] [] rfl rfl fun S hs hr => op_call (xs := [.tmp 13, .tmp 15]) (c_wide_Or _ _ _ hx9) (Ent.mk Try.func82 rfl rfl) rfl rfl ⟨vt ((hs 13 rfl).trans rfl), vt ((hs 15 rfl).trans rfl), trivial⟩) ⟨rfl, rfl, rfl, rfl⟩ ?_
  refine SeqA.cons (loc [2] [] rfl rfl fun S hs hr => op_field lTern_1 rfl rfl fl49_1 (vt ((hs 2 rfl).trans rfl))) ⟨rfl, rfl, rfl, rfl⟩ ?_
  refine SeqA.cons (loc [17] [3] rfl rfl fun S hs hr => op_load rfl rfl ty28 (vt ((hs 17 rfl).trans rfl)) (i := 3) ((hr 3 rfl).trans rfl)) ⟨rfl, rfl, rfl, rfl⟩ ?_
  refine SeqA.cons (loc [3] [] rfl rfl fun S hs hr => op_field lTern_1 rfl rfl fl49_1 (vt ((hs 3 rfl).trans rfl))) ⟨rfl, rfl, rfl, rfl⟩ ?_
  refine SeqA.cons (loc [19] [4] rfl rfl fun S hs hr => op_load rfl rfl ty28 (vt ((hs 19 rfl).trans rfl)) (i := 4) ((hr 4 rfl).trans rfl)) ⟨rfl, rfl, rfl, rfl⟩ ?_
  refine SeqA.cons (loc [18, 20] [] rfl rfl fun S hs hr => op_call (xs := [.tmp 18, .tmp 20]) (c_wide_Or _ _ _ hx10) (Ent.mk Try.func82 rfl rfl) rfl rfl ⟨vt ((hs 18 rfl).trans rfl), vt ((hs 20 rfl).trans rfl), trivial⟩) ⟨rfl, rfl, rfl, rfl⟩ ?_
  refine SeqA.cons (loc [16, 21] [] rfl rfl fun S hs hr => op_build (ps := [(0, .tmp 16), (1, .tmp 21)]) (x := (⟨x9, x10⟩ : Tern)) rfl rfl rfl (by kernel_rfl) zr49 ⟨_, _, lTern_0, _, by kernel_rfl, (vt ((hs 16 rfl).trans rfl)), _, _, lTern_1, _, by kernel_rfl, (vt ((hs 21 rfl).trans rfl)), rfl⟩) ⟨rfl, rfl, rfl, rfl⟩ ?_
  refine SeqA.cons (locr [4, 22] [5] rfl fun S hs hr => op_store rfl rfl ty49 (vt ((hs 4 rfl).trans rfl)) (i := 5) ((hr 5 rfl).trans rfl) (vt ((hs 22 rfl).trans rfl))) ⟨rfl, rfl, rfl, rfl⟩ ?_
  refine AW.ret ?_
  obtain rfl := Option.some.inj h
  exact ret1 Try.results141 rfl (out_cell rfl (i := 5) rfl ty49)
def F_rewrite_Set (r1 : (Vector Tern 24)) (f2 : Int) (value3 : Wide) (mask4 : Wide) : Option (Vector Tern 24) :=
  (F_rewrite_Clean r1).bind fun x9 => (F_field_Right f2).bind fun x10 => (bif x10 then (chk 24 f2).bind fun j11 => (F_rewrite_over (Vector.get x9 j11) (⟨value3, mask4⟩ : Tern)).bind fun x12 => (chk 24 f2).bind fun j13 => some (Vector.set x9 j13.1 x12 j13.2) else some x9)
theorem c_rewrite_Set (r1 : (Vector Tern 24)) (f2 : Int) (value3 : Wide) (mask4 : Wide) (r : (Vector Tern 24)) (h : F_rewrite_Set r1 f2 value3 mask4 = some r) : PCon Try.prog 132 [rd (karr 24 kTern) r1, rd (kint .i64) f2, rd kWide value3, rd kWide mask4] (rd (karr 24 kTern) r) := by
  refine PCon.of (Con.intro0 Try.func132 rfl Try.ntmps132 rfl fun w H => ?_)
  unfold F_rewrite_Set at h
  refine AW.seq ?_
  refine AW.region ?_
  refine AOps.consT rfl (op_box 5 rfl rfl (vt rfl)) ?_
  rintro _ ⟨g5, rfl⟩
  refine AOps.consT rfl (op_box 7 rfl rfl (vt rfl)) ?_
  rintro _ ⟨g6, rfl⟩
  refine AOps.consT rfl (op_box 8 rfl rfl (vt rfl)) ?_
  rintro _ ⟨g7, rfl⟩
  refine AOps.consT rfl (op_alloc 9 rfl rfl zr51) ?_
  rintro _ ⟨g8, rfl⟩
  refine AOps.nil ?_
  refine AW.seq ?_
  obtain ⟨x9, hx9, h⟩ := bsome h
  refine AW.region ?_
  refine AOps.cons (op_load rfl rfl ty51 (vt rfl) (i := 5) rfl) rfl ?_
  refine AOps.cons (op_call (xs := [.tmp 9]) (c_rewrite_Clean _ _ hx9) (Ent.mk Try.func81 rfl rfl) rfl rfl ⟨vt rfl, trivial⟩) rfl ?_
  refine AOps.cons (op_store rfl rfl ty51 (vt rfl) (i := 5) rfl (vt rfl)) rfl ?_
  refine AOps.nil ?_
  refine AW.seq ?_
  refine AW.seq ?_
  obtain ⟨x10, hx10, h⟩ := bsome h
  refine AW.region ?_
  refine AOps.cons (op_move (A := rd (kint .i64) f2) rfl rfl (vt rfl)) rfl ?_
  refine AOps.cons (op_call (xs := [.tmp 11]) (c_field_Right _ _ hx10) (Ent.mk Try.func139 rfl rfl) rfl rfl ⟨vt rfl, trivial⟩) rfl ?_
  refine AOps.nil ?_
  refine AW.cond (vt rfl) (fun hc => ?_) (fun hc => ?_)
  · have h := cond_t hc h
    obtain ⟨j11, hj11, h⟩ := bsome h
    obtain ⟨x12, hx12, h⟩ := bsome h
    obtain ⟨j13, hj13, h⟩ := bsome h
    refine AW.regionAny [⟨[1], [13], [], []⟩, ⟨[1], [14], [], []⟩, ⟨[4, 14], [15], [], []⟩, ⟨[15], [16], [5], []⟩, ⟨[6], [17], [7], []⟩, ⟨[7], [18], [8], []⟩, ⟨[17, 18], [19], [], []⟩, ⟨[16, 19], [20], [], []⟩, ⟨[4, 13], [21], [], []⟩, ⟨[21, 20], [], [5], [5]⟩] mixed (by kernel_rfl) ?_
    refine SeqA.cons (loc [1] [] rfl rfl fun S hs hr => op_move (A := rd (kint .i64) f2) rfl rfl (vt ((hs 1 rfl).trans rfl))) ⟨rfl, rfl, rfl, rfl⟩ ?_
    refine SeqA.cons (loc [1] [] rfl rfl fun S hs hr => op_move (A := rd (kint .i64) f2) rfl rfl (vt ((hs 1 rfl).trans rfl))) ⟨rfl, rfl, rfl, rfl⟩ ?_
    refine SeqA.cons (loc [4, 14] [] rfl rfl fun S hs hr => op_index' rfl rfl ar51 (vt ((hs 4 rfl).trans rfl)) (vt ((hs 14 rfl).trans rfl)) hj11) ⟨rfl, rfl, rfl, rfl⟩ ?_
    refine SeqA.cons (loc [15] [5] rfl rfl fun S hs hr => op_load rfl rfl ty49 (vt ((hs 15 rfl).trans rfl)) (i := 5) ((hr 5 rfl).trans rfl)) ⟨rfl, rfl, rfl, rfl⟩ ?_
    refine SeqA.cons (loc [6] [7] rfl rfl fun S hs hr => op_load rfl rfl ty28 (vt ((hs 6 rfl).trans rfl)) (i := 7) ((hr 7 rfl).trans rfl)) ⟨rfl, rfl, rfl, rfl⟩ ?_
    refine SeqA.cons (loc [7] [8] rfl rfl fun S hs hr => op_load rfl rfl ty28 (vt ((hs 7 rfl).trans rfl)) (i := 8) ((hr 8 rfl).trans rfl)) ⟨rfl, rfl, rfl, rfl⟩ ?_
    refine SeqA.cons (loc [17, 18] [] rfl rfl fun S hs hr => op_build (ps := [(0, .tmp 17), (1, .tmp 18)]) (x := (⟨value3, mask4⟩ : Tern)) rfl rfl rfl (by kernel_rfl) zr49 ⟨_, _, lTern_0, _, by kernel_rfl, (vt ((hs 17 rfl).trans rfl)), _, _, lTern_1, _, by kernel_rfl, (vt ((hs 18 rfl).trans rfl)), rfl⟩) ⟨rfl, rfl, rfl, rfl⟩ ?_
    refine SeqA.cons (loc [16, 19] [] rfl rfl fun S hs hr => op_call (xs := [.tmp 16, .tmp 19]) (c_rewrite_over _ _ _ hx12) (Ent.mk Try.func141 rfl rfl) rfl rfl ⟨vt ((hs 16 rfl).trans rfl), vt ((hs 19 rfl).trans rfl), trivial⟩) ⟨rfl, rfl, rfl, rfl⟩ ?_
    refine SeqA.cons (loc [4, 13] [] rfl rfl fun S hs hr => op_index' rfl rfl ar51 (vt ((hs 4 rfl).trans rfl)) (vt ((hs 13 rfl).trans rfl)) hj13) ⟨rfl, rfl, rfl, rfl⟩ ?_
    refine SeqA.cons (locr [21, 20] [5] rfl fun S hs hr => op_store rfl rfl ty49 (vt ((hs 21 rfl).trans rfl)) (i := 5) ((hr 5 rfl).trans rfl) (vt ((hs 20 rfl).trans rfl))) ⟨rfl, rfl, rfl, rfl⟩ ?_
    refine AW.seq ?_
    refine AW.region ?_
    refine AOps.cons (op_load rfl rfl ty51 (vt rfl) (i := 5) rfl) rfl ?_
    refine AOps.cons (op_store rfl rfl ty51 (vt rfl) (i := 9) rfl (vt rfl)) rfl ?_
    refine AOps.nil ?_
    refine AW.ret ?_
    obtain rfl := Option.some.inj h
    exact ret1 Try.results132 rfl (out_cell rfl (i := 9) rfl ty51)
  · have h := cond_f hc h
    refine AW.skip ?_
    refine AW.seq ?_
    refine AW.region ?_
    refine AOps.cons (op_load rfl rfl ty51 (vt rfl) (i := 5) rfl) rfl ?_
    refine AOps.cons (op_store rfl rfl ty51 (vt rfl) (i := 9) rfl (vt rfl)) rfl ?_
    refine AOps.nil ?_
    refine AW.ret ?_
    obtain rfl := Option.some.inj h
    exact ret1 Try.results132 rfl (out_cell rfl (i := 9) rfl ty51)
def F_wide_Bit (i1 : Int) : Option Wide :=
  (bif ((decide (i1 < 0)) || (decide (i1 > 127))) then some (⟨0, 0⟩ : Wide) else (oquo .i64 i1 64).bind fun q4 => (omod i1 64).bind fun q5 => (oushl (1 : BitVec 64) q5).bind fun q6 => (chk 2 q4).bind fun j7 => some (⟨(Vector.get (Vector.set (Vector.replicate 2 0) j7.1 q6 j7.2) (⟨1, by decide⟩ : _root_.Fin 2)), (Vector.get (Vector.set (Vector.replicate 2 0) j7.1 q6 j7.2) (⟨0, by decide⟩ : _root_.Fin 2))⟩ : Wide))
theorem c_wide_Bit (i1 : Int) (r : Wide) (h : F_wide_Bit i1 = some r) : PCon Try.prog 96 [rd (kint .i64) i1] (rd kWide r) := by
  refine PCon.of (Con.intro0 Try.func96 rfl Try.ntmps96 rfl fun w H => ?_)
  unfold F_wide_Bit at h
  refine AW.seq ?_
  refine AW.region ?_
  refine AOps.consT rfl (op_alloc 3 rfl rfl zr28) ?_
  rintro _ ⟨g2, rfl⟩
  refine AOps.nil ?_
  refine AW.seq ?_
  refine AW.region ?_
  refine AOps.consT rfl (op_alloc 4 rfl rfl zr184) ?_
  rintro _ ⟨g3, rfl⟩
  refine AOps.nil ?_
  refine AW.seq ?_
  refine AW.seq ?_
  refine AW.region ?_
  refine AOps.cons (op_move (A := rd (kint .i64) i1) rfl rfl (vt rfl)) rfl ?_
  refine AOps.cons (op_lss rfl rfl (vt rfl) (vk rfl)) rfl ?_
  refine AOps.cons (op_move (A := rd kbool (decide (i1 < 0))) rfl rfl (vt rfl)) rfl ?_
  refine AOps.consG (OpG.guard rfl rfl rfl rfl rfl fun hq => op_move (A := rd (kint .i64) i1) rfl rfl (vt rfl)) ?_
  refine AOps.consG (OpG.guard rfl rfl rfl rfl rfl fun hq => op_gtr rfl rfl (vgt rfl hq) (vk rfl)) ?_
  refine AOps.cons (op_any rfl rfl (vt rfl) (vt rfl)) rfl ?_
  refine AOps.nil ?_
  refine AW.cond (vt rfl) (fun hc => ?_) (fun hc => ?_)
  · have h := cond_t hc h
    refine AW.seq ?_
    refine AW.region ?_
    refine AOps.cons (op_build (ps := []) (x := (⟨0, 0⟩ : Wide)) rfl rfl rfl (by kernel_rfl) zr28 rfl) rfl ?_
    refine AOps.cons (op_store rfl rfl ty28 (vt rfl) (i := 3) rfl (vt rfl)) rfl ?_
    refine AOps.nil ?_
    refine AW.ret ?_
    obtain rfl := Option.some.inj h
    exact ret1 Try.results96 rfl (out_cell rfl (i := 3) rfl ty28)
  · have h := cond_f hc h
    refine AW.skip ?_
    refine AW.seq ?_
    obtain ⟨q4, hq4, h⟩ := bsome h
    obtain ⟨q5, hq5, h⟩ := bsome h
    obtain ⟨q6, hq6, h⟩ := bsome h
    obtain ⟨j7, hj7, h⟩ := bsome h
    refine AW.region ?_
    refine AOps.cons (op_move (A := rd (kint .i64) i1) rfl rfl (vt rfl)) rfl ?_
    refine AOps.cons (op_quo rfl rfl (vt rfl) (vk rfl) hq4) rfl ?_
    refine AOps.cons (op_move (A := rd (kint .i64) i1) rfl rfl (vt rfl)) rfl ?_
    refine AOps.cons (op_rem rfl rfl (vt rfl) (vk rfl) hq5) rfl ?_
    refine AOps.cons (op_ushl rfl rfl (vku (1 : BitVec 64) rfl) (vt rfl) hq6) rfl ?_
    refine AOps.cons (op_index' rfl rfl ar184 (vt rfl) (vt rfl) hj7) rfl ?_
    refine AOps.cons (op_store rfl rfl ty26 (vt rfl) (i := 4) rfl (vt rfl)) rfl ?_
    refine AOps.nil ?_
    refine AW.seq ?_
    refine AW.region ?_
    refine AOps.cons (op_index' rfl rfl ar184 (vt rfl) (vk rfl) rfl) rfl ?_
    refine AOps.cons (op_load rfl rfl ty26 (vt rfl) (i := 4) rfl) rfl ?_
    refine AOps.cons (op_index' rfl rfl ar184 (vt rfl) (vk rfl) rfl) rfl ?_
    refine AOps.cons (op_load rfl rfl ty26 (vt rfl) (i := 4) rfl) rfl ?_
    refine AOps.cons (op_build (ps := [(0, .tmp 18), (1, .tmp 20)]) (x := (⟨(Vector.get (Vector.set (Vector.replicate 2 0) j7.1 q6 j7.2) (⟨1, by decide⟩ : _root_.Fin 2)), (Vector.get (Vector.set (Vector.replicate 2 0) j7.1 q6 j7.2) (⟨0, by decide⟩ : _root_.Fin 2))⟩ : Wide)) rfl rfl rfl (by kernel_rfl) zr28 ⟨_, _, lWide_0, _, by kernel_rfl, (vt rfl), _, _, lWide_1, _, by kernel_rfl, (vt rfl), rfl⟩) rfl ?_
    refine AOps.cons (op_store rfl rfl ty28 (vt rfl) (i := 3) rfl (vt rfl)) rfl ?_
    refine AOps.nil ?_
    refine AW.ret ?_
    obtain rfl := Option.some.inj h
    exact ret1 Try.results96 rfl (out_cell rfl (i := 3) rfl ty28)
def F_aset_Rewrite (a1 : Action) : Option (Vector Tern 24) :=
  (F_rewrite_None).bind fun x4 => (bif (decide (a1.Kind = 25)) then (F_oxm_Tern a1.Oxm).bind fun x6 => (F_rewrite_Set x4 a1.Oxm.Field x6.Value x6.Mask).bind fun x8 => some x8 else (bif (decide (a1.Kind = 17)) then (F_wide_Bit 12).bind fun x9 => (F_wide_Bit 12).bind fun x10 => (F_rewrite_Set x4 5 x9 x10).bind fun x11 => some x11 else (bif (decide (a1.Kind = 18)) then (F_wide_Low 13).bind fun x12 => (F_rewrite_Set x4 5 (⟨0, 0⟩ : Wide) x12).bind fun x13 => (F_wide_Low 3).bind fun x14 => (F_rewrite_Set x13 6 (⟨0, 0⟩ : Wide) x14).bind fun x15 => some x15 else some x4)))
theorem c_aset_Rewrite (a1 : Action) (r : (Vector Tern 24)) (h : F_aset_Rewrite a1 = some r) : PCon Try.prog 107 [rd kAction a1] (rd (karr 24 kTern) r) := by
  refine PCon.of (Con.intro0 Try.func107 rfl Try.ntmps107 rfl fun w H => ?_)
  unfold F_aset_Rewrite at h
  refine AW.seq ?_
  refine AW.region ?_
  refine AOps.consT rfl (op_box 2 rfl rfl (vt rfl)) ?_
  rintro _ ⟨g2, rfl⟩
  refine AOps.consT rfl (op_alloc 3 rfl rfl zr51) ?_
  rintro _ ⟨g3, rfl⟩
  refine AOps.nil ?_
  refine AW.seq ?_
  obtain ⟨x4, hx4, h⟩ := bsome h
  refine AW.region ?_
  refine AOps.cons (op_call (xs := []) (c_rewrite_None _ hx4) (Ent.mk Try.func46 rfl rfl) rfl rfl trivial) rfl ?_
  refine AOps.consT rfl (op_alloc 4 rfl rfl zr51) ?_
  rintro _ ⟨g5, rfl⟩
  refine AOps.cons (op_store rfl rfl ty51 (vt rfl) (i := 4) rfl (vt rfl)) rfl ?_
  refine AOps.nil ?_
  refine AW.seq ?_
  refine AW.seq ?_
  refine AW.region ?_
  refine AOps.cons (op_field lAction_0 rfl rfl fl95_0 (vt rfl)) rfl ?_
  refine AOps.cons (op_load rfl rfl ty3 (vt rfl) (i := 2) rfl) rfl ?_
  refine AOps.nil ?_
  refine AW.block ?_
  refine AW.seq ?_
  refine AW.region ?_
  refine AOps.cons (op_eql rfl rfl (vt rfl) (vk rfl)) rfl ?_
  refine AOps.cons (op_assign (A := rd kbool (decide (a1.Kind = 25))) rfl rfl (vt rfl)) rfl ?_
  refine AOps.nil ?_
  refine AW.cond (vt rfl) (fun hc => ?_) (fun hc => ?_)
  · have h := cond_t hc h
    refine AW.seq ?_
    obtain ⟨x6, hx6, h⟩ := bsome h
    refine AW.region ?_
    refine AOps.cons (op_field lAction_5 rfl rfl fl95_5 (vt rfl)) rfl ?_
    refine AOps.cons (op_load rfl rfl ty93 (vt rfl) (i := 2) rfl) rfl ?_
    refine AOps.cons (op_call (xs := [.tmp 11]) (c_oxm_Tern _ _ hx6) (Ent.mk Try.func131 rfl rfl) rfl rfl ⟨vt rfl, trivial⟩) rfl ?_
    refine AOps.consT rfl (op_alloc 5 rfl rfl zr49) ?_
    rintro _ ⟨g7, rfl⟩
    refine AOps.cons (op_store rfl rfl ty49 (vt rfl) (i := 5) rfl (vt rfl)) rfl ?_
    refine AOps.nil ?_
    obtain ⟨x8, hx8, h⟩ := bsome h
    refine AW.region ?_
    refine AOps.cons (op_load rfl rfl ty51 (vt rfl) (i := 4) rfl) rfl ?_
    refine AOps.cons (op_field lAction_5 rfl rfl fl95_5 (vt rfl)) rfl ?_
    refine AOps.cons (op_field lOxm_0 rfl rfl fl93_0 (vt rfl)) rfl ?_
    refine AOps.cons (op_load rfl rfl ty3 (vt rfl) (i := 2) rfl) rfl ?_
    refine AOps.cons (op_field lTern_0 rfl rfl fl49_0 (vt rfl)) rfl ?_
    refine AOps.cons (op_load rfl rfl ty28 (vt rfl) (i := 5) rfl) rfl ?_
    refine AOps.cons (op_field lTern_1 rfl rfl fl49_1 (vt rfl)) rfl ?_
    refine AOps.cons (op_load rfl rfl ty28 (vt rfl) (i := 5) rfl) rfl ?_
    refine AOps.cons (op_call (xs := [.tmp 13, .tmp 16, .tmp 18, .tmp 20]) (c_rewrite_Set _ _ _ _ _ hx8) (Ent.mk Try.func132 rfl rfl) rfl rfl ⟨vt rfl, vt rfl, vt rfl, vt rfl, trivial⟩) rfl ?_
    refine AOps.cons (op_store rfl rfl ty51 (vt rfl) (i := 4) rfl (vt rfl)) rfl ?_
    refine AOps.nil ?_
    refine AW.seq ?_
    refine AW.region ?_
    refine AOps.cons (op_load rfl rfl ty51 (vt rfl) (i := 4) rfl) rfl ?_
    refine AOps.cons (op_store rfl rfl ty51 (vt rfl) (i := 3) rfl (vt rfl)) rfl ?_
    refine AOps.nil ?_
    refine AW.ret ?_
    obtain rfl := Option.some.inj h
    exact ret1 Try.results107 rfl (out_cell rfl (i := 3) rfl ty51)
  · have h := cond_f hc h
    refine AW.seq ?_
    refine AW.region ?_
    refine AOps.cons (op_eql rfl rfl (vt rfl) (vk rfl)) rfl ?_
    refine AOps.cons (op_assign (A := rd kbool (decide (a1.Kind = 17))) rfl rfl (vt rfl)) rfl ?_
    refine AOps.nil ?_
    refine AW.cond (vt rfl) (fun hc => ?_) (fun hc => ?_)
    · have h := cond_t hc h
      obtain ⟨x9, hx9, h⟩ := bsome h
      obtain ⟨x10, hx10, h⟩ := bsome h
      obtain ⟨x11, hx11, h⟩ := bsome h
      refine AW.regionAny [⟨[3], [24], [4], []⟩, ⟨[], [25], [], []⟩, ⟨[], [26], [], []⟩, ⟨[24, 25, 26], [27], [], []⟩, ⟨[3, 27], [], [4], [4]⟩] mixed (by kernel_rfl) ?_
      refine SeqA.cons (loc [3] [4] rfl rfl fun S hs hr => op_load rfl rfl ty51 (vt ((hs 3 rfl).trans rfl)) (i := 4) ((hr 4 rfl).trans rfl)) ⟨rfl, rfl, rfl, rfl⟩ ?_
      refine SeqA.cons (loc [] [] rfl rfl fun S hs hr => op_call (xs := [.const (Value.int IntKind.i64 12)]) (c_wide_Bit _ _ hx9) (Ent.mk Try.func96 rfl rfl) rfl rfl ⟨vk rfl, trivial⟩) ⟨rfl, rfl, rfl, rfl⟩ ?_
      refine SeqA.cons (loc [] [] rfl rfl fun S hs hr => op_call (xs := [.const (Value.int IntKind.i64 12)]) (c_wide_Bit _ _ hx10) (Ent.mk Try.func96 rfl rfl) rfl rfl ⟨vk rfl, trivial⟩) ⟨rfl, rfl, rfl, rfl⟩ ?_
      refine SeqA.cons (loc [24, 25, 26] [] rfl rfl fun S hs hr => op_call (xs := [.tmp 24, .const (Value.int IntKind.i64 5), .tmp 25, .tmp 26]) (c_rewrite_Set _ _ _ _ _ hx11) (Ent.mk Try.func132 rfl rfl) rfl rfl ⟨vt ((hs 24 rfl).trans rfl), vk rfl, vt ((hs 25 rfl).trans rfl), vt ((hs 26 rfl).trans rfl), trivial⟩) ⟨rfl, rfl, rfl, rfl⟩ ?_
      refine SeqA.cons (locr [3, 27] [4] rfl fun S hs hr => op_store rfl rfl ty51 (vt ((hs 3 rfl).trans rfl)) (i := 4) ((hr 4 rfl).trans rfl) (vt ((hs 27 rfl).trans rfl))) ⟨rfl, rfl, rfl, rfl⟩ ?_
      refine AW.seq ?_
      refine AW.region ?_
      refine AOps.cons (op_load rfl rfl ty51 (vt rfl) (i := 4) rfl) rfl ?_
      refine AOps.cons (op_store rfl rfl ty51 (vt rfl) (i := 3) rfl (vt rfl)) rfl ?_
      refine AOps.nil ?_
      refine AW.ret ?_
      obtain rfl := Option.some.inj h
      exact ret1 Try.results107 rfl (out_cell rfl (i := 3) rfl ty51)
    · have h := cond_f hc h
      refine AW.seq ?_
      refine AW.region ?_
      refine AOps.cons (op_eql rfl rfl (vt rfl) (vk rfl)) rfl ?_
      refine AOps.cons (op_assign (A := rd kbool (decide (a1.Kind = 18))) rfl rfl (vt rfl)) rfl ?_
      refine AOps.nil ?_
      refine AW.cond (vt rfl) (fun hc => ?_) (fun hc => ?_)
      · have h := cond_t hc h
        refine AW.seq ?_
        obtain ⟨x12, hx12, h⟩ := bsome h
        obtain ⟨x13, hx13, h⟩ := bsome h
        refine AW.regionAny [⟨[3], [30], [4], []⟩, ⟨[], [31], [], []⟩, ⟨[], [32], [], []⟩, ⟨[30, 31, 32], [33], [], []⟩, ⟨[3, 33], [], [4], [4]⟩] mixed (by kernel_rfl) ?_
        refine SeqA.cons (loc [3] [4] rfl rfl fun S hs hr => op_load rfl rfl ty51 (vt ((hs 3 rfl).trans rfl)) (i := 4) ((hr 4 rfl).trans rfl)) ⟨rfl, rfl, rfl, rfl⟩ ?_
        refine SeqA.cons (loc [] [] rfl rfl fun S hs hr => op_build (ps := []) (x := (⟨0, 0⟩ : Wide)) rfl rfl rfl (by kernel_rfl) zr28 rfl) ⟨rfl, rfl, rfl, rfl⟩ ?_
        refine SeqA.cons (loc [] [] rfl rfl fun S hs hr => op_call (xs := [.const (Value.int IntKind.i64 13)]) (c_wide_Low _ _ hx12) (Ent.mk Try.func133 rfl rfl) rfl rfl ⟨vk rfl, trivial⟩) ⟨rfl, rfl, rfl, rfl⟩ ?_
        refine SeqA.cons (loc [30, 31, 32] [] rfl rfl fun S hs hr => op_call (xs := [.tmp 30, .const (Value.int IntKind.i64 5), .tmp 31, .tmp 32]) (c_rewrite_Set _ _ _ _ _ hx13) (Ent.mk Try.func132 rfl rfl) rfl rfl ⟨vt ((hs 30 rfl).trans rfl), vk rfl, vt ((hs 31 rfl).trans rfl), vt ((hs 32 rfl).trans rfl), trivial⟩) ⟨rfl, rfl, rfl, rfl⟩ ?_
        refine SeqA.cons (locr [3, 33] [4] rfl fun S hs hr => op_store rfl rfl ty51 (vt ((hs 3 rfl).trans rfl)) (i := 4) ((hr 4 rfl).trans rfl) (vt ((hs 33 rfl).trans rfl))) ⟨rfl, rfl, rfl, rfl⟩ ?_
        obtain ⟨x14, hx14, h⟩ := bsome h
        obtain ⟨x15, hx15, h⟩ := bsome h
        refine AW.regionAny [⟨[3], [34], [4], []⟩, ⟨[], [35], [], []⟩, ⟨[], [36], [], []⟩, ⟨[34, 35, 36], [37], [], []⟩, ⟨[3, 37], [], [4], [4]⟩] mixed (by kernel_rfl) ?_
        refine SeqA.cons (loc [3] [4] rfl rfl fun S hs hr => op_load rfl rfl ty51 (vt ((hs 3 rfl).trans rfl)) (i := 4) ((hr 4 rfl).trans rfl)) ⟨rfl, rfl, rfl, rfl⟩ ?_
        refine SeqA.cons (loc [] [] rfl rfl fun S hs hr => op_build (ps := []) (x := (⟨0, 0⟩ : Wide)) rfl rfl rfl (by kernel_rfl) zr28 rfl) ⟨rfl, rfl, rfl, rfl⟩ ?_
        refine SeqA.cons (loc [] [] rfl rfl fun S hs hr => op_call (xs := [.const (Value.int IntKind.i64 3)]) (c_wide_Low _ _ hx14) (Ent.mk Try.func133 rfl rfl) rfl rfl ⟨vk rfl, trivial⟩) ⟨rfl, rfl, rfl, rfl⟩ ?_
        refine SeqA.cons (loc [34, 35, 36] [] rfl rfl fun S hs hr => op_call (xs := [.tmp 34, .const (Value.int IntKind.i64 6), .tmp 35, .tmp 36]) (c_rewrite_Set _ _ _ _ _ hx15) (Ent.mk Try.func132 rfl rfl) rfl rfl ⟨vt ((hs 34 rfl).trans rfl), vk rfl, vt ((hs 35 rfl).trans rfl), vt ((hs 36 rfl).trans rfl), trivial⟩) ⟨rfl, rfl, rfl, rfl⟩ ?_
        refine SeqA.cons (locr [3, 37] [4] rfl fun S hs hr => op_store rfl rfl ty51 (vt ((hs 3 rfl).trans rfl)) (i := 4) ((hr 4 rfl).trans rfl) (vt ((hs 37 rfl).trans rfl))) ⟨rfl, rfl, rfl, rfl⟩ ?_
        refine AW.seq ?_
        refine AW.region ?_
        refine AOps.cons (op_load rfl rfl ty51 (vt rfl) (i := 4) rfl) rfl ?_
        refine AOps.cons (op_store rfl rfl ty51 (vt rfl) (i := 3) rfl (vt rfl)) rfl ?_
        refine AOps.nil ?_
        refine AW.ret ?_
        obtain rfl := Option.some.inj h
        exact ret1 Try.results107 rfl (out_cell rfl (i := 3) rfl ty51)
      · have h := cond_f hc h
        refine AW.skip ?_
        refine AW.seq ?_
        refine AW.region ?_
        refine AOps.cons (op_load rfl rfl ty51 (vt rfl) (i := 4) rfl) rfl ?_
        refine AOps.cons (op_store rfl rfl ty51 (vt rfl) (i := 3) rfl (vt rfl)) rfl ?_
        refine AOps.nil ?_
        refine AW.ret ?_
        obtain rfl := Option.some.inj h
        exact ret1 Try.results107 rfl (out_cell rfl (i := 3) rfl ty51)
def F_rewrite_Then_1 (i1 : Int) (cp2 : (Vector Tern 24)) (cp3 : (Vector Tern 24)) : Option Tern :=
  (chk 24 i1).bind fun j5 => (chk 24 i1).bind fun j6 => (F_rewrite_over (Vector.get cp2 j5) (Vector.get cp3 j6)).bind fun x7 => some x7
theorem c_rewrite_Then_1 (i1 : Int) (cp2 : (Vector Tern 24)) (cp3 : (Vector Tern 24)) (r : Tern) (h : F_rewrite_Then_1 i1 cp2 cp3 = some r) : PCon Try.prog 148 [rd (kint .i64) i1, rp (karr 24 kTern) cp2, rp (karr 24 kTern) cp3] (rd kTern r) := by
  refine PCon.of (Con.intro0 Try.func148 rfl Try.ntmps148 rfl fun w H => ?_)
  unfold F_rewrite_Then_1 at h
  refine AW.seq ?_
  refine AW.region ?_
  refine AOps.consT rfl (op_alloc 5 rfl rfl zr49) ?_
  rintro _ ⟨g4, rfl⟩
  refine AOps.nil ?_
  refine AW.seq ?_
  obtain ⟨j5, hj5, h⟩ := bsome h
  obtain ⟨j6, hj6, h⟩ := bsome h
  obtain ⟨x7, hx7, h⟩ := bsome h
  refine AW.regionAny [⟨[0], [5], [], []⟩, ⟨[1, 5], [6], [], []⟩, ⟨[6], [7], [], []⟩, ⟨[0], [8], [], []⟩, ⟨[2, 8], [9], [], []⟩, ⟨[9], [10], [], []⟩, ⟨[7, 10], [11], [], []⟩, ⟨[4, 11], [], [5], [5]⟩] mixed (by kernel_rfl) ?_
  refine SeqA.cons (loc [0] [] rfl rfl fun S hs hr => op_move (A := rd (kint .i64) i1) rfl rfl (vt ((hs 0 rfl).trans rfl))) ⟨rfl, rfl, rfl, rfl⟩ ?_
  refine SeqA.cons (loc [1, 5] [] rfl rfl fun S hs hr => op_indexp' rfl rfl ar51 (vt ((hs 1 rfl).trans rfl)) (vt ((hs 5 rfl).trans rfl)) hj5) ⟨rfl, rfl, rfl, rfl⟩ ?_
  refine SeqA.cons (loc [6] [] rfl rfl fun S hs hr => op_loadp rfl rfl ty49 (vt ((hs 6 rfl).trans rfl))) ⟨rfl, rfl, rfl, rfl⟩ ?_
  refine SeqA.cons (loc [0] [] rfl rfl fun S hs hr => op_move (A := rd (kint .i64) i1) rfl rfl (vt ((hs 0 rfl).trans rfl))) ⟨rfl, rfl, rfl, rfl⟩ ?_
  refine SeqA.cons (loc [2, 8] [] rfl rfl fun S hs hr => op_indexp' rfl rfl ar51 (vt ((hs 2 rfl).trans rfl)) (vt ((hs 8 rfl).trans rfl)) hj6) ⟨rfl, rfl, rfl, rfl⟩ ?_
  refine SeqA.cons (loc [9] [] rfl rfl fun S hs hr => op_loadp rfl rfl ty49 (vt ((hs 9 rfl).trans rfl))) ⟨rfl, rfl, rfl, rfl⟩ ?_
  refine SeqA.cons (loc [7, 10] [] rfl rfl fun S hs hr => op_call (xs := [.tmp 7, .tmp 10]) (c_rewrite_over _ _ _ hx7) (Ent.mk Try.func141 rfl rfl) rfl rfl ⟨vt ((hs 7 rfl).trans rfl), vt ((hs 10 rfl).trans rfl), trivial⟩) ⟨rfl, rfl, rfl, rfl⟩ ?_
  refine SeqA.cons (locr [4, 11] [5] rfl fun S hs hr => op_store rfl rfl ty49 (vt ((hs 4 rfl).trans rfl)) (i := 5) ((hr 5 rfl).trans rfl) (vt ((hs 11 rfl).trans rfl))) ⟨rfl, rfl, rfl, rfl⟩ ?_
  refine AW.ret ?_
  obtain rfl := Option.some.inj h
  exact ret1 Try.results148 rfl (out_cell rfl (i := 5) rfl ty49)
end Go.Proofs.Ytknpgojdkobgjaa.W
