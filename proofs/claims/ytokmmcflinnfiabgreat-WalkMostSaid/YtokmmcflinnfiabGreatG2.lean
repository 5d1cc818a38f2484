/- A part of the proof. -/
import Derived.Test.YtokmmcflinnfiabGreatG1
set_option linter.unusedVariables false
set_option maxRecDepth 4000
set_option linter.unusedSimpArgs false
namespace Go.Proofs.YtokmmcflinnfiabGreat.W
open Go Go.Wb
def F_slices_DeleteFunc_Action_l1 (del3 : (Action → Option Bool)) : Nat → (List Action) → Int → Int → Option (List Action)
  | 0, _, _, _ => none
  | m11 + 1, l8, i9, j10 => (bif (decide (j10 < (l8.length : Int))) then (lget l8 j10).bind fun e12 => (del3 e12).bind fun x14 => (bif (!x14) then (lget l8 i9).bind fun e15 => (F_slices_DeleteFunc_Action_l1 del3 m11) (List.set l8 i9.toNat e12) (IntKind.i64.wrap (i9 + 1)) (IntKind.i64.wrap (j10 + 1)) else (F_slices_DeleteFunc_Action_l1 del3 m11) l8 i9 (IntKind.i64.wrap (j10 + 1))) else (odrop l8 i9).bind fun s16 => (otake (List.take i9.toNat l8 ++ List.replicate (l8.length - i9.toNat) zAction) i9).bind fun s17 => some s17)
def F_slices_DeleteFunc_Action (s1 : (List Action)) (del3 : (Action → Option Bool)) : Option (List Action) :=
  (F_slices_IndexFunc_Action s1 del3).bind fun x4 => (bif (decide (x4 = (-1))) then some s1 else F_slices_DeleteFunc_Action_l1 del3 ((((s1.length : Int) : Int) - (IntKind.i64.wrap (x4 + 1))).toNat + 1) s1 x4 (IntKind.i64.wrap (x4 + 1)))
theorem c_slices_DeleteFunc_Action_o (v2 : Value) (s1 : (List Action)) (del3 : (Action → Option Bool)) (r : (List Action)) (h : F_slices_DeleteFunc_Action s1 del3 = some r) : Con Tryz.prog 70 [raw v2, fn1 Tryz.prog kAction kbool del3] (Row v2 48 kAction s1) (fun v => raw v) (fun v => Row v 48 kAction r) := by
  refine Con.intro Tryz.func70 rfl Tryz.ntmps70 rfl fun w H X => ?_
  unfold F_slices_DeleteFunc_Action at h
  refine AW.seq ?_
  refine AW.newnil 1001 48 kAction ?_
  refine AW.region ?_
  refine AOps.cons (op_assign rfl rfl vc) rfl ?_
  refine AOps.nil ?_
  refine AW.seq ?_
  obtain ⟨x4, hx4, h⟩ := bsome h
  refine AW.region ?_
  refine AOps.cons (op_move (A := raw v2) rfl rfl (vt rfl)) rfl ?_
  refine AOps.cons (op_move (A := fn1 Tryz.prog kAction kbool del3) rfl rfl (vt rfl)) rfl ?_
  refine AOps.cons (op_callB (xs := [.tmp 8, .tmp 9]) 0 (c_slices_IndexFunc_Action _ _ _ hx4) (Ent.mk Tryz.func62 rfl rfl) rfl rfl ⟨vL rfl rfl, vB (vt rfl), trivial⟩) rfl ?_
  refine AOps.cons (op_assign (A := rd (kint .i64) x4) rfl rfl (vt rfl)) rfl ?_
  refine AOps.nil ?_
  refine AW.seq ?_
  refine AW.seq ?_
  refine AW.region ?_
  refine AOps.cons (op_move (A := rd (kint .i64) x4) rfl rfl (vt rfl)) rfl ?_
  refine AOps.cons (op_eql rfl rfl (vt rfl) (vk rfl)) rfl ?_
  refine AOps.nil ?_
  refine AW.cond (vt rfl) (fun hc => ?_) (fun hc => ?_)
  · have h := cond_t hc h
    refine AW.seq ?_
    refine AW.region ?_
    refine AOps.cons (op_move (A := raw v2) rfl rfl (vt rfl)) rfl ?_
    refine AOps.cons (op_assign (A := raw v2) rfl rfl (vt rfl)) rfl ?_
    refine AOps.nil ?_
    refine AW.ret ?_
    obtain rfl := Option.some.inj h
    exact ret1R (i := 0) Tryz.results70 rfl rfl rfl
  · have h := cond_f hc h
    refine AW.skip ?_
    refine AW.seq ?_
    refine AW.seq ?_
    refine AW.region ?_
    refine AOps.cons (op_move (A := rd (kint .i64) x4) rfl rfl (vt rfl)) rfl ?_
    refine AOps.cons (op_add rfl rfl (vt rfl) (vk rfl)) rfl ?_
    refine AOps.cons (op_assign (A := rd (kint .i64) (IntKind.i64.wrap (x4 + 1))) rfl rfl (vt rfl)) rfl ?_
    refine AOps.nil ?_
    refine AW.block ?_
    refine AW.loopG (d := []) (ν := Nat × (List Action) × Int × Int) (fun n => True ∧ F_slices_DeleteFunc_Action_l1 del3 n.1 n.2.1 n.2.2.1 n.2.2.2 = some r) (fun n => n.1) (fun n => [(0, raw v2), (1, fn1 Tryz.prog kAction kbool del3), (5, rd (kint .i64) n.2.2.1), (6, rd (kint .i64) n.2.2.2)]) (fun n => [(0, Row v2 48 kAction n.2.1)]) (((((s1.length : Int) : Int) - (IntKind.i64.wrap (x4 + 1))).toNat + 1), s1, x4, (IntKind.i64.wrap (x4 + 1))) ⟨trivial, h⟩ ⟨rfl, ⟨rfl, rfl, rfl, rfl, trivial⟩, ⟨rfl, trivial⟩⟩ ?_
    rintro ⟨m11, l8, i9, j10⟩ ⟨hsf1, h⟩
    change True at hsf1
    change F_slices_DeleteFunc_Action_l1 del3 m11 l8 i9 j10 = some r at h
    change AW _ _ _ ⟨slots [(0, raw v2), (1, fn1 Tryz.prog kAction kbool del3), (5, rd (kint .i64) i9), (6, rd (kint .i64) j10)], ress [(0, Row v2 48 kAction l8)], _⟩
    cases m11 with
    | zero => cases h
    | succ m11 =>
      unfold F_slices_DeleteFunc_Action_l1 at h
      generalize hgo1 : F_slices_DeleteFunc_Action_l1 del3 m11 = go1 at h
      refine AW.seq ?_
      refine AW.seq ?_
      refine AW.region ?_
      refine AOps.cons (op_move (A := rd (kint .i64) j10) rfl rfl (vt rfl)) rfl ?_
      refine AOps.cons (op_move (A := raw v2) rfl rfl (vt rfl)) rfl ?_
      refine AOps.cons (op_leno 0 rfl rfl sl49 (vt rfl) rfl) rfl ?_
      refine AOps.cons (op_lss rfl rfl (vt rfl) (vt rfl)) rfl ?_
      refine AOps.nil ?_
      refine AW.cond (vt rfl) (fun hc => ?_) (fun hc => ?_)
      · have h := cond_t hc h
        refine AW.skip ?_
        refine AW.seq ?_
        refine AW.block ?_
        refine AW.seq ?_
        obtain ⟨e12, he12, h⟩ := bsome h
        refine AW.region ?_
        refine AOps.cons (op_move (A := raw v2) rfl rfl (vt rfl)) rfl ?_
        refine AOps.cons (op_move (A := rd (kint .i64) j10) rfl rfl (vt rfl)) rfl ?_
        refine AOps.cons (op_indexo' 0 rfl rfl sl49 (vt rfl) rfl (vt rfl) he12) rfl ?_
        refine AOps.cons (op_loado' 0 rfl rfl ty48 (vt rfl) rfl (lget_of he12).2) rfl ?_
        refine AOps.consT rfl (op_alloc 8 rfl rfl zr48) ?_
        rintro _ ⟨g13, rfl⟩
        refine AOps.cons (op_store rfl rfl ty48 (vt rfl) (i := 8) rfl (vt rfl)) rfl ?_
        refine AOps.nil ?_
        refine AW.seq ?_
        obtain ⟨x14, hx14, h⟩ := bsome h
        refine AW.region ?_
        refine AOps.cons (op_move (A := fn1 Tryz.prog kAction kbool del3) rfl rfl (vt rfl)) rfl ?_
        refine AOps.cons (op_load rfl rfl ty48 (vt rfl) (i := 8) rfl) rfl ?_
        refine AOps.cons (op_call1 hx14 rfl rfl (vt rfl) (vt rfl)) rfl ?_
        refine AOps.cons (op_not rfl rfl (vt rfl)) rfl ?_
        refine AOps.nil ?_
        refine AW.cond (vt rfl) (fun hc => ?_) (fun hc => ?_)
        · have h := cond_t hc h
          refine AW.seq ?_
          obtain ⟨e15, he15, h⟩ := bsome h
          refine AW.region ?_
          refine AOps.cons (op_move (A := raw v2) rfl rfl (vt rfl)) rfl ?_
          refine AOps.cons (op_move (A := rd (kint .i64) i9) rfl rfl (vt rfl)) rfl ?_
          refine AOps.cons (op_load rfl rfl ty48 (vt rfl) (i := 8) rfl) rfl ?_
          refine AOps.cons (op_indexo' 0 rfl rfl sl49 (vt rfl) rfl (vt rfl) he15) rfl ?_
          refine AOps.cons (op_storeo' 0 rfl rfl ty48 (vt rfl) rfl (lget_of he15).2 (vt rfl)) rfl ?_
          refine AOps.nil ?_
          refine AW.region ?_
          refine AOps.cons (op_move (A := rd (kint .i64) i9) rfl rfl (vt rfl)) rfl ?_
          refine AOps.cons (op_add rfl rfl (vt rfl) (vk rfl)) rfl ?_
          refine AOps.cons (op_assign (A := rd (kint .i64) (IntKind.i64.wrap (i9 + 1))) rfl rfl (vt rfl)) rfl ?_
          refine AOps.nil ?_
          refine AW.region ?_
          refine AOps.cons (op_move (A := rd (kint .i64) j10) rfl rfl (vt rfl)) rfl ?_
          refine AOps.cons (op_add rfl rfl (vt rfl) (vk rfl)) rfl ?_
          refine AOps.cons (op_assign (A := rd (kint .i64) (IntKind.i64.wrap (j10 + 1))) rfl rfl (vt rfl)) rfl ?_
          refine AOps.nil ?_
          subst hgo1
          exact ⟨(m11, (List.set l8 i9.toNat e12), (IntKind.i64.wrap (i9 + 1)), (IntKind.i64.wrap (j10 + 1))), Nat.lt_succ_self _, ⟨trivial, h⟩, ⟨rfl, ⟨rfl, rfl, rfl, rfl, trivial⟩, ⟨rfl, trivial⟩⟩⟩
        · have h := cond_f hc h
          refine AW.skip ?_
          refine AW.region ?_
          refine AOps.cons (op_move (A := rd (kint .i64) j10) rfl rfl (vt rfl)) rfl ?_
          refine AOps.cons (op_add rfl rfl (vt rfl) (vk rfl)) rfl ?_
          refine AOps.cons (op_assign (A := rd (kint .i64) (IntKind.i64.wrap (j10 + 1))) rfl rfl (vt rfl)) rfl ?_
          refine AOps.nil ?_
          subst hgo1
          exact ⟨(m11, l8, i9, (IntKind.i64.wrap (j10 + 1))), Nat.lt_succ_self _, ⟨trivial, h⟩, ⟨rfl, ⟨rfl, rfl, rfl, rfl, trivial⟩, ⟨rfl, trivial⟩⟩⟩
      · have h := cond_f hc h
        refine AW.exit ?_
        refine AW.seq ?_
        obtain ⟨s16, hs16, h⟩ := bsome h
        refine AW.region ?_
        refine AOps.cons (op_move (A := raw v2) rfl rfl (vt rfl)) rfl ?_
        refine AOps.cons (op_move (A := rd (kint .i64) i9) rfl rfl (vt rfl)) rfl ?_
        refine AOps.cons (op_sliceo_l 0 hs16 rfl rfl sl49 (vt rfl) rfl (vt rfl)) rfl ?_
        refine AOps.cons (op_clearo 0 rfl rfl sl49 zr48 rfl (vt rfl) rfl (odrop_of hs16).2.1) rfl ?_
        refine AOps.nil ?_
        refine AW.seq ?_
        obtain ⟨s17, hs17, h⟩ := bsome h
        refine AW.region ?_
        refine AOps.cons (op_move (A := raw v2) rfl rfl (vt rfl)) rfl ?_
        refine AOps.cons (op_move (A := rd (kint .i64) i9) rfl rfl (vt rfl)) rfl ?_
        refine AOps.consT rfl (op_sliceo_h 0 hs17 rfl rfl sl49 (vt rfl) rfl (vt rfl)) ?_
        rintro _ ⟨v18, rfl⟩
        refine AOps.cons (op_assign (A := raw v18) rfl rfl (vt rfl)) rfl ?_
        refine AOps.nil ?_
        refine AW.ret ?_
        obtain rfl := Option.some.inj h
        exact ret1R (i := 0) Tryz.results70 rfl rfl rfl
def F_slices_insertionSortCmpFunc_Action_l2 (a3 : Int) (cmp5 : (Action → Action → Option Int)) (go1 : (List Action) → Int → Option (List Action)) (i9 : Int) : Nat → (List Action) → Int → Option (List Action)
  | 0, _, _ => none
  | m15 + 1, l13, j14 => (opt (decide (j14 > a3)) (lget l13 j14)).bind fun e16 => (opt (decide (j14 > a3)) (lget l13 (IntKind.i64.wrap (j14 - 1)))).bind fun e17 => (opt (decide (j14 > a3)) (cmp5 e16 e17)).bind fun x18 => (bif ((decide (j14 > a3)) && (decide (x18 < 0))) then (lget l13 (IntKind.i64.wrap (j14 - 1))).bind fun e19 => (lget l13 j14).bind fun e20 => (lget l13 j14).bind fun e21 => (lget (List.set l13 j14.toNat e19) (IntKind.i64.wrap (j14 - 1))).bind fun e22 => (F_slices_insertionSortCmpFunc_Action_l2 a3 cmp5 go1 i9 m15) (List.set (List.set l13 j14.toNat e19) (IntKind.i64.wrap (j14 - 1)).toNat e20) (IntKind.i64.wrap (j14 - 1)) else go1 l13 (IntKind.i64.wrap (i9 + 1)))
def F_slices_insertionSortCmpFunc_Action_l1 (b4 : Int) (a3 : Int) (cmp5 : (Action → Action → Option Int)) : Nat → (List Action) → Int → Option (List Action)
  | 0, _, _ => none
  | m10 + 1, l8, i9 => (bif (decide (i9 < b4)) then F_slices_insertionSortCmpFunc_Action_l2 a3 cmp5 (F_slices_insertionSortCmpFunc_Action_l1 b4 a3 cmp5 m10) i9 fuel0 l8 i9 else some l8)
def F_slices_insertionSortCmpFunc_Action (data1 : (List Action)) (a3 : Int) (b4 : Int) (cmp5 : (Action → Action → Option Int)) : Option (List Action) :=
  F_slices_insertionSortCmpFunc_Action_l1 b4 a3 cmp5 (((b4 : Int) - (IntKind.i64.wrap (a3 + 1))).toNat + 1) data1 (IntKind.i64.wrap (a3 + 1))
theorem c_slices_insertionSortCmpFunc_Action_o (v2 : Value) (data1 : (List Action)) (a3 : Int) (b4 : Int) (cmp5 : (Action → Action → Option Int)) (r : (List Action)) (h : F_slices_insertionSortCmpFunc_Action data1 a3 b4 cmp5 = some r) : Con Tryz.prog 95 [raw v2, rd (kint .i64) a3, rd (kint .i64) b4, fn2 Tryz.prog kAction kAction (kint .i64) cmp5] (Row v2 48 kAction data1) (fun _ : Unit => top) (fun _ => Row v2 48 kAction r) := by
  refine Con.intro Tryz.func95 rfl Tryz.ntmps95 rfl fun w H X => ?_
  unfold F_slices_insertionSortCmpFunc_Action at h
  refine AW.seq ?_
  refine AW.region ?_
  refine AOps.cons (op_move (A := rd (kint .i64) a3) rfl rfl (vt rfl)) rfl ?_
  refine AOps.cons (op_add rfl rfl (vt rfl) (vk rfl)) rfl ?_
  refine AOps.cons (op_assign (A := rd (kint .i64) (IntKind.i64.wrap (a3 + 1))) rfl rfl (vt rfl)) rfl ?_
  refine AOps.nil ?_
  refine AW.block ?_
  refine AW.loopG (d := []) (ν := Nat × (List Action) × Int) (fun n => True ∧ F_slices_insertionSortCmpFunc_Action_l1 b4 a3 cmp5 n.1 n.2.1 n.2.2 = some r) (fun n => n.1) (fun n => [(0, raw v2), (1, rd (kint .i64) a3), (2, rd (kint .i64) b4), (3, fn2 Tryz.prog kAction kAction (kint .i64) cmp5), (8, rd (kint .i64) n.2.2)]) (fun n => [(0, Row v2 48 kAction n.2.1)]) ((((b4 : Int) - (IntKind.i64.wrap (a3 + 1))).toNat + 1), data1, (IntKind.i64.wrap (a3 + 1))) ⟨trivial, h⟩ ⟨rfl, ⟨rfl, rfl, rfl, rfl, rfl, trivial⟩, ⟨rfl, trivial⟩⟩ ?_
  rintro ⟨m10, l8, i9⟩ ⟨hsf1, h⟩
  change True at hsf1
  change F_slices_insertionSortCmpFunc_Action_l1 b4 a3 cmp5 m10 l8 i9 = some r at h
  change AW _ _ _ ⟨slots [(0, raw v2), (1, rd (kint .i64) a3), (2, rd (kint .i64) b4), (3, fn2 Tryz.prog kAction kAction (kint .i64) cmp5), (8, rd (kint .i64) i9)], ress [(0, Row v2 48 kAction l8)], _⟩
  cases m10 with
  | zero => cases h
  | succ m10 =>
    unfold F_slices_insertionSortCmpFunc_Action_l1 at h
    generalize hgo1 : F_slices_insertionSortCmpFunc_Action_l1 b4 a3 cmp5 m10 = go1 at h
    refine AW.seq ?_
    refine AW.seq ?_
    refine AW.region ?_
    refine AOps.cons (op_move (A := rd (kint .i64) i9) rfl rfl (vt rfl)) rfl ?_
    refine AOps.cons (op_move (A := rd (kint .i64) b4) rfl rfl (vt rfl)) rfl ?_
    refine AOps.cons (op_lss rfl rfl (vt rfl) (vt rfl)) rfl ?_
    refine AOps.nil ?_
    refine AW.cond (vt rfl) (fun hc => ?_) (fun hc => ?_)
    · have h := cond_t hc h
      refine AW.skip ?_
      refine AW.seq ?_
      refine AW.block ?_
      refine AW.seq ?_
      refine AW.region ?_
      refine AOps.cons (op_move (A := rd (kint .i64) i9) rfl rfl (vt rfl)) rfl ?_
      refine AOps.cons (op_assign (A := rd (kint .i64) i9) rfl rfl (vt rfl)) rfl ?_
      refine AOps.nil ?_
      refine AW.block ?_
      refine AW.loopG (d := []) (ν := Nat × (List Action) × Int) (fun n => True ∧ F_slices_insertionSortCmpFunc_Action_l2 a3 cmp5 go1 i9 n.1 n.2.1 n.2.2 = some r) (fun n => n.1) (fun n => [(0, raw v2), (1, rd (kint .i64) a3), (2, rd (kint .i64) b4), (3, fn2 Tryz.prog kAction kAction (kint .i64) cmp5), (8, rd (kint .i64) i9), (9, rd (kint .i64) n.2.2)]) (fun n => [(0, Row v2 48 kAction n.2.1)]) (fuel0, l8, i9) ⟨trivial, h⟩ ⟨rfl, ⟨rfl, rfl, rfl, rfl, rfl, rfl, trivial⟩, ⟨rfl, trivial⟩⟩ ?_
      rintro ⟨m15, l13, j14⟩ ⟨hsf2, h⟩
      change True at hsf2
      change F_slices_insertionSortCmpFunc_Action_l2 a3 cmp5 go1 i9 m15 l13 j14 = some r at h
      change AW _ _ _ ⟨slots [(0, raw v2), (1, rd (kint .i64) a3), (2, rd (kint .i64) b4), (3, fn2 Tryz.prog kAction kAction (kint .i64) cmp5), (8, rd (kint .i64) i9), (9, rd (kint .i64) j14)], ress [(0, Row v2 48 kAction l13)], _⟩
      cases m15 with
      | zero => cases h
      | succ m15 =>
        unfold F_slices_insertionSortCmpFunc_Action_l2 at h
        generalize hgo2 : F_slices_insertionSortCmpFunc_Action_l2 a3 cmp5 go1 i9 m15 = go2 at h
        refine AW.seq ?_
        refine AW.seq ?_
        obtain ⟨e16, he16, h⟩ := bsome h
        obtain ⟨e17, he17, h⟩ := bsome h
        obtain ⟨x18, hx18, h⟩ := bsome h
        refine AW.regionAny [⟨[9], [18], [], []⟩, ⟨[1], [19], [], []⟩, ⟨[18, 19], [20], [], []⟩, ⟨[20], [21], [], []⟩, ⟨[3, 21], [22], [], []⟩, ⟨[0, 21], [23], [], []⟩, ⟨[9, 21], [24], [], []⟩, ⟨[23, 24, 21], [25], [0], []⟩, ⟨[25, 21], [26], [0], []⟩, ⟨[0, 21], [27], [], []⟩, ⟨[9, 21], [28], [], []⟩, ⟨[28, 21], [29], [], []⟩, ⟨[27, 29, 21], [30], [0], []⟩, ⟨[30, 21], [31], [0], []⟩, ⟨[22, 26, 31, 21], [32], [], []⟩, ⟨[32, 21], [33], [], []⟩, ⟨[33, 21], [34], [], []⟩] mixed (by kernel_rfl) ?_
        refine SeqA.cons (loc [9] [] rfl rfl fun S hs hr => op_move (A := rd (kint .i64) j14) rfl rfl (vt ((hs 9 rfl).trans rfl))) ⟨rfl, rfl, rfl, rfl⟩ ?_
        refine SeqA.cons (loc [1] [] rfl rfl fun S hs hr => op_move (A := rd (kint .i64) a3) rfl rfl (vt ((hs 1 rfl).trans rfl))) ⟨rfl, rfl, rfl, rfl⟩ ?_
        refine SeqA.cons (loc [18, 19] [] rfl rfl fun S hs hr => op_gtr rfl rfl (vt ((hs 18 rfl).trans rfl)) (vt ((hs 19 rfl).trans rfl))) ⟨rfl, rfl, rfl, rfl⟩ ?_
        refine SeqA.cons (loc [20] [] rfl rfl fun S hs hr => op_move (A := rd kbool (decide (j14 > a3))) rfl rfl (vt ((hs 20 rfl).trans rfl))) ⟨rfl, rfl, rfl, rfl⟩ ?_
        refine SeqA.cons (locg [3, 21] [] rfl rfl rfl rfl rfl rfl rfl fun hq S hs hr => op_move (A := fn2 Tryz.prog kAction kAction (kint .i64) cmp5) rfl rfl (vt ((hs 3 rfl).trans rfl))) ⟨rfl, rfl, rfl, rfl⟩ ?_
        refine SeqA.cons (locg [0, 21] [] rfl rfl rfl rfl rfl rfl rfl fun hq S hs hr => op_move (A := raw v2) rfl rfl (vt ((hs 0 rfl).trans rfl))) ⟨rfl, rfl, rfl, rfl⟩ ?_
        refine SeqA.cons (locg [9, 21] [] rfl rfl rfl rfl rfl rfl rfl fun hq S hs hr => op_move (A := rd (kint .i64) j14) rfl rfl (vt ((hs 9 rfl).trans rfl))) ⟨rfl, rfl, rfl, rfl⟩ ?_
        refine SeqA.cons (locg [23, 24, 21] [0] rfl rfl rfl rfl rfl rfl rfl fun hq S hs hr => op_indexo' 0 rfl rfl sl49 (vgt ((hs 23 rfl).trans rfl) hq) ((hr 0 rfl).trans rfl) (vgt ((hs 24 rfl).trans rfl) hq) (opt_t he16 hq)) ⟨rfl, rfl, rfl, rfl⟩ ?_
        refine SeqA.cons (locg [25, 21] [0] rfl rfl rfl rfl rfl rfl rfl fun hq S hs hr => op_loado' 0 rfl rfl ty48 (vgt ((hs 25 rfl).trans rfl) hq) ((hr 0 rfl).trans rfl) (lget_of (opt_t he16 hq)).2) ⟨rfl, rfl, rfl, rfl⟩ ?_
        refine SeqA.cons (locg [0, 21] [] rfl rfl rfl rfl rfl rfl rfl fun hq S hs hr => op_move (A := raw v2) rfl rfl (vt ((hs 0 rfl).trans rfl))) ⟨rfl, rfl, rfl, rfl⟩ ?_
        refine SeqA.cons (locg [9, 21] [] rfl rfl rfl rfl rfl rfl rfl fun hq S hs hr => op_move (A := rd (kint .i64) j14) rfl rfl (vt ((hs 9 rfl).trans rfl))) ⟨rfl, rfl, rfl, rfl⟩ ?_
        refine SeqA.cons (locg [28, 21] [] rfl rfl rfl rfl rfl rfl rfl fun hq S hs hr => op_sub rfl rfl (vgt ((hs 28 rfl).trans rfl) hq) (vk rfl)) ⟨rfl, rfl, rfl, rfl⟩ ?_
        refine SeqA.cons (locg [27, 29, 21] [0] rfl rfl rfl rfl rfl rfl rfl fun hq S hs hr => op_indexo' 0 rfl rfl sl49 (vgt ((hs 27 rfl).trans rfl) hq) ((hr 0 rfl).trans rfl) (vgt ((hs 29 rfl).trans rfl) hq) (opt_t he17 hq)) ⟨rfl, rfl, rfl, rfl⟩ ?_
        refine SeqA.cons (locg [30, 21] [0] rfl rfl rfl rfl rfl rfl rfl fun hq S hs hr => op_loado' 0 rfl rfl ty48 (vgt ((hs 30 rfl).trans rfl) hq) ((hr 0 rfl).trans rfl) (lget_of (opt_t he17 hq)).2) ⟨rfl, rfl, rfl, rfl⟩ ?_
        refine SeqA.cons (locg [22, 26, 31, 21] [] rfl rfl rfl rfl rfl rfl rfl fun hq S hs hr => op_call2 (opt_t hx18 hq) rfl rfl (vgt ((hs 22 rfl).trans rfl) hq) (vgt ((hs 26 rfl).trans rfl) hq) (vgt ((hs 31 rfl).trans rfl) hq)) ⟨rfl, rfl, rfl, rfl⟩ ?_
        refine SeqA.cons (locg [32, 21] [] rfl rfl rfl rfl rfl rfl rfl fun hq S hs hr => op_lss rfl rfl (vgt ((hs 32 rfl).trans rfl) hq) (vk rfl)) ⟨rfl, rfl, rfl, rfl⟩ ?_
        refine SeqA.cons (loc [33, 21] [] rfl rfl fun S hs hr => op_all rfl rfl (vt ((hs 21 rfl).trans rfl)) (vt ((hs 33 rfl).trans rfl))) ⟨rfl, rfl, rfl, rfl⟩ ?_
        refine AW.cond (vt rfl) (fun hc => ?_) (fun hc => ?_)
        · have h := cond_t hc h
          refine AW.skip ?_
          refine AW.seq ?_
          refine AW.block ?_
          refine AW.vlen 0 rfl fun hvl0_273 => ?_
          obtain ⟨e19, he19, h⟩ := bsome h
          obtain ⟨e20, he20, h⟩ := bsome h
          obtain ⟨e21, he21, h⟩ := bsome h
          obtain ⟨e22, he22, h⟩ := bsome h
          refine AW.regionAny [⟨[0], [37], [], []⟩, ⟨[9], [38], [], []⟩, ⟨[0], [39], [], []⟩, ⟨[9], [40], [], []⟩, ⟨[40], [41], [], []⟩, ⟨[0], [42], [], []⟩, ⟨[9], [43], [], []⟩, ⟨[43], [44], [], []⟩, ⟨[42, 44], [45], [], []⟩, ⟨[45], [46], [0], []⟩, ⟨[0], [47], [], []⟩, ⟨[9], [48], [], []⟩, ⟨[47, 48], [49], [], []⟩, ⟨[49], [50], [0], []⟩, ⟨[37, 38], [51], [], []⟩, ⟨[51, 46], [], [0], [0]⟩, ⟨[39, 41], [52], [], []⟩, ⟨[52, 50], [], [0], [0]⟩] mixed (by kernel_rfl) ?_
          refine SeqA.cons (loc [0] [] rfl rfl fun S hs hr => op_move (A := raw v2) rfl rfl (vt ((hs 0 rfl).trans rfl))) ⟨rfl, rfl, rfl, rfl⟩ ?_
          refine SeqA.cons (loc [9] [] rfl rfl fun S hs hr => op_move (A := rd (kint .i64) j14) rfl rfl (vt ((hs 9 rfl).trans rfl))) ⟨rfl, rfl, rfl, rfl⟩ ?_
          refine SeqA.cons (loc [0] [] rfl rfl fun S hs hr => op_move (A := raw v2) rfl rfl (vt ((hs 0 rfl).trans rfl))) ⟨rfl, rfl, rfl, rfl⟩ ?_
          refine SeqA.cons (loc [9] [] rfl rfl fun S hs hr => op_move (A := rd (kint .i64) j14) rfl rfl (vt ((hs 9 rfl).trans rfl))) ⟨rfl, rfl, rfl, rfl⟩ ?_
          refine SeqA.cons (loc [40] [] rfl rfl fun S hs hr => op_sub rfl rfl (vt ((hs 40 rfl).trans rfl)) (vk rfl)) ⟨rfl, rfl, rfl, rfl⟩ ?_
          refine SeqA.cons (loc [0] [] rfl rfl fun S hs hr => op_move (A := raw v2) rfl rfl (vt ((hs 0 rfl).trans rfl))) ⟨rfl, rfl, rfl, rfl⟩ ?_
          refine SeqA.cons (loc [9] [] rfl rfl fun S hs hr => op_move (A := rd (kint .i64) j14) rfl rfl (vt ((hs 9 rfl).trans rfl))) ⟨rfl, rfl, rfl, rfl⟩ ?_
          refine SeqA.cons (loc [43] [] rfl rfl fun S hs hr => op_sub rfl rfl (vt ((hs 43 rfl).trans rfl)) (vk rfl)) ⟨rfl, rfl, rfl, rfl⟩ ?_
          refine SeqA.cons (loc [42, 44] [] rfl rfl fun S hs hr => op_indexoP (l := l13) hvl0_273 rfl rfl rfl sl49 (vt ((hs 42 rfl).trans rfl)) (vt ((hs 44 rfl).trans rfl)) he19) ⟨rfl, rfl, rfl, rfl⟩ ?_
          refine SeqA.cons (loc [45] [0] rfl rfl fun S hs hr => op_loado' 0 rfl rfl ty48 (vt ((hs 45 rfl).trans rfl)) ((hr 0 rfl).trans rfl) (lget_of he19).2) ⟨rfl, rfl, rfl, rfl⟩ ?_
          refine SeqA.cons (loc [0] [] rfl rfl fun S hs hr => op_move (A := raw v2) rfl rfl (vt ((hs 0 rfl).trans rfl))) ⟨rfl, rfl, rfl, rfl⟩ ?_
          refine SeqA.cons (loc [9] [] rfl rfl fun S hs hr => op_move (A := rd (kint .i64) j14) rfl rfl (vt ((hs 9 rfl).trans rfl))) ⟨rfl, rfl, rfl, rfl⟩ ?_
          refine SeqA.cons (loc [47, 48] [] rfl rfl fun S hs hr => op_indexoP (l := l13) hvl0_273 rfl rfl rfl sl49 (vt ((hs 47 rfl).trans rfl)) (vt ((hs 48 rfl).trans rfl)) he20) ⟨rfl, rfl, rfl, rfl⟩ ?_
          refine SeqA.cons (loc [49] [0] rfl rfl fun S hs hr => op_loado' 0 rfl rfl ty48 (vt ((hs 49 rfl).trans rfl)) ((hr 0 rfl).trans rfl) (lget_of he20).2) ⟨rfl, rfl, rfl, rfl⟩ ?_
          refine SeqA.cons (loc [37, 38] [] rfl rfl fun S hs hr => op_indexoP (l := l13) hvl0_273 rfl rfl rfl sl49 (vt ((hs 37 rfl).trans rfl)) (vt ((hs 38 rfl).trans rfl)) he21) ⟨rfl, rfl, rfl, rfl⟩ ?_
          refine SeqA.cons (locr [51, 46] [0] rfl fun S hs hr => op_storeo' 0 rfl rfl ty48 (vt ((hs 51 rfl).trans rfl)) ((hr 0 rfl).trans rfl) (lget_of he21).2 (vt ((hs 46 rfl).trans rfl))) ⟨rfl, rfl, rfl, rfl⟩ ?_
          refine SeqA.cons (loc [39, 41] [] rfl rfl fun S hs hr => op_indexoP (l := (List.set l13 j14.toNat e19)) hvl0_273 (by simp) rfl rfl sl49 (vt ((hs 39 rfl).trans rfl)) (vt ((hs 41 rfl).trans rfl)) he22) ⟨rfl, rfl, rfl, rfl⟩ ?_
          refine SeqA.cons (locr [52, 50] [0] rfl fun S hs hr => op_storeo' 0 rfl rfl ty48 (vt ((hs 52 rfl).trans rfl)) ((hr 0 rfl).trans rfl) (lget_of he22).2 (vt ((hs 50 rfl).trans rfl))) ⟨rfl, rfl, rfl, rfl⟩ ?_
          refine AW.region ?_
          refine AOps.cons (op_move (A := rd (kint .i64) j14) rfl rfl (vt rfl)) rfl ?_
          refine AOps.cons (op_sub rfl rfl (vt rfl) (vk rfl)) rfl ?_
          refine AOps.cons (op_assign (A := rd (kint .i64) (IntKind.i64.wrap (j14 - 1))) rfl rfl (vt rfl)) rfl ?_
          refine AOps.nil ?_
          subst hgo2
          exact ⟨(m15, (List.set (List.set l13 j14.toNat e19) (IntKind.i64.wrap (j14 - 1)).toNat e20), (IntKind.i64.wrap (j14 - 1))), Nat.lt_succ_self _, ⟨trivial, h⟩, ⟨rfl, ⟨rfl, rfl, rfl, rfl, rfl, rfl, trivial⟩, ⟨rfl, trivial⟩⟩⟩
        · have h := cond_f hc h
          refine AW.exit ?_
          refine AW.region ?_
          refine AOps.cons (op_move (A := rd (kint .i64) i9) rfl rfl (vt rfl)) rfl ?_
          refine AOps.cons (op_add rfl rfl (vt rfl) (vk rfl)) rfl ?_
          refine AOps.cons (op_assign (A := rd (kint .i64) (IntKind.i64.wrap (i9 + 1))) rfl rfl (vt rfl)) rfl ?_
          refine AOps.nil ?_
          subst hgo1
          exact ⟨(m10, l13, (IntKind.i64.wrap (i9 + 1))), Nat.lt_succ_self _, ⟨trivial, h⟩, ⟨rfl, ⟨rfl, rfl, rfl, rfl, rfl, trivial⟩, ⟨rfl, trivial⟩⟩⟩
    · have h := cond_f hc h
      refine AW.exit ?_
      obtain rfl := Option.some.inj h
      exact ret0Y (i := 0) Tryz.results95 rfl rfl
def F_slices_swapRangeCmpFunc_Action_l1 (n5 : Int) (b4 : Int) (a3 : Int) : Nat → (List Action) → Int → Option (List Action)
  | 0, _, _ => none
  | m11 + 1, l9, i10 => (bif (decide (i10 < n5)) then (lget l9 (IntKind.i64.wrap (b4 + i10))).bind fun e12 => (lget l9 (IntKind.i64.wrap (a3 + i10))).bind fun e13 => (lget l9 (IntKind.i64.wrap (a3 + i10))).bind fun e14 => (lget (List.set l9 (IntKind.i64.wrap (a3 + i10)).toNat e12) (IntKind.i64.wrap (b4 + i10))).bind fun e15 => (F_slices_swapRangeCmpFunc_Action_l1 n5 b4 a3 m11) (List.set (List.set l9 (IntKind.i64.wrap (a3 + i10)).toNat e12) (IntKind.i64.wrap (b4 + i10)).toNat e13) (IntKind.i64.wrap (i10 + 1)) else some l9)
def F_slices_swapRangeCmpFunc_Action (data1 : (List Action)) (a3 : Int) (b4 : Int) (n5 : Int) (cmp6 : (Action → Action → Option Int)) : Option (List Action) :=
  F_slices_swapRangeCmpFunc_Action_l1 n5 b4 a3 (((n5 : Int) - 0).toNat + 1) data1 0
theorem c_slices_swapRangeCmpFunc_Action_o (v2 : Value) (data1 : (List Action)) (a3 : Int) (b4 : Int) (n5 : Int) (cmp6 : (Action → Action → Option Int)) (r : (List Action)) (h : F_slices_swapRangeCmpFunc_Action data1 a3 b4 n5 cmp6 = some r) : Con Tryz.prog 105 [raw v2, rd (kint .i64) a3, rd (kint .i64) b4, rd (kint .i64) n5, fn2 Tryz.prog kAction kAction (kint .i64) cmp6] (Row v2 48 kAction data1) (fun _ : Unit => top) (fun _ => Row v2 48 kAction r) := by
  refine Con.intro Tryz.func105 rfl Tryz.ntmps105 rfl fun w H X => ?_
  unfold F_slices_swapRangeCmpFunc_Action at h
  refine AW.seq ?_
  refine AW.region ?_
  refine AOps.cons (op_assign (A := rd (kint .i64) 0) rfl rfl (vk rfl)) rfl ?_
  refine AOps.nil ?_
  refine AW.block ?_
  refine AW.loopG (d := []) (ν := Nat × (List Action) × Int) (fun n => True ∧ F_slices_swapRangeCmpFunc_Action_l1 n5 b4 a3 n.1 n.2.1 n.2.2 = some r) (fun n => n.1) (fun n => [(0, raw v2), (1, rd (kint .i64) a3), (2, rd (kint .i64) b4), (3, rd (kint .i64) n5), (10, rd (kint .i64) n.2.2)]) (fun n => [(0, Row v2 48 kAction n.2.1)]) ((((n5 : Int) - 0).toNat + 1), data1, 0) ⟨trivial, h⟩ ⟨rfl, ⟨rfl, rfl, rfl, rfl, rfl, trivial⟩, ⟨rfl, trivial⟩⟩ ?_
  rintro ⟨m11, l9, i10⟩ ⟨hsf1, h⟩
  change True at hsf1
  change F_slices_swapRangeCmpFunc_Action_l1 n5 b4 a3 m11 l9 i10 = some r at h
  change AW _ _ _ ⟨slots [(0, raw v2), (1, rd (kint .i64) a3), (2, rd (kint .i64) b4), (3, rd (kint .i64) n5), (10, rd (kint .i64) i10)], ress [(0, Row v2 48 kAction l9)], _⟩
  cases m11 with
  | zero => cases h
  | succ m11 =>
    unfold F_slices_swapRangeCmpFunc_Action_l1 at h
    generalize hgo1 : F_slices_swapRangeCmpFunc_Action_l1 n5 b4 a3 m11 = go1 at h
    refine AW.seq ?_
    refine AW.seq ?_
    refine AW.region ?_
    refine AOps.cons (op_move (A := rd (kint .i64) i10) rfl rfl (vt rfl)) rfl ?_
    refine AOps.cons (op_move (A := rd (kint .i64) n5) rfl rfl (vt rfl)) rfl ?_
    refine AOps.cons (op_lss rfl rfl (vt rfl) (vt rfl)) rfl ?_
    refine AOps.nil ?_
    refine AW.cond (vt rfl) (fun hc => ?_) (fun hc => ?_)
    · have h := cond_t hc h
      refine AW.skip ?_
      refine AW.seq ?_
      refine AW.block ?_
      refine AW.vlen 0 rfl fun hvl0_127 => ?_
      obtain ⟨e12, he12, h⟩ := bsome h
      obtain ⟨e13, he13, h⟩ := bsome h
      obtain ⟨e14, he14, h⟩ := bsome h
      obtain ⟨e15, he15, h⟩ := bsome h
      refine AW.regionAny [⟨[0], [16], [], []⟩, ⟨[1], [17], [], []⟩, ⟨[10], [18], [], []⟩, ⟨[17, 18], [19], [], []⟩, ⟨[0], [20], [], []⟩, ⟨[2], [21], [], []⟩, ⟨[10], [22], [], []⟩, ⟨[21, 22], [23], [], []⟩, ⟨[0], [24], [], []⟩, ⟨[2], [25], [], []⟩, ⟨[10], [26], [], []⟩, ⟨[25, 26], [27], [], []⟩, ⟨[24, 27], [28], [], []⟩, ⟨[28], [29], [0], []⟩, ⟨[0], [30], [], []⟩, ⟨[1], [31], [], []⟩, ⟨[10], [32], [], []⟩, ⟨[31, 32], [33], [], []⟩, ⟨[30, 33], [34], [], []⟩, ⟨[34], [35], [0], []⟩, ⟨[16, 19], [36], [], []⟩, ⟨[36, 29], [], [0], [0]⟩, ⟨[20, 23], [37], [], []⟩, ⟨[37, 35], [], [0], [0]⟩] mixed (by kernel_rfl) ?_
      refine SeqA.cons (loc [0] [] rfl rfl fun S hs hr => op_move (A := raw v2) rfl rfl (vt ((hs 0 rfl).trans rfl))) ⟨rfl, rfl, rfl, rfl⟩ ?_
      refine SeqA.cons (loc [1] [] rfl rfl fun S hs hr => op_move (A := rd (kint .i64) a3) rfl rfl (vt ((hs 1 rfl).trans rfl))) ⟨rfl, rfl, rfl, rfl⟩ ?_
      refine SeqA.cons (loc [10] [] rfl rfl fun S hs hr => op_move (A := rd (kint .i64) i10) rfl rfl (vt ((hs 10 rfl).trans rfl))) ⟨rfl, rfl, rfl, rfl⟩ ?_
      refine SeqA.cons (loc [17, 18] [] rfl rfl fun S hs hr => op_add rfl rfl (vt ((hs 17 rfl).trans rfl)) (vt ((hs 18 rfl).trans rfl))) ⟨rfl, rfl, rfl, rfl⟩ ?_
      refine SeqA.cons (loc [0] [] rfl rfl fun S hs hr => op_move (A := raw v2) rfl rfl (vt ((hs 0 rfl).trans rfl))) ⟨rfl, rfl, rfl, rfl⟩ ?_
      refine SeqA.cons (loc [2] [] rfl rfl fun S hs hr => op_move (A := rd (kint .i64) b4) rfl rfl (vt ((hs 2 rfl).trans rfl))) ⟨rfl, rfl, rfl, rfl⟩ ?_
      refine SeqA.cons (loc [10] [] rfl rfl fun S hs hr => op_move (A := rd (kint .i64) i10) rfl rfl (vt ((hs 10 rfl).trans rfl))) ⟨rfl, rfl, rfl, rfl⟩ ?_
      refine SeqA.cons (loc [21, 22] [] rfl rfl fun S hs hr => op_add rfl rfl (vt ((hs 21 rfl).trans rfl)) (vt ((hs 22 rfl).trans rfl))) ⟨rfl, rfl, rfl, rfl⟩ ?_
      refine SeqA.cons (loc [0] [] rfl rfl fun S hs hr => op_move (A := raw v2) rfl rfl (vt ((hs 0 rfl).trans rfl))) ⟨rfl, rfl, rfl, rfl⟩ ?_
      refine SeqA.cons (loc [2] [] rfl rfl fun S hs hr => op_move (A := rd (kint .i64) b4) rfl rfl (vt ((hs 2 rfl).trans rfl))) ⟨rfl, rfl, rfl, rfl⟩ ?_
      refine SeqA.cons (loc [10] [] rfl rfl fun S hs hr => op_move (A := rd (kint .i64) i10) rfl rfl (vt ((hs 10 rfl).trans rfl))) ⟨rfl, rfl, rfl, rfl⟩ ?_
      refine SeqA.cons (loc [25, 26] [] rfl rfl fun S hs hr => op_add rfl rfl (vt ((hs 25 rfl).trans rfl)) (vt ((hs 26 rfl).trans rfl))) ⟨rfl, rfl, rfl, rfl⟩ ?_
      refine SeqA.cons (loc [24, 27] [] rfl rfl fun S hs hr => op_indexoP (l := l9) hvl0_127 rfl rfl rfl sl49 (vt ((hs 24 rfl).trans rfl)) (vt ((hs 27 rfl).trans rfl)) he12) ⟨rfl, rfl, rfl, rfl⟩ ?_
      refine SeqA.cons (loc [28] [0] rfl rfl fun S hs hr => op_loado' 0 rfl rfl ty48 (vt ((hs 28 rfl).trans rfl)) ((hr 0 rfl).trans rfl) (lget_of he12).2) ⟨rfl, rfl, rfl, rfl⟩ ?_
      refine SeqA.cons (loc [0] [] rfl rfl fun S hs hr => op_move (A := raw v2) rfl rfl (vt ((hs 0 rfl).trans rfl))) ⟨rfl, rfl, rfl, rfl⟩ ?_
      refine SeqA.cons (loc [1] [] rfl rfl fun S hs hr => op_move (A := rd (kint .i64) a3) rfl rfl (vt ((hs 1 rfl).trans rfl))) ⟨rfl, rfl, rfl, rfl⟩ ?_
      refine SeqA.cons (loc [10] [] rfl rfl fun S hs hr => op_move (A := rd (kint .i64) i10) rfl rfl (vt ((hs 10 rfl).trans rfl))) ⟨rfl, rfl, rfl, rfl⟩ ?_
      refine SeqA.cons (loc [31, 32] [] rfl rfl fun S hs hr => op_add rfl rfl (vt ((hs 31 rfl).trans rfl)) (vt ((hs 32 rfl).trans rfl))) ⟨rfl, rfl, rfl, rfl⟩ ?_
      refine SeqA.cons (loc [30, 33] [] rfl rfl fun S hs hr => op_indexoP (l := l9) hvl0_127 rfl rfl rfl sl49 (vt ((hs 30 rfl).trans rfl)) (vt ((hs 33 rfl).trans rfl)) he13) ⟨rfl, rfl, rfl, rfl⟩ ?_
      refine SeqA.cons (loc [34] [0] rfl rfl fun S hs hr => op_loado' 0 rfl rfl ty48 (vt ((hs 34 rfl).trans rfl)) ((hr 0 rfl).trans rfl) (lget_of he13).2) ⟨rfl, rfl, rfl, rfl⟩ ?_
      refine SeqA.cons (loc [16, 19] [] rfl rfl fun S hs hr => op_indexoP (l := l9) hvl0_127 rfl rfl rfl sl49 (vt ((hs 16 rfl).trans rfl)) (vt ((hs 19 rfl).trans rfl)) he14) ⟨rfl, rfl, rfl, rfl⟩ ?_
      refine SeqA.cons (locr [36, 29] [0] rfl fun S hs hr => op_storeo' 0 rfl rfl ty48 (vt ((hs 36 rfl).trans rfl)) ((hr 0 rfl).trans rfl) (lget_of he14).2 (vt ((hs 29 rfl).trans rfl))) ⟨rfl, rfl, rfl, rfl⟩ ?_
      refine SeqA.cons (loc [20, 23] [] rfl rfl fun S hs hr => op_indexoP (l := (List.set l9 (IntKind.i64.wrap (a3 + i10)).toNat e12)) hvl0_127 (by simp) rfl rfl sl49 (vt ((hs 20 rfl).trans rfl)) (vt ((hs 23 rfl).trans rfl)) he15) ⟨rfl, rfl, rfl, rfl⟩ ?_
      refine SeqA.cons (locr [37, 35] [0] rfl fun S hs hr => op_storeo' 0 rfl rfl ty48 (vt ((hs 37 rfl).trans rfl)) ((hr 0 rfl).trans rfl) (lget_of he15).2 (vt ((hs 35 rfl).trans rfl))) ⟨rfl, rfl, rfl, rfl⟩ ?_
      refine AW.region ?_
      refine AOps.cons (op_move (A := rd (kint .i64) i10) rfl rfl (vt rfl)) rfl ?_
      refine AOps.cons (op_add rfl rfl (vt rfl) (vk rfl)) rfl ?_
      refine AOps.cons (op_assign (A := rd (kint .i64) (IntKind.i64.wrap (i10 + 1))) rfl rfl (vt rfl)) rfl ?_
      refine AOps.nil ?_
      subst hgo1
      exact ⟨(m11, (List.set (List.set l9 (IntKind.i64.wrap (a3 + i10)).toNat e12) (IntKind.i64.wrap (b4 + i10)).toNat e13), (IntKind.i64.wrap (i10 + 1))), Nat.lt_succ_self _, ⟨trivial, h⟩, ⟨rfl, ⟨rfl, rfl, rfl, rfl, rfl, trivial⟩, ⟨rfl, trivial⟩⟩⟩
    · have h := cond_f hc h
      refine AW.exit ?_
      obtain rfl := Option.some.inj h
      exact ret0Y (i := 0) Tryz.results105 rfl rfl
def F_slices_rotateCmpFunc_Action_l1 (m4 : Int) (cmp6 : (Action → Action → Option Int)) : Nat → (List Action) → Int → Int → Option (List Action)
  | 0, _, _, _ => none
  | m13 + 1, l10, i11, j12 => (bif (decide (i11 ≠ j12)) then (bif (decide (i11 > j12)) then (F_slices_swapRangeCmpFunc_Action l10 (IntKind.i64.wrap (m4 - i11)) m4 j12 cmp6).bind fun l14 => (F_slices_rotateCmpFunc_Action_l1 m4 cmp6 m13) l14 (IntKind.i64.wrap (i11 - j12)) j12 else (F_slices_swapRangeCmpFunc_Action l10 (IntKind.i64.wrap (m4 - i11)) (IntKind.i64.wrap ((IntKind.i64.wrap (m4 + j12)) - i11)) i11 cmp6).bind fun l15 => (F_slices_rotateCmpFunc_Action_l1 m4 cmp6 m13) l15 i11 (IntKind.i64.wrap (j12 - i11))) else (F_slices_swapRangeCmpFunc_Action l10 (IntKind.i64.wrap (m4 - i11)) m4 i11 cmp6).bind fun l16 => some l16)
def F_slices_rotateCmpFunc_Action (data1 : (List Action)) (a3 : Int) (m4 : Int) (b5 : Int) (cmp6 : (Action → Action → Option Int)) : Option (List Action) :=
  F_slices_rotateCmpFunc_Action_l1 m4 cmp6 fuel0 data1 (IntKind.i64.wrap (m4 - a3)) (IntKind.i64.wrap (b5 - m4))
theorem c_slices_rotateCmpFunc_Action_o (v2 : Value) (data1 : (List Action)) (a3 : Int) (m4 : Int) (b5 : Int) (cmp6 : (Action → Action → Option Int)) (r : (List Action)) (h : F_slices_rotateCmpFunc_Action data1 a3 m4 b5 cmp6 = some r) : Con Tryz.prog 103 [raw v2, rd (kint .i64) a3, rd (kint .i64) m4, rd (kint .i64) b5, fn2 Tryz.prog kAction kAction (kint .i64) cmp6] (Row v2 48 kAction data1) (fun _ : Unit => top) (fun _ => Row v2 48 kAction r) := by
  refine Con.intro Tryz.func103 rfl Tryz.ntmps103 rfl fun w H X => ?_
  unfold F_slices_rotateCmpFunc_Action at h
  refine AW.seq ?_
  refine AW.region ?_
  refine AOps.cons (op_move (A := rd (kint .i64) m4) rfl rfl (vt rfl)) rfl ?_
  refine AOps.cons (op_move (A := rd (kint .i64) a3) rfl rfl (vt rfl)) rfl ?_
  refine AOps.cons (op_sub rfl rfl (vt rfl) (vt rfl)) rfl ?_
  refine AOps.cons (op_assign (A := rd (kint .i64) (IntKind.i64.wrap (m4 - a3))) rfl rfl (vt rfl)) rfl ?_
  refine AOps.nil ?_
  refine AW.seq ?_
  refine AW.region ?_
  refine AOps.cons (op_move (A := rd (kint .i64) b5) rfl rfl (vt rfl)) rfl ?_
  refine AOps.cons (op_move (A := rd (kint .i64) m4) rfl rfl (vt rfl)) rfl ?_
  refine AOps.cons (op_sub rfl rfl (vt rfl) (vt rfl)) rfl ?_
  refine AOps.cons (op_assign (A := rd (kint .i64) (IntKind.i64.wrap (b5 - m4))) rfl rfl (vt rfl)) rfl ?_
  refine AOps.nil ?_
  refine AW.seq ?_
  refine AW.block ?_
  refine AW.loopG (d := []) (ν := Nat × (List Action) × Int × Int) (fun n => True ∧ F_slices_rotateCmpFunc_Action_l1 m4 cmp6 n.1 n.2.1 n.2.2.1 n.2.2.2 = some r) (fun n => n.1) (fun n => [(0, raw v2), (2, rd (kint .i64) m4), (4, fn2 Tryz.prog kAction kAction (kint .i64) cmp6), (10, rd (kint .i64) n.2.2.1), (11, rd (kint .i64) n.2.2.2)]) (fun n => [(0, Row v2 48 kAction n.2.1)]) (fuel0, data1, (IntKind.i64.wrap (m4 - a3)), (IntKind.i64.wrap (b5 - m4))) ⟨trivial, h⟩ ⟨rfl, ⟨rfl, rfl, rfl, rfl, rfl, trivial⟩, ⟨rfl, trivial⟩⟩ ?_
  rintro ⟨m13, l10, i11, j12⟩ ⟨hsf1, h⟩
  change True at hsf1
  change F_slices_rotateCmpFunc_Action_l1 m4 cmp6 m13 l10 i11 j12 = some r at h
  change AW _ _ _ ⟨slots [(0, raw v2), (2, rd (kint .i64) m4), (4, fn2 Tryz.prog kAction kAction (kint .i64) cmp6), (10, rd (kint .i64) i11), (11, rd (kint .i64) j12)], ress [(0, Row v2 48 kAction l10)], _⟩
  cases m13 with
  | zero => cases h
  | succ m13 =>
    unfold F_slices_rotateCmpFunc_Action_l1 at h
    generalize hgo1 : F_slices_rotateCmpFunc_Action_l1 m4 cmp6 m13 = go1 at h
    refine AW.seq ?_
    refine AW.seq ?_
    refine AW.region ?_
    refine AOps.cons (op_move (A := rd (kint .i64) i11) rfl rfl (vt rfl)) rfl ?_
    refine AOps.cons (op_move (A := rd (kint .i64) j12) rfl rfl (vt rfl)) rfl ?_
    refine AOps.cons (op_neq rfl rfl (vt rfl) (vt rfl)) rfl ?_
    refine AOps.nil ?_
    refine AW.cond (vt rfl) (fun hc => ?_) (fun hc => ?_)
    · have h := cond_t hc h
      refine AW.skip ?_
      refine AW.block ?_
      refine AW.seq ?_
      refine AW.region ?_
      refine AOps.cons (op_move (A := rd (kint .i64) i11) rfl rfl (vt rfl)) rfl ?_
      refine AOps.cons (op_move (A := rd (kint .i64) j12) rfl rfl (vt rfl)) rfl ?_
      refine AOps.cons (op_gtr rfl rfl (vt rfl) (vt rfl)) rfl ?_
      refine AOps.nil ?_
      refine AW.cond (vt rfl) (fun hc => ?_) (fun hc => ?_)
      · have h := cond_t hc h
        refine AW.seq ?_
        obtain ⟨l14, hl14, h⟩ := bsome h
        refine AW.region ?_
        refine AOps.cons (op_move (A := raw v2) rfl rfl (vt rfl)) rfl ?_
        refine AOps.cons (op_move (A := rd (kint .i64) m4) rfl rfl (vt rfl)) rfl ?_
        refine AOps.cons (op_move (A := rd (kint .i64) i11) rfl rfl (vt rfl)) rfl ?_
        refine AOps.cons (op_sub rfl rfl (vt rfl) (vt rfl)) rfl ?_
        refine AOps.cons (op_move (A := rd (kint .i64) m4) rfl rfl (vt rfl)) rfl ?_
        refine AOps.cons (op_move (A := rd (kint .i64) j12) rfl rfl (vt rfl)) rfl ?_
        refine AOps.cons (op_move (A := fn2 Tryz.prog kAction kAction (kint .i64) cmp6) rfl rfl (vt rfl)) rfl ?_
        refine AOps.consT rfl (op_callR 0 (xs := [.tmp 24, .tmp 27, .tmp 28, .tmp 29, .tmp 30]) (c_slices_swapRangeCmpFunc_Action_o _ _ _ _ _ _ _ hl14) (Ent.mk Tryz.func105 rfl rfl) rfl rfl ⟨vt rfl, vt rfl, vt rfl, vt rfl, vt rfl, trivial⟩ rfl) ?_
        rintro _ ⟨_u, rfl⟩
        refine AOps.nil ?_
        refine AW.region ?_
        refine AOps.cons (op_move (A := rd (kint .i64) i11) rfl rfl (vt rfl)) rfl ?_
        refine AOps.cons (op_move (A := rd (kint .i64) j12) rfl rfl (vt rfl)) rfl ?_
        refine AOps.cons (op_sub rfl rfl (vt rfl) (vt rfl)) rfl ?_
        refine AOps.cons (op_assign (A := rd (kint .i64) (IntKind.i64.wrap (i11 - j12))) rfl rfl (vt rfl)) rfl ?_
        refine AOps.nil ?_
        subst hgo1
        exact ⟨(m13, l14, (IntKind.i64.wrap (i11 - j12)), j12), Nat.lt_succ_self _, ⟨trivial, h⟩, ⟨rfl, ⟨rfl, rfl, rfl, rfl, rfl, trivial⟩, ⟨rfl, trivial⟩⟩⟩
      · have h := cond_f hc h
        refine AW.seq ?_
        obtain ⟨l15, hl15, h⟩ := bsome h
        refine AW.region ?_
        refine AOps.cons (op_move (A := raw v2) rfl rfl (vt rfl)) rfl ?_
        refine AOps.cons (op_move (A := rd (kint .i64) m4) rfl rfl (vt rfl)) rfl ?_
        refine AOps.cons (op_move (A := rd (kint .i64) i11) rfl rfl (vt rfl)) rfl ?_
        refine AOps.cons (op_sub rfl rfl (vt rfl) (vt rfl)) rfl ?_
        refine AOps.cons (op_move (A := rd (kint .i64) m4) rfl rfl (vt rfl)) rfl ?_
        refine AOps.cons (op_move (A := rd (kint .i64) j12) rfl rfl (vt rfl)) rfl ?_
        refine AOps.cons (op_add rfl rfl (vt rfl) (vt rfl)) rfl ?_
        refine AOps.cons (op_move (A := rd (kint .i64) i11) rfl rfl (vt rfl)) rfl ?_
        refine AOps.cons (op_sub rfl rfl (vt rfl) (vt rfl)) rfl ?_
        refine AOps.cons (op_move (A := rd (kint .i64) i11) rfl rfl (vt rfl)) rfl ?_
        refine AOps.cons (op_move (A := fn2 Tryz.prog kAction kAction (kint .i64) cmp6) rfl rfl (vt rfl)) rfl ?_
        refine AOps.consT rfl (op_callR 0 (xs := [.tmp 35, .tmp 38, .tmp 43, .tmp 44, .tmp 45]) (c_slices_swapRangeCmpFunc_Action_o _ _ _ _ _ _ _ hl15) (Ent.mk Tryz.func105 rfl rfl) rfl rfl ⟨vt rfl, vt rfl, vt rfl, vt rfl, vt rfl, trivial⟩ rfl) ?_
        rintro _ ⟨_u, rfl⟩
        refine AOps.nil ?_
        refine AW.region ?_
        refine AOps.cons (op_move (A := rd (kint .i64) j12) rfl rfl (vt rfl)) rfl ?_
        refine AOps.cons (op_move (A := rd (kint .i64) i11) rfl rfl (vt rfl)) rfl ?_
        refine AOps.cons (op_sub rfl rfl (vt rfl) (vt rfl)) rfl ?_
        refine AOps.cons (op_assign (A := rd (kint .i64) (IntKind.i64.wrap (j12 - i11))) rfl rfl (vt rfl)) rfl ?_
        refine AOps.nil ?_
        subst hgo1
        exact ⟨(m13, l15, i11, (IntKind.i64.wrap (j12 - i11))), Nat.lt_succ_self _, ⟨trivial, h⟩, ⟨rfl, ⟨rfl, rfl, rfl, rfl, rfl, trivial⟩, ⟨rfl, trivial⟩⟩⟩
    · have h := cond_f hc h
      refine AW.exit ?_
      obtain ⟨l16, hl16, h⟩ := bsome h
      refine AW.region ?_
      refine AOps.cons (op_move (A := raw v2) rfl rfl (vt rfl)) rfl ?_
      refine AOps.cons (op_move (A := rd (kint .i64) m4) rfl rfl (vt rfl)) rfl ?_
      refine AOps.cons (op_move (A := rd (kint .i64) i11) rfl rfl (vt rfl)) rfl ?_
      refine AOps.cons (op_sub rfl rfl (vt rfl) (vt rfl)) rfl ?_
      refine AOps.cons (op_move (A := rd (kint .i64) m4) rfl rfl (vt rfl)) rfl ?_
      refine AOps.cons (op_move (A := rd (kint .i64) i11) rfl rfl (vt rfl)) rfl ?_
      refine AOps.cons (op_move (A := fn2 Tryz.prog kAction kAction (kint .i64) cmp6) rfl rfl (vt rfl)) rfl ?_
      refine AOps.consT rfl (op_callR 0 (xs := [.tmp 50, .tmp 53, .tmp 54, .tmp 55, .tmp 56]) (c_slices_swapRangeCmpFunc_Action_o _ _ _ _ _ _ _ hl16) (Ent.mk Tryz.func105 rfl rfl) rfl rfl ⟨vt rfl, vt rfl, vt rfl, vt rfl, vt rfl, trivial⟩ rfl) ?_
      rintro _ ⟨_u, rfl⟩
      refine AOps.nil ?_
      obtain rfl := Option.some.inj h
      exact ret0Y (i := 0) Tryz.results103 rfl rfl
def F_slices_symMergeCmpFunc_Action_s_l2 (i9 : Int) : Nat → (List Action) → Int → Option (List Action)
  | 0, _, _ => none
  | m20 + 1, l18, k19 => (bif (decide (k19 < (IntKind.i64.wrap (i9 - 1)))) then (lget l18 (IntKind.i64.wrap (k19 + 1))).bind fun e21 => (lget l18 k19).bind fun e22 => (lget l18 k19).bind fun e23 => (lget (List.set l18 k19.toNat e21) (IntKind.i64.wrap (k19 + 1))).bind fun e24 => (F_slices_symMergeCmpFunc_Action_s_l2 i9 m20) (List.set (List.set l18 k19.toNat e21) (IntKind.i64.wrap (k19 + 1)).toNat e22) (IntKind.i64.wrap (k19 + 1)) else some l18)
def F_slices_symMergeCmpFunc_Action_s_l1 (data1 : (List Action)) (a3 : Int) (cmp6 : (Action → Action → Option Int)) : Nat → Int → Int → Option (List Action)
  | 0, _, _ => none
  | m11 + 1, i9, j10 => (bif (decide (i9 < j10)) then (oushr (BitVec.ofInt 64 (IntKind.i64.wrap (i9 + j10))) ((1 : BitVec 64).toNat : Int)).bind fun q12 => (lget data1 (IntKind.i64.wrap (q12.toNat : Int))).bind fun e13 => (lget data1 a3).bind fun e14 => (cmp6 e13 e14).bind fun x15 => (bif (decide (x15 < 0)) then (F_slices_symMergeCmpFunc_Action_s_l1 data1 a3 cmp6 m11) (IntKind.i64.wrap ((IntKind.i64.wrap (q12.toNat : Int)) + 1)) j10 else (F_slices_symMergeCmpFunc_Action_s_l1 data1 a3 cmp6 m11) i9 (IntKind.i64.wrap (q12.toNat : Int))) else F_slices_symMergeCmpFunc_Action_s_l2 i9 ((((IntKind.i64.wrap (i9 - 1)) : Int) - a3).toNat + 1) data1 a3)
def F_slices_symMergeCmpFunc_Action_s_l4 (i27 : Int) : Nat → (List Action) → Int → Option (List Action)
  | 0, _, _ => none
  | m38 + 1, l36, k37 => (bif (decide (k37 > i27)) then (lget l36 (IntKind.i64.wrap (k37 - 1))).bind fun e39 => (lget l36 k37).bind fun e40 => (lget l36 k37).bind fun e41 => (lget (List.set l36 k37.toNat e39) (IntKind.i64.wrap (k37 - 1))).bind fun e42 => (F_slices_symMergeCmpFunc_Action_s_l4 i27 m38) (List.set (List.set l36 k37.toNat e39) (IntKind.i64.wrap (k37 - 1)).toNat e40) (IntKind.i64.wrap (k37 - 1)) else some l36)
def F_slices_symMergeCmpFunc_Action_s_l3 (data1 : (List Action)) (m4 : Int) (cmp6 : (Action → Action → Option Int)) : Nat → Int → Int → Option (List Action)
  | 0, _, _ => none
  | m29 + 1, i27, j28 => (bif (decide (i27 < j28)) then (oushr (BitVec.ofInt 64 (IntKind.i64.wrap (i27 + j28))) ((1 : BitVec 64).toNat : Int)).bind fun q30 => (lget data1 m4).bind fun e31 => (lget data1 (IntKind.i64.wrap (q30.toNat : Int))).bind fun e32 => (cmp6 e31 e32).bind fun x33 => (bif (!(decide (x33 < 0))) then (F_slices_symMergeCmpFunc_Action_s_l3 data1 m4 cmp6 m29) (IntKind.i64.wrap ((IntKind.i64.wrap (q30.toNat : Int)) + 1)) j28 else (F_slices_symMergeCmpFunc_Action_s_l3 data1 m4 cmp6 m29) i27 (IntKind.i64.wrap (q30.toNat : Int))) else F_slices_symMergeCmpFunc_Action_s_l4 i27 (((m4 : Int) - i27).toNat + 1) data1 m4)
def F_slices_symMergeCmpFunc_Action_s_j8 (q43 : (BitVec 64)) (m4 : Int) (start48 : Int) (b5 : Int) (R_slices_symMergeCmpFunc_Action : ((List Action) → Int → Int → Int → (Action → Action → Option Int) → Option (List Action))) (cmp6 : (Action → Action → Option Int)) (l56 : (List Action)) : Option (List Action) :=
  (bif ((decide ((IntKind.i64.wrap (q43.toNat : Int)) < (IntKind.i64.wrap ((IntKind.i64.wrap ((IntKind.i64.wrap (q43.toNat : Int)) + m4)) - start48)))) && (decide ((IntKind.i64.wrap ((IntKind.i64.wrap ((IntKind.i64.wrap (q43.toNat : Int)) + m4)) - start48)) < b5))) then (R_slices_symMergeCmpFunc_Action l56 (IntKind.i64.wrap (q43.toNat : Int)) (IntKind.i64.wrap ((IntKind.i64.wrap ((IntKind.i64.wrap (q43.toNat : Int)) + m4)) - start48)) b5 cmp6).bind fun l57 => some l57 else some l56)
def F_slices_symMergeCmpFunc_Action_s_j7 (a3 : Int) (start48 : Int) (q43 : (BitVec 64)) (R_slices_symMergeCmpFunc_Action : ((List Action) → Int → Int → Int → (Action → Action → Option Int) → Option (List Action))) (cmp6 : (Action → Action → Option Int)) (m4 : Int) (b5 : Int) (l55 : (List Action)) : Option (List Action) :=
  (bif ((decide (a3 < start48)) && (decide (start48 < (IntKind.i64.wrap (q43.toNat : Int))))) then (R_slices_symMergeCmpFunc_Action l55 a3 start48 (IntKind.i64.wrap (q43.toNat : Int)) cmp6).bind fun l58 => F_slices_symMergeCmpFunc_Action_s_j8 q43 m4 start48 b5 R_slices_symMergeCmpFunc_Action cmp6 l58 else F_slices_symMergeCmpFunc_Action_s_j8 q43 m4 start48 b5 R_slices_symMergeCmpFunc_Action cmp6 l55)
def F_slices_symMergeCmpFunc_Action_s_l6 (data1 : (List Action)) (q43 : (BitVec 64)) (m4 : Int) (cmp6 : (Action → Action → Option Int)) (a3 : Int) (R_slices_symMergeCmpFunc_Action : ((List Action) → Int → Int → Int → (Action → Action → Option Int) → Option (List Action))) (b5 : Int) : Nat → Int → Int → Option (List Action)
  | 0, _, _ => none
  | m50 + 1, start48, r49 => (bif (decide (start48 < r49)) then (oushr (BitVec.ofInt 64 (IntKind.i64.wrap (start48 + r49))) ((1 : BitVec 64).toNat : Int)).bind fun q51 => (lget data1 (IntKind.i64.wrap ((IntKind.i64.wrap ((IntKind.i64.wrap ((IntKind.i64.wrap (q43.toNat : Int)) + m4)) - 1)) - (IntKind.i64.wrap (q51.toNat : Int))))).bind fun e52 => (lget data1 (IntKind.i64.wrap (q51.toNat : Int))).bind fun e53 => (cmp6 e52 e53).bind fun x54 => (bif (!(decide (x54 < 0))) then (F_slices_symMergeCmpFunc_Action_s_l6 data1 q43 m4 cmp6 a3 R_slices_symMergeCmpFunc_Action b5 m50) (IntKind.i64.wrap ((IntKind.i64.wrap (q51.toNat : Int)) + 1)) r49 else (F_slices_symMergeCmpFunc_Action_s_l6 data1 q43 m4 cmp6 a3 R_slices_symMergeCmpFunc_Action b5 m50) start48 (IntKind.i64.wrap (q51.toNat : Int))) else (bif ((decide (start48 < m4)) && (decide (m4 < (IntKind.i64.wrap ((IntKind.i64.wrap ((IntKind.i64.wrap (q43.toNat : Int)) + m4)) - start48))))) then (F_slices_rotateCmpFunc_Action data1 start48 m4 (IntKind.i64.wrap ((IntKind.i64.wrap ((IntKind.i64.wrap (q43.toNat : Int)) + m4)) - start48)) cmp6).bind fun l59 => F_slices_symMergeCmpFunc_Action_s_j7 a3 start48 q43 R_slices_symMergeCmpFunc_Action cmp6 m4 b5 l59 else F_slices_symMergeCmpFunc_Action_s_j7 a3 start48 q43 R_slices_symMergeCmpFunc_Action cmp6 m4 b5 data1))
def F_slices_symMergeCmpFunc_Action_s_j5 (data1 : (List Action)) (q43 : (BitVec 64)) (m4 : Int) (cmp6 : (Action → Action → Option Int)) (a3 : Int) (R_slices_symMergeCmpFunc_Action : ((List Action) → Int → Int → Int → (Action → Action → Option Int) → Option (List Action))) (b5 : Int) (start44 : Int) (r45 : Int) : Option (List Action) :=
  F_slices_symMergeCmpFunc_Action_s_l6 data1 q43 m4 cmp6 a3 R_slices_symMergeCmpFunc_Action b5 (((r45 : Int) - start44).toNat + 1) start44 r45
def F_slices_symMergeCmpFunc_Action_s (R_slices_symMergeCmpFunc_Action : ((List Action) → Int → Int → Int → (Action → Action → Option Int) → Option (List Action))) (data1 : (List Action)) (a3 : Int) (m4 : Int) (b5 : Int) (cmp6 : (Action → Action → Option Int)) : Option (List Action) :=
  (bif (decide ((IntKind.i64.wrap (m4 - a3)) = 1)) then F_slices_symMergeCmpFunc_Action_s_l1 data1 a3 cmp6 (((b5 : Int) - m4).toNat + 1) m4 b5 else (bif (decide ((IntKind.i64.wrap (b5 - m4)) = 1)) then F_slices_symMergeCmpFunc_Action_s_l3 data1 m4 cmp6 (((m4 : Int) - a3).toNat + 1) a3 m4 else (oushr (BitVec.ofInt 64 (IntKind.i64.wrap (a3 + b5))) ((1 : BitVec 64).toNat : Int)).bind fun q43 => (bif (decide (m4 > (IntKind.i64.wrap (q43.toNat : Int)))) then F_slices_symMergeCmpFunc_Action_s_j5 data1 q43 m4 cmp6 a3 R_slices_symMergeCmpFunc_Action b5 (IntKind.i64.wrap ((IntKind.i64.wrap ((IntKind.i64.wrap (q43.toNat : Int)) + m4)) - b5)) (IntKind.i64.wrap (q43.toNat : Int)) else F_slices_symMergeCmpFunc_Action_s_j5 data1 q43 m4 cmp6 a3 R_slices_symMergeCmpFunc_Action b5 a3 m4)))
theorem c_slices_symMergeCmpFunc_Action_s (R_slices_symMergeCmpFunc_Action : ((List Action) → Int → Int → Int → (Action → Action → Option Int) → Option (List Action))) (hR_slices_symMergeCmpFunc_Action : ∀ (v2 : Value) (data1 : (List Action)) (a3 : Int) (m4 : Int) (b5 : Int) (cmp6 : (Action → Action → Option Int)) (r : (List Action)), R_slices_symMergeCmpFunc_Action data1 a3 m4 b5 cmp6 = some r → Con Tryz.prog 96 [raw v2, rd (kint .i64) a3, rd (kint .i64) m4, rd (kint .i64) b5, fn2 Tryz.prog kAction kAction (kint .i64) cmp6] (Row v2 48 kAction data1) (fun _ : Unit => top) (fun _ => Row v2 48 kAction r)) (v2 : Value) (data1 : (List Action)) (a3 : Int) (m4 : Int) (b5 : Int) (cmp6 : (Action → Action → Option Int)) (r : (List Action)) (h : F_slices_symMergeCmpFunc_Action_s R_slices_symMergeCmpFunc_Action data1 a3 m4 b5 cmp6 = some r) : Con Tryz.prog 96 [raw v2, rd (kint .i64) a3, rd (kint .i64) m4, rd (kint .i64) b5, fn2 Tryz.prog kAction kAction (kint .i64) cmp6] (Row v2 48 kAction data1) (fun _ : Unit => top) (fun _ => Row v2 48 kAction r) := by
  refine Con.intro Tryz.func96 rfl Tryz.ntmps96 rfl fun w H X => ?_
  unfold F_slices_symMergeCmpFunc_Action_s at h
  refine AW.seq ?_
  refine AW.seq ?_
  refine AW.region ?_
  refine AOps.cons (op_move (A := rd (kint .i64) m4) rfl rfl (vt rfl)) rfl ?_
  refine AOps.cons (op_move (A := rd (kint .i64) a3) rfl rfl (vt rfl)) rfl ?_
  refine AOps.cons (op_sub rfl rfl (vt rfl) (vt rfl)) rfl ?_
  refine AOps.cons (op_eql rfl rfl (vt rfl) (vk rfl)) rfl ?_
  refine AOps.nil ?_
  refine AW.cond (vt rfl) (fun hc => ?_) (fun hc => ?_)
  · have h := cond_t hc h
    refine AW.seq ?_
    refine AW.region ?_
    refine AOps.cons (op_move (A := rd (kint .i64) m4) rfl rfl (vt rfl)) rfl ?_
    refine AOps.cons (op_assign (A := rd (kint .i64) m4) rfl rfl (vt rfl)) rfl ?_
    refine AOps.nil ?_
    refine AW.seq ?_
    refine AW.region ?_
    refine AOps.cons (op_move (A := rd (kint .i64) b5) rfl rfl (vt rfl)) rfl ?_
    refine AOps.cons (op_assign (A := rd (kint .i64) b5) rfl rfl (vt rfl)) rfl ?_
    refine AOps.nil ?_
    refine AW.seq ?_
    refine AW.block ?_
    refine AW.loopG (d := []) (ν := Nat × Int × Int) (fun n => True ∧ F_slices_symMergeCmpFunc_Action_s_l1 data1 a3 cmp6 n.1 n.2.1 n.2.2 = some r) (fun n => n.1) (fun n => [(0, raw v2), (1, rd (kint .i64) a3), (4, fn2 Tryz.prog kAction kAction (kint .i64) cmp6), (10, rd (kint .i64) n.2.1), (11, rd (kint .i64) n.2.2)]) (fun n => [(0, Row v2 48 kAction data1)]) ((((b5 : Int) - m4).toNat + 1), m4, b5) ⟨trivial, h⟩ ⟨rfl, ⟨rfl, rfl, rfl, rfl, rfl, trivial⟩, ⟨rfl, trivial⟩⟩ ?_
    rintro ⟨m11, i9, j10⟩ ⟨hsf1, h⟩
    change True at hsf1
    change F_slices_symMergeCmpFunc_Action_s_l1 data1 a3 cmp6 m11 i9 j10 = some r at h
    change AW _ _ _ ⟨slots [(0, raw v2), (1, rd (kint .i64) a3), (4, fn2 Tryz.prog kAction kAction (kint .i64) cmp6), (10, rd (kint .i64) i9), (11, rd (kint .i64) j10)], ress [(0, Row v2 48 kAction data1)], _⟩
    cases m11 with
    | zero => cases h
    | succ m11 =>
      unfold F_slices_symMergeCmpFunc_Action_s_l1 at h
      generalize hgo1 : F_slices_symMergeCmpFunc_Action_s_l1 data1 a3 cmp6 m11 = go1 at h
      refine AW.seq ?_
      refine AW.seq ?_
      refine AW.region ?_
      refine AOps.cons (op_move (A := rd (kint .i64) i9) rfl rfl (vt rfl)) rfl ?_
      refine AOps.cons (op_move (A := rd (kint .i64) j10) rfl rfl (vt rfl)) rfl ?_
      refine AOps.cons (op_lss rfl rfl (vt rfl) (vt rfl)) rfl ?_
      refine AOps.nil ?_
      refine AW.cond (vt rfl) (fun hc => ?_) (fun hc => ?_)
      · have h := cond_t hc h
        refine AW.skip ?_
        refine AW.block ?_
        refine AW.seq ?_
        obtain ⟨q12, hq12, h⟩ := bsome h
        refine AW.region ?_
        refine AOps.cons (op_move (A := rd (kint .i64) i9) rfl rfl (vt rfl)) rfl ?_
        refine AOps.cons (op_move (A := rd (kint .i64) j10) rfl rfl (vt rfl)) rfl ?_
        refine AOps.cons (op_add rfl rfl (vt rfl) (vt rfl)) rfl ?_
        refine AOps.cons (op_convu rfl rfl us3 un151 (vt rfl)) rfl ?_
        refine AOps.cons (op_ushr rfl rfl (vt rfl) (vu64 (vku (1 : BitVec 64) rfl)) hq12) rfl ?_
        refine AOps.cons (op_uconv rfl rfl us151 un3 (vt rfl)) rfl ?_
        refine AOps.cons (op_assign (A := rd (kint .i64) (IntKind.i64.wrap (q12.toNat : Int))) rfl rfl (vt rfl)) rfl ?_
        refine AOps.nil ?_
        refine AW.seq ?_
        obtain ⟨e13, he13, h⟩ := bsome h
        obtain ⟨e14, he14, h⟩ := bsome h
        obtain ⟨x15, hx15, h⟩ := bsome h
        refine AW.regionAny [⟨[4], [40], [], []⟩, ⟨[0], [41], [], []⟩, ⟨[12], [42], [], []⟩, ⟨[41, 42], [43], [0], []⟩, ⟨[43], [44], [0], []⟩, ⟨[0], [45], [], []⟩, ⟨[1], [46], [], []⟩, ⟨[45, 46], [47], [0], []⟩, ⟨[47], [48], [0], []⟩, ⟨[40, 44, 48], [49], [], []⟩, ⟨[49], [50], [], []⟩] mixed (by kernel_rfl) ?_
        refine SeqA.cons (loc [4] [] rfl rfl fun S hs hr => op_move (A := fn2 Tryz.prog kAction kAction (kint .i64) cmp6) rfl rfl (vt ((hs 4 rfl).trans rfl))) ⟨rfl, rfl, rfl, rfl⟩ ?_
        refine SeqA.cons (loc [0] [] rfl rfl fun S hs hr => op_move (A := raw v2) rfl rfl (vt ((hs 0 rfl).trans rfl))) ⟨rfl, rfl, rfl, rfl⟩ ?_
        refine SeqA.cons (loc [12] [] rfl rfl fun S hs hr => op_move (A := rd (kint .i64) (IntKind.i64.wrap (q12.toNat : Int))) rfl rfl (vt ((hs 12 rfl).trans rfl))) ⟨rfl, rfl, rfl, rfl⟩ ?_
        refine SeqA.cons (loc [41, 42] [0] rfl rfl fun S hs hr => op_indexo' 0 rfl rfl sl49 (vt ((hs 41 rfl).trans rfl)) ((hr 0 rfl).trans rfl) (vt ((hs 42 rfl).trans rfl)) he13) ⟨rfl, rfl, rfl, rfl⟩ ?_
        refine SeqA.cons (loc [43] [0] rfl rfl fun S hs hr => op_loado' 0 rfl rfl ty48 (vt ((hs 43 rfl).trans rfl)) ((hr 0 rfl).trans rfl) (lget_of he13).2) ⟨rfl, rfl, rfl, rfl⟩ ?_
        refine SeqA.cons (loc [0] [] rfl rfl fun S hs hr => op_move (A := raw v2) rfl rfl (vt ((hs 0 rfl).trans rfl))) ⟨rfl, rfl, rfl, rfl⟩ ?_
        refine SeqA.cons (loc [1] [] rfl rfl fun S hs hr => op_move (A := rd (kint .i64) a3) rfl rfl (vt ((hs 1 rfl).trans rfl))) ⟨rfl, rfl, rfl, rfl⟩ ?_
        refine SeqA.cons (loc [45, 46] [0] rfl rfl fun S hs hr => op_indexo' 0 rfl rfl sl49 (vt ((hs 45 rfl).trans rfl)) ((hr 0 rfl).trans rfl) (vt ((hs 46 rfl).trans rfl)) he14) ⟨rfl, rfl, rfl, rfl⟩ ?_
        refine SeqA.cons (loc [47] [0] rfl rfl fun S hs hr => op_loado' 0 rfl rfl ty48 (vt ((hs 47 rfl).trans rfl)) ((hr 0 rfl).trans rfl) (lget_of he14).2) ⟨rfl, rfl, rfl, rfl⟩ ?_
        refine SeqA.cons (loc [40, 44, 48] [] rfl rfl fun S hs hr => op_call2 hx15 rfl rfl (vt ((hs 40 rfl).trans rfl)) (vt ((hs 44 rfl).trans rfl)) (vt ((hs 48 rfl).trans rfl))) ⟨rfl, rfl, rfl, rfl⟩ ?_
        refine SeqA.cons (loc [49] [] rfl rfl fun S hs hr => op_lss rfl rfl (vt ((hs 49 rfl).trans rfl)) (vk rfl)) ⟨rfl, rfl, rfl, rfl⟩ ?_
        refine AW.cond (vt rfl) (fun hc => ?_) (fun hc => ?_)
        · have h := cond_t hc h
          refine AW.region ?_
          refine AOps.cons (op_move (A := rd (kint .i64) (IntKind.i64.wrap (q12.toNat : Int))) rfl rfl (vt rfl)) rfl ?_
          refine AOps.cons (op_add rfl rfl (vt rfl) (vk rfl)) rfl ?_
          refine AOps.cons (op_assign (A := rd (kint .i64) (IntKind.i64.wrap ((IntKind.i64.wrap (q12.toNat : Int)) + 1))) rfl rfl (vt rfl)) rfl ?_
          refine AOps.nil ?_
          subst hgo1
          exact ⟨(m11, (IntKind.i64.wrap ((IntKind.i64.wrap (q12.toNat : Int)) + 1)), j10), Nat.lt_succ_self _, ⟨trivial, h⟩, ⟨rfl, ⟨rfl, rfl, rfl, rfl, rfl, trivial⟩, ⟨rfl, trivial⟩⟩⟩
        · have h := cond_f hc h
          refine AW.region ?_
          refine AOps.cons (op_move (A := rd (kint .i64) (IntKind.i64.wrap (q12.toNat : Int))) rfl rfl (vt rfl)) rfl ?_
          refine AOps.cons (op_assign (A := rd (kint .i64) (IntKind.i64.wrap (q12.toNat : Int))) rfl rfl (vt rfl)) rfl ?_
          refine AOps.nil ?_
          subst hgo1
          exact ⟨(m11, i9, (IntKind.i64.wrap (q12.toNat : Int))), Nat.lt_succ_self _, ⟨trivial, h⟩, ⟨rfl, ⟨rfl, rfl, rfl, rfl, rfl, trivial⟩, ⟨rfl, trivial⟩⟩⟩
      · have h := cond_f hc h
        refine AW.exit ?_
        refine AW.seq ?_
        refine AW.seq ?_
        refine AW.region ?_
        refine AOps.cons (op_move (A := rd (kint .i64) a3) rfl rfl (vt rfl)) rfl ?_
        refine AOps.cons (op_assign (A := rd (kint .i64) a3) rfl rfl (vt rfl)) rfl ?_
        refine AOps.nil ?_
        refine AW.block ?_
        refine AW.loopG (d := []) (ν := Nat × (List Action) × Int) (fun n => True ∧ F_slices_symMergeCmpFunc_Action_s_l2 i9 n.1 n.2.1 n.2.2 = some r) (fun n => n.1) (fun n => [(0, raw v2), (10, rd (kint .i64) i9), (13, rd (kint .i64) n.2.2)]) (fun n => [(0, Row v2 48 kAction n.2.1)]) (((((IntKind.i64.wrap (i9 - 1)) : Int) - a3).toNat + 1), data1, a3) ⟨trivial, h⟩ ⟨rfl, ⟨rfl, rfl, rfl, trivial⟩, ⟨rfl, trivial⟩⟩ ?_
        rintro ⟨m20, l18, k19⟩ ⟨hsf2, h⟩
        change True at hsf2
        change F_slices_symMergeCmpFunc_Action_s_l2 i9 m20 l18 k19 = some r at h
        change AW _ _ _ ⟨slots [(0, raw v2), (10, rd (kint .i64) i9), (13, rd (kint .i64) k19)], ress [(0, Row v2 48 kAction l18)], _⟩
        cases m20 with
        | zero => cases h
        | succ m20 =>
          unfold F_slices_symMergeCmpFunc_Action_s_l2 at h
          generalize hgo2 : F_slices_symMergeCmpFunc_Action_s_l2 i9 m20 = go2 at h
          refine AW.seq ?_
          refine AW.seq ?_
          refine AW.region ?_
          refine AOps.cons (op_move (A := rd (kint .i64) k19) rfl rfl (vt rfl)) rfl ?_
          refine AOps.cons (op_move (A := rd (kint .i64) i9) rfl rfl (vt rfl)) rfl ?_
          refine AOps.cons (op_sub rfl rfl (vt rfl) (vk rfl)) rfl ?_
          refine AOps.cons (op_lss rfl rfl (vt rfl) (vt rfl)) rfl ?_
          refine AOps.nil ?_
          refine AW.cond (vt rfl) (fun hc => ?_) (fun hc => ?_)
          · have h := cond_t hc h
            refine AW.skip ?_
            refine AW.seq ?_
            refine AW.block ?_
            refine AW.vlen 0 rfl fun hvl0_218 => ?_
            obtain ⟨e21, he21, h⟩ := bsome h
            obtain ⟨e22, he22, h⟩ := bsome h
            obtain ⟨e23, he23, h⟩ := bsome h
            obtain ⟨e24, he24, h⟩ := bsome h
            refine AW.regionAny [⟨[0], [61], [], []⟩, ⟨[13], [62], [], []⟩, ⟨[0], [63], [], []⟩, ⟨[13], [64], [], []⟩, ⟨[64], [65], [], []⟩, ⟨[0], [66], [], []⟩, ⟨[13], [67], [], []⟩, ⟨[67], [68], [], []⟩, ⟨[66, 68], [69], [], []⟩, ⟨[69], [70], [0], []⟩, ⟨[0], [71], [], []⟩, ⟨[13], [72], [], []⟩, ⟨[71, 72], [73], [], []⟩, ⟨[73], [74], [0], []⟩, ⟨[61, 62], [75], [], []⟩, ⟨[75, 70], [], [0], [0]⟩, ⟨[63, 65], [76], [], []⟩, ⟨[76, 74], [], [0], [0]⟩] mixed (by kernel_rfl) ?_
            refine SeqA.cons (loc [0] [] rfl rfl fun S hs hr => op_move (A := raw v2) rfl rfl (vt ((hs 0 rfl).trans rfl))) ⟨rfl, rfl, rfl, rfl⟩ ?_
            refine SeqA.cons (loc [13] [] rfl rfl fun S hs hr => op_move (A := rd (kint .i64) k19) rfl rfl (vt ((hs 13 rfl).trans rfl))) ⟨rfl, rfl, rfl, rfl⟩ ?_
            refine SeqA.cons (loc [0] [] rfl rfl fun S hs hr => op_move (A := raw v2) rfl rfl (vt ((hs 0 rfl).trans rfl))) ⟨rfl, rfl, rfl, rfl⟩ ?_
            refine SeqA.cons (loc [13] [] rfl rfl fun S hs hr => op_move (A := rd (kint .i64) k19) rfl rfl (vt ((hs 13 rfl).trans rfl))) ⟨rfl, rfl, rfl, rfl⟩ ?_
            refine SeqA.cons (loc [64] [] rfl rfl fun S hs hr => op_add rfl rfl (vt ((hs 64 rfl).trans rfl)) (vk rfl)) ⟨rfl, rfl, rfl, rfl⟩ ?_
            refine SeqA.cons (loc [0] [] rfl rfl fun S hs hr => op_move (A := raw v2) rfl rfl (vt ((hs 0 rfl).trans rfl))) ⟨rfl, rfl, rfl, rfl⟩ ?_
            refine SeqA.cons (loc [13] [] rfl rfl fun S hs hr => op_move (A := rd (kint .i64) k19) rfl rfl (vt ((hs 13 rfl).trans rfl))) ⟨rfl, rfl, rfl, rfl⟩ ?_
            refine SeqA.cons (loc [67] [] rfl rfl fun S hs hr => op_add rfl rfl (vt ((hs 67 rfl).trans rfl)) (vk rfl)) ⟨rfl, rfl, rfl, rfl⟩ ?_
            refine SeqA.cons (loc [66, 68] [] rfl rfl fun S hs hr => op_indexoP (l := l18) hvl0_218 rfl rfl rfl sl49 (vt ((hs 66 rfl).trans rfl)) (vt ((hs 68 rfl).trans rfl)) he21) ⟨rfl, rfl, rfl, rfl⟩ ?_
            refine SeqA.cons (loc [69] [0] rfl rfl fun S hs hr => op_loado' 0 rfl rfl ty48 (vt ((hs 69 rfl).trans rfl)) ((hr 0 rfl).trans rfl) (lget_of he21).2) ⟨rfl, rfl, rfl, rfl⟩ ?_
            refine SeqA.cons (loc [0] [] rfl rfl fun S hs hr => op_move (A := raw v2) rfl rfl (vt ((hs 0 rfl).trans rfl))) ⟨rfl, rfl, rfl, rfl⟩ ?_
            refine SeqA.cons (loc [13] [] rfl rfl fun S hs hr => op_move (A := rd (kint .i64) k19) rfl rfl (vt ((hs 13 rfl).trans rfl))) ⟨rfl, rfl, rfl, rfl⟩ ?_
            refine SeqA.cons (loc [71, 72] [] rfl rfl fun S hs hr => op_indexoP (l := l18) hvl0_218 rfl rfl rfl sl49 (vt ((hs 71 rfl).trans rfl)) (vt ((hs 72 rfl).trans rfl)) he22) ⟨rfl, rfl, rfl, rfl⟩ ?_
            refine SeqA.cons (loc [73] [0] rfl rfl fun S hs hr => op_loado' 0 rfl rfl ty48 (vt ((hs 73 rfl).trans rfl)) ((hr 0 rfl).trans rfl) (lget_of he22).2) ⟨rfl, rfl, rfl, rfl⟩ ?_
            refine SeqA.cons (loc [61, 62] [] rfl rfl fun S hs hr => op_indexoP (l := l18) hvl0_218 rfl rfl rfl sl49 (vt ((hs 61 rfl).trans rfl)) (vt ((hs 62 rfl).trans rfl)) he23) ⟨rfl, rfl, rfl, rfl⟩ ?_
            refine SeqA.cons (locr [75, 70] [0] rfl fun S hs hr => op_storeo' 0 rfl rfl ty48 (vt ((hs 75 rfl).trans rfl)) ((hr 0 rfl).trans rfl) (lget_of he23).2 (vt ((hs 70 rfl).trans rfl))) ⟨rfl, rfl, rfl, rfl⟩ ?_
            refine SeqA.cons (loc [63, 65] [] rfl rfl fun S hs hr => op_indexoP (l := (List.set l18 k19.toNat e21)) hvl0_218 (by simp) rfl rfl sl49 (vt ((hs 63 rfl).trans rfl)) (vt ((hs 65 rfl).trans rfl)) he24) ⟨rfl, rfl, rfl, rfl⟩ ?_
            refine SeqA.cons (locr [76, 74] [0] rfl fun S hs hr => op_storeo' 0 rfl rfl ty48 (vt ((hs 76 rfl).trans rfl)) ((hr 0 rfl).trans rfl) (lget_of he24).2 (vt ((hs 74 rfl).trans rfl))) ⟨rfl, rfl, rfl, rfl⟩ ?_
            refine AW.region ?_
            refine AOps.cons (op_move (A := rd (kint .i64) k19) rfl rfl (vt rfl)) rfl ?_
            refine AOps.cons (op_add rfl rfl (vt rfl) (vk rfl)) rfl ?_
            refine AOps.cons (op_assign (A := rd (kint .i64) (IntKind.i64.wrap (k19 + 1))) rfl rfl (vt rfl)) rfl ?_
            refine AOps.nil ?_
            subst hgo2
            exact ⟨(m20, (List.set (List.set l18 k19.toNat e21) (IntKind.i64.wrap (k19 + 1)).toNat e22), (IntKind.i64.wrap (k19 + 1))), Nat.lt_succ_self _, ⟨trivial, h⟩, ⟨rfl, ⟨rfl, rfl, rfl, trivial⟩, ⟨rfl, trivial⟩⟩⟩
          · have h := cond_f hc h
            refine AW.exit ?_
            refine AW.ret ?_
            obtain rfl := Option.some.inj h
            exact ret0Y (i := 0) Tryz.results96 rfl rfl
  · have h := cond_f hc h
    refine AW.skip ?_
    refine AW.seq ?_
    refine AW.seq ?_
    refine AW.region ?_
    refine AOps.cons (op_move (A := rd (kint .i64) b5) rfl rfl (vt rfl)) rfl ?_
    refine AOps.cons (op_move (A := rd (kint .i64) m4) rfl rfl (vt rfl)) rfl ?_
    refine AOps.cons (op_sub rfl rfl (vt rfl) (vt rfl)) rfl ?_
    refine AOps.cons (op_eql rfl rfl (vt rfl) (vk rfl)) rfl ?_
    refine AOps.nil ?_
    refine AW.cond (vt rfl) (fun hc => ?_) (fun hc => ?_)
    · have h := cond_t hc h
      refine AW.seq ?_
      refine AW.region ?_
      refine AOps.cons (op_move (A := rd (kint .i64) a3) rfl rfl (vt rfl)) rfl ?_
      refine AOps.cons (op_assign (A := rd (kint .i64) a3) rfl rfl (vt rfl)) rfl ?_
      refine AOps.nil ?_
      refine AW.seq ?_
      refine AW.region ?_
      refine AOps.cons (op_move (A := rd (kint .i64) m4) rfl rfl (vt rfl)) rfl ?_
      refine AOps.cons (op_assign (A := rd (kint .i64) m4) rfl rfl (vt rfl)) rfl ?_
      refine AOps.nil ?_
      refine AW.seq ?_
      refine AW.block ?_
      refine AW.loopG (d := []) (ν := Nat × Int × Int) (fun n => True ∧ F_slices_symMergeCmpFunc_Action_s_l3 data1 m4 cmp6 n.1 n.2.1 n.2.2 = some r) (fun n => n.1) (fun n => [(0, raw v2), (2, rd (kint .i64) m4), (4, fn2 Tryz.prog kAction kAction (kint .i64) cmp6), (14, rd (kint .i64) n.2.1), (15, rd (kint .i64) n.2.2)]) (fun n => [(0, Row v2 48 kAction data1)]) ((((m4 : Int) - a3).toNat + 1), a3, m4) ⟨trivial, h⟩ ⟨rfl, ⟨rfl, rfl, rfl, rfl, rfl, trivial⟩, ⟨rfl, trivial⟩⟩ ?_
      rintro ⟨m29, i27, j28⟩ ⟨hsf3, h⟩
      change True at hsf3
      change F_slices_symMergeCmpFunc_Action_s_l3 data1 m4 cmp6 m29 i27 j28 = some r at h
      change AW _ _ _ ⟨slots [(0, raw v2), (2, rd (kint .i64) m4), (4, fn2 Tryz.prog kAction kAction (kint .i64) cmp6), (14, rd (kint .i64) i27), (15, rd (kint .i64) j28)], ress [(0, Row v2 48 kAction data1)], _⟩
      cases m29 with
      | zero => cases h
      | succ m29 =>
        unfold F_slices_symMergeCmpFunc_Action_s_l3 at h
        generalize hgo3 : F_slices_symMergeCmpFunc_Action_s_l3 data1 m4 cmp6 m29 = go3 at h
        refine AW.seq ?_
        refine AW.seq ?_
        refine AW.region ?_
        refine AOps.cons (op_move (A := rd (kint .i64) i27) rfl rfl (vt rfl)) rfl ?_
        refine AOps.cons (op_move (A := rd (kint .i64) j28) rfl rfl (vt rfl)) rfl ?_
        refine AOps.cons (op_lss rfl rfl (vt rfl) (vt rfl)) rfl ?_
        refine AOps.nil ?_
        refine AW.cond (vt rfl) (fun hc => ?_) (fun hc => ?_)
        · have h := cond_t hc h
          refine AW.skip ?_
          refine AW.block ?_
          refine AW.seq ?_
          obtain ⟨q30, hq30, h⟩ := bsome h
          refine AW.region ?_
          refine AOps.cons (op_move (A := rd (kint .i64) i27) rfl rfl (vt rfl)) rfl ?_
          refine AOps.cons (op_move (A := rd (kint .i64) j28) rfl rfl (vt rfl)) rfl ?_
          refine AOps.cons (op_add rfl rfl (vt rfl) (vt rfl)) rfl ?_
          refine AOps.cons (op_convu rfl rfl us3 un151 (vt rfl)) rfl ?_
          refine AOps.cons (op_ushr rfl rfl (vt rfl) (vu64 (vku (1 : BitVec 64) rfl)) hq30) rfl ?_
          refine AOps.cons (op_uconv rfl rfl us151 un3 (vt rfl)) rfl ?_
          refine AOps.cons (op_assign (A := rd (kint .i64) (IntKind.i64.wrap (q30.toNat : Int))) rfl rfl (vt rfl)) rfl ?_
          refine AOps.nil ?_
          refine AW.seq ?_
          obtain ⟨e31, he31, h⟩ := bsome h
          obtain ⟨e32, he32, h⟩ := bsome h
          obtain ⟨x33, hx33, h⟩ := bsome h
          refine AW.regionAny [⟨[4], [92], [], []⟩, ⟨[0], [93], [], []⟩, ⟨[2], [94], [], []⟩, ⟨[93, 94], [95], [0], []⟩, ⟨[95], [96], [0], []⟩, ⟨[0], [97], [], []⟩, ⟨[16], [98], [], []⟩, ⟨[97, 98], [99], [0], []⟩, ⟨[99], [100], [0], []⟩, ⟨[92, 96, 100], [101], [], []⟩, ⟨[101], [102], [], []⟩, ⟨[102], [103], [], []⟩] mixed (by kernel_rfl) ?_
          refine SeqA.cons (loc [4] [] rfl rfl fun S hs hr => op_move (A := fn2 Tryz.prog kAction kAction (kint .i64) cmp6) rfl rfl (vt ((hs 4 rfl).trans rfl))) ⟨rfl, rfl, rfl, rfl⟩ ?_
          refine SeqA.cons (loc [0] [] rfl rfl fun S hs hr => op_move (A := raw v2) rfl rfl (vt ((hs 0 rfl).trans rfl))) ⟨rfl, rfl, rfl, rfl⟩ ?_
          refine SeqA.cons (loc [2] [] rfl rfl fun S hs hr => op_move (A := rd (kint .i64) m4) rfl rfl (vt ((hs 2 rfl).trans rfl))) ⟨rfl, rfl, rfl, rfl⟩ ?_
          refine SeqA.cons (loc [93, 94] [0] rfl rfl fun S hs hr => op_indexo' 0 rfl rfl sl49 (vt ((hs 93 rfl).trans rfl)) ((hr 0 rfl).trans rfl) (vt ((hs 94 rfl).trans rfl)) he31) ⟨rfl, rfl, rfl, rfl⟩ ?_
          refine SeqA.cons (loc [95] [0] rfl rfl fun S hs hr => op_loado' 0 rfl rfl ty48 (vt ((hs 95 rfl).trans rfl)) ((hr 0 rfl).trans rfl) (lget_of he31).2) ⟨rfl, rfl, rfl, rfl⟩ ?_
          refine SeqA.cons (loc [0] [] rfl rfl fun S hs hr => op_move (A := raw v2) rfl rfl (vt ((hs 0 rfl).trans rfl))) ⟨rfl, rfl, rfl, rfl⟩ ?_
          refine SeqA.cons (loc [16] [] rfl rfl fun S hs hr => op_move (A := rd (kint .i64) (IntKind.i64.wrap (q30.toNat : Int))) rfl rfl (vt ((hs 16 rfl).trans rfl))) ⟨rfl, rfl, rfl, rfl⟩ ?_
          refine SeqA.cons (loc [97, 98] [0] rfl rfl fun S hs hr => op_indexo' 0 rfl rfl sl49 (vt ((hs 97 rfl).trans rfl)) ((hr 0 rfl).trans rfl) (vt ((hs 98 rfl).trans rfl)) he32) ⟨rfl, rfl, rfl, rfl⟩ ?_
          refine SeqA.cons (loc [99] [0] rfl rfl fun S hs hr => op_loado' 0 rfl rfl ty48 (vt ((hs 99 rfl).trans rfl)) ((hr 0 rfl).trans rfl) (lget_of he32).2) ⟨rfl, rfl, rfl, rfl⟩ ?_
          refine SeqA.cons (loc [92, 96, 100] [] rfl rfl fun S hs hr => op_call2 hx33 rfl rfl (vt ((hs 92 rfl).trans rfl)) (vt ((hs 96 rfl).trans rfl)) (vt ((hs 100 rfl).trans rfl))) ⟨rfl, rfl, rfl, rfl⟩ ?_
          refine SeqA.cons (loc [101] [] rfl rfl fun S hs hr => op_lss rfl rfl (vt ((hs 101 rfl).trans rfl)) (vk rfl)) ⟨rfl, rfl, rfl, rfl⟩ ?_
          refine SeqA.cons (loc [102] [] rfl rfl fun S hs hr => op_not rfl rfl (vt ((hs 102 rfl).trans rfl))) ⟨rfl, rfl, rfl, rfl⟩ ?_
          refine AW.cond (vt rfl) (fun hc => ?_) (fun hc => ?_)
          · have h := cond_t hc h
            refine AW.region ?_
            refine AOps.cons (op_move (A := rd (kint .i64) (IntKind.i64.wrap (q30.toNat : Int))) rfl rfl (vt rfl)) rfl ?_
            refine AOps.cons (op_add rfl rfl (vt rfl) (vk rfl)) rfl ?_
            refine AOps.cons (op_assign (A := rd (kint .i64) (IntKind.i64.wrap ((IntKind.i64.wrap (q30.toNat : Int)) + 1))) rfl rfl (vt rfl)) rfl ?_
            refine AOps.nil ?_
            subst hgo3
            exact ⟨(m29, (IntKind.i64.wrap ((IntKind.i64.wrap (q30.toNat : Int)) + 1)), j28), Nat.lt_succ_self _, ⟨trivial, h⟩, ⟨rfl, ⟨rfl, rfl, rfl, rfl, rfl, trivial⟩, ⟨rfl, trivial⟩⟩⟩
          · have h := cond_f hc h
            refine AW.region ?_
            refine AOps.cons (op_move (A := rd (kint .i64) (IntKind.i64.wrap (q30.toNat : Int))) rfl rfl (vt rfl)) rfl ?_
            refine AOps.cons (op_assign (A := rd (kint .i64) (IntKind.i64.wrap (q30.toNat : Int))) rfl rfl (vt rfl)) rfl ?_
            refine AOps.nil ?_
            subst hgo3
            exact ⟨(m29, i27, (IntKind.i64.wrap (q30.toNat : Int))), Nat.lt_succ_self _, ⟨trivial, h⟩, ⟨rfl, ⟨rfl, rfl, rfl, rfl, rfl, trivial⟩, ⟨rfl, trivial⟩⟩⟩
        · have h := cond_f hc h
          refine AW.exit ?_
          refine AW.seq ?_
          refine AW.seq ?_
          refine AW.region ?_
          refine AOps.cons (op_move (A := rd (kint .i64) m4) rfl rfl (vt rfl)) rfl ?_
          refine AOps.cons (op_assign (A := rd (kint .i64) m4) rfl rfl (vt rfl)) rfl ?_
          refine AOps.nil ?_
          refine AW.block ?_
          refine AW.loopG (d := []) (ν := Nat × (List Action) × Int) (fun n => True ∧ F_slices_symMergeCmpFunc_Action_s_l4 i27 n.1 n.2.1 n.2.2 = some r) (fun n => n.1) (fun n => [(0, raw v2), (14, rd (kint .i64) i27), (17, rd (kint .i64) n.2.2)]) (fun n => [(0, Row v2 48 kAction n.2.1)]) ((((m4 : Int) - i27).toNat + 1), data1, m4) ⟨trivial, h⟩ ⟨rfl, ⟨rfl, rfl, rfl, trivial⟩, ⟨rfl, trivial⟩⟩ ?_
          rintro ⟨m38, l36, k37⟩ ⟨hsf4, h⟩
          change True at hsf4
          change F_slices_symMergeCmpFunc_Action_s_l4 i27 m38 l36 k37 = some r at h
          change AW _ _ _ ⟨slots [(0, raw v2), (14, rd (kint .i64) i27), (17, rd (kint .i64) k37)], ress [(0, Row v2 48 kAction l36)], _⟩
          cases m38 with
          | zero => cases h
          | succ m38 =>
            unfold F_slices_symMergeCmpFunc_Action_s_l4 at h
            generalize hgo4 : F_slices_symMergeCmpFunc_Action_s_l4 i27 m38 = go4 at h
            refine AW.seq ?_
            refine AW.seq ?_
            refine AW.region ?_
            refine AOps.cons (op_move (A := rd (kint .i64) k37) rfl rfl (vt rfl)) rfl ?_
            refine AOps.cons (op_move (A := rd (kint .i64) i27) rfl rfl (vt rfl)) rfl ?_
            refine AOps.cons (op_gtr rfl rfl (vt rfl) (vt rfl)) rfl ?_
            refine AOps.nil ?_
            refine AW.cond (vt rfl) (fun hc => ?_) (fun hc => ?_)
            · have h := cond_t hc h
              refine AW.skip ?_
              refine AW.seq ?_
              refine AW.block ?_
              refine AW.vlen 0 rfl fun hvl0_474 => ?_
              obtain ⟨e39, he39, h⟩ := bsome h
              obtain ⟨e40, he40, h⟩ := bsome h
              obtain ⟨e41, he41, h⟩ := bsome h
              obtain ⟨e42, he42, h⟩ := bsome h
              refine AW.regionAny [⟨[0], [113], [], []⟩, ⟨[17], [114], [], []⟩, ⟨[0], [115], [], []⟩, ⟨[17], [116], [], []⟩, ⟨[116], [117], [], []⟩, ⟨[0], [118], [], []⟩, ⟨[17], [119], [], []⟩, ⟨[119], [120], [], []⟩, ⟨[118, 120], [121], [], []⟩, ⟨[121], [122], [0], []⟩, ⟨[0], [123], [], []⟩, ⟨[17], [124], [], []⟩, ⟨[123, 124], [125], [], []⟩, ⟨[125], [126], [0], []⟩, ⟨[113, 114], [127], [], []⟩, ⟨[127, 122], [], [0], [0]⟩, ⟨[115, 117], [128], [], []⟩, ⟨[128, 126], [], [0], [0]⟩] mixed (by kernel_rfl) ?_
              refine SeqA.cons (loc [0] [] rfl rfl fun S hs hr => op_move (A := raw v2) rfl rfl (vt ((hs 0 rfl).trans rfl))) ⟨rfl, rfl, rfl, rfl⟩ ?_
              refine SeqA.cons (loc [17] [] rfl rfl fun S hs hr => op_move (A := rd (kint .i64) k37) rfl rfl (vt ((hs 17 rfl).trans rfl))) ⟨rfl, rfl, rfl, rfl⟩ ?_
              refine SeqA.cons (loc [0] [] rfl rfl fun S hs hr => op_move (A := raw v2) rfl rfl (vt ((hs 0 rfl).trans rfl))) ⟨rfl, rfl, rfl, rfl⟩ ?_
              refine SeqA.cons (loc [17] [] rfl rfl fun S hs hr => op_move (A := rd (kint .i64) k37) rfl rfl (vt ((hs 17 rfl).trans rfl))) ⟨rfl, rfl, rfl, rfl⟩ ?_
              refine SeqA.cons (loc [116] [] rfl rfl fun S hs hr => op_sub rfl rfl (vt ((hs 116 rfl).trans rfl)) (vk rfl)) ⟨rfl, rfl, rfl, rfl⟩ ?_
              refine SeqA.cons (loc [0] [] rfl rfl fun S hs hr => op_move (A := raw v2) rfl rfl (vt ((hs 0 rfl).trans rfl))) ⟨rfl, rfl, rfl, rfl⟩ ?_
              refine SeqA.cons (loc [17] [] rfl rfl fun S hs hr => op_move (A := rd (kint .i64) k37) rfl rfl (vt ((hs 17 rfl).trans rfl))) ⟨rfl, rfl, rfl, rfl⟩ ?_
              refine SeqA.cons (loc [119] [] rfl rfl fun S hs hr => op_sub rfl rfl (vt ((hs 119 rfl).trans rfl)) (vk rfl)) ⟨rfl, rfl, rfl, rfl⟩ ?_
              refine SeqA.cons (loc [118, 120] [] rfl rfl fun S hs hr => op_indexoP (l := l36) hvl0_474 rfl rfl rfl sl49 (vt ((hs 118 rfl).trans rfl)) (vt ((hs 120 rfl).trans rfl)) he39) ⟨rfl, rfl, rfl, rfl⟩ ?_
              refine SeqA.cons (loc [121] [0] rfl rfl fun S hs hr => op_loado' 0 rfl rfl ty48 (vt ((hs 121 rfl).trans rfl)) ((hr 0 rfl).trans rfl) (lget_of he39).2) ⟨rfl, rfl, rfl, rfl⟩ ?_
              refine SeqA.cons (loc [0] [] rfl rfl fun S hs hr => op_move (A := raw v2) rfl rfl (vt ((hs 0 rfl).trans rfl))) ⟨rfl, rfl, rfl, rfl⟩ ?_
              refine SeqA.cons (loc [17] [] rfl rfl fun S hs hr => op_move (A := rd (kint .i64) k37) rfl rfl (vt ((hs 17 rfl).trans rfl))) ⟨rfl, rfl, rfl, rfl⟩ ?_
              refine SeqA.cons (loc [123, 124] [] rfl rfl fun S hs hr => op_indexoP (l := l36) hvl0_474 rfl rfl rfl sl49 (vt ((hs 123 rfl).trans rfl)) (vt ((hs 124 rfl).trans rfl)) he40) ⟨rfl, rfl, rfl, rfl⟩ ?_
              refine SeqA.cons (loc [125] [0] rfl rfl fun S hs hr => op_loado' 0 rfl rfl ty48 (vt ((hs 125 rfl).trans rfl)) ((hr 0 rfl).trans rfl) (lget_of he40).2) ⟨rfl, rfl, rfl, rfl⟩ ?_
              refine SeqA.cons (loc [113, 114] [] rfl rfl fun S hs hr => op_indexoP (l := l36) hvl0_474 rfl rfl rfl sl49 (vt ((hs 113 rfl).trans rfl)) (vt ((hs 114 rfl).trans rfl)) he41) ⟨rfl, rfl, rfl, rfl⟩ ?_
              refine SeqA.cons (locr [127, 122] [0] rfl fun S hs hr => op_storeo' 0 rfl rfl ty48 (vt ((hs 127 rfl).trans rfl)) ((hr 0 rfl).trans rfl) (lget_of he41).2 (vt ((hs 122 rfl).trans rfl))) ⟨rfl, rfl, rfl, rfl⟩ ?_
              refine SeqA.cons (loc [115, 117] [] rfl rfl fun S hs hr => op_indexoP (l := (List.set l36 k37.toNat e39)) hvl0_474 (by simp) rfl rfl sl49 (vt ((hs 115 rfl).trans rfl)) (vt ((hs 117 rfl).trans rfl)) he42) ⟨rfl, rfl, rfl, rfl⟩ ?_
              refine SeqA.cons (locr [128, 126] [0] rfl fun S hs hr => op_storeo' 0 rfl rfl ty48 (vt ((hs 128 rfl).trans rfl)) ((hr 0 rfl).trans rfl) (lget_of he42).2 (vt ((hs 126 rfl).trans rfl))) ⟨rfl, rfl, rfl, rfl⟩ ?_
              refine AW.region ?_
              refine AOps.cons (op_move (A := rd (kint .i64) k37) rfl rfl (vt rfl)) rfl ?_
              refine AOps.cons (op_sub rfl rfl (vt rfl) (vk rfl)) rfl ?_
              refine AOps.cons (op_assign (A := rd (kint .i64) (IntKind.i64.wrap (k37 - 1))) rfl rfl (vt rfl)) rfl ?_
              refine AOps.nil ?_
              subst hgo4
              exact ⟨(m38, (List.set (List.set l36 k37.toNat e39) (IntKind.i64.wrap (k37 - 1)).toNat e40), (IntKind.i64.wrap (k37 - 1))), Nat.lt_succ_self _, ⟨trivial, h⟩, ⟨rfl, ⟨rfl, rfl, rfl, trivial⟩, ⟨rfl, trivial⟩⟩⟩
            · have h := cond_f hc h
              refine AW.exit ?_
              refine AW.ret ?_
              obtain rfl := Option.some.inj h
              exact ret0Y (i := 0) Tryz.results96 rfl rfl
    · have h := cond_f hc h
      refine AW.skip ?_
      refine AW.seq ?_
      obtain ⟨q43, hq43, h⟩ := bsome h
      refine AW.region ?_
      refine AOps.cons (op_move (A := rd (kint .i64) a3) rfl rfl (vt rfl)) rfl ?_
      refine AOps.cons (op_move (A := rd (kint .i64) b5) rfl rfl (vt rfl)) rfl ?_
      refine AOps.cons (op_add rfl rfl (vt rfl) (vt rfl)) rfl ?_
      refine AOps.cons (op_convu rfl rfl us3 un151 (vt rfl)) rfl ?_
      refine AOps.cons (op_ushr rfl rfl (vt rfl) (vu64 (vku (1 : BitVec 64) rfl)) hq43) rfl ?_
      refine AOps.cons (op_uconv rfl rfl us151 un3 (vt rfl)) rfl ?_
      refine AOps.cons (op_assign (A := rd (kint .i64) (IntKind.i64.wrap (q43.toNat : Int))) rfl rfl (vt rfl)) rfl ?_
      refine AOps.nil ?_
      refine AW.seq ?_
      refine AW.region ?_
      refine AOps.cons (op_move (A := rd (kint .i64) (IntKind.i64.wrap (q43.toNat : Int))) rfl rfl (vt rfl)) rfl ?_
      refine AOps.cons (op_move (A := rd (kint .i64) m4) rfl rfl (vt rfl)) rfl ?_
      refine AOps.cons (op_add rfl rfl (vt rfl) (vt rfl)) rfl ?_
      refine AOps.cons (op_assign (A := rd (kint .i64) (IntKind.i64.wrap ((IntKind.i64.wrap (q43.toNat : Int)) + m4))) rfl rfl (vt rfl)) rfl ?_
      refine AOps.nil ?_
      refine AW.seq ?_
      refine AW.region ?_
      refine AOps.cons (op_assign (A := rd (kint .i64) 0) rfl rfl (vk rfl)) rfl ?_
      refine AOps.cons (op_assign (A := rd (kint .i64) 0) rfl rfl (vk rfl)) rfl ?_
      refine AOps.nil ?_
      refine AW.join (d := []) (ν := Int × Int) (fun n => F_slices_symMergeCmpFunc_Action_s_j5 data1 q43 m4 cmp6 a3 R_slices_symMergeCmpFunc_Action b5 n.1 n.2 = some r) (fun n => [(0, raw v2), (1, rd (kint .i64) a3), (2, rd (kint .i64) m4), (3, rd (kint .i64) b5), (4, fn2 Tryz.prog kAction kAction (kint .i64) cmp6), (18, rd (kint .i64) (IntKind.i64.wrap (q43.toNat : Int))), (19, rd (kint .i64) (IntKind.i64.wrap ((IntKind.i64.wrap (q43.toNat : Int)) + m4))), (20, rd (kint .i64) n.1), (21, rd (kint .i64) n.2)]) (fun n => [(0, Row v2 48 kAction data1)]) ?hx5 ?hy5
      case hy5 =>
        rintro ⟨start44, r45⟩ h
        unfold F_slices_symMergeCmpFunc_Action_s_j5 at h
        change AW _ _ _ ⟨slots [(0, raw v2), (1, rd (kint .i64) a3), (2, rd (kint .i64) m4), (3, rd (kint .i64) b5), (4, fn2 Tryz.prog kAction kAction (kint .i64) cmp6), (18, rd (kint .i64) (IntKind.i64.wrap (q43.toNat : Int))), (19, rd (kint .i64) (IntKind.i64.wrap ((IntKind.i64.wrap (q43.toNat : Int)) + m4))), (20, rd (kint .i64) start44), (21, rd (kint .i64) r45)], ress [(0, Row v2 48 kAction data1)], _⟩
        refine AW.seq ?_
        refine AW.region ?_
        refine AOps.cons (op_move (A := rd (kint .i64) (IntKind.i64.wrap ((IntKind.i64.wrap (q43.toNat : Int)) + m4))) rfl rfl (vt rfl)) rfl ?_
        refine AOps.cons (op_sub rfl rfl (vt rfl) (vk rfl)) rfl ?_
        refine AOps.cons (op_assign (A := rd (kint .i64) (IntKind.i64.wrap ((IntKind.i64.wrap ((IntKind.i64.wrap (q43.toNat : Int)) + m4)) - 1))) rfl rfl (vt rfl)) rfl ?_
        refine AOps.nil ?_
        refine AW.seq ?_
        refine AW.block ?_
        refine AW.loopG (d := []) (ν := Nat × Int × Int) (fun n => True ∧ F_slices_symMergeCmpFunc_Action_s_l6 data1 q43 m4 cmp6 a3 R_slices_symMergeCmpFunc_Action b5 n.1 n.2.1 n.2.2 = some r) (fun n => n.1) (fun n => [(0, raw v2), (1, rd (kint .i64) a3), (2, rd (kint .i64) m4), (3, rd (kint .i64) b5), (4, fn2 Tryz.prog kAction kAction (kint .i64) cmp6), (18, rd (kint .i64) (IntKind.i64.wrap (q43.toNat : Int))), (19, rd (kint .i64) (IntKind.i64.wrap ((IntKind.i64.wrap (q43.toNat : Int)) + m4))), (20, rd (kint .i64) n.2.1), (21, rd (kint .i64) n.2.2), (22, rd (kint .i64) (IntKind.i64.wrap ((IntKind.i64.wrap ((IntKind.i64.wrap (q43.toNat : Int)) + m4)) - 1)))]) (fun n => [(0, Row v2 48 kAction data1)]) ((((r45 : Int) - start44).toNat + 1), start44, r45) ⟨trivial, h⟩ ⟨rfl, ⟨rfl, rfl, rfl, rfl, rfl, rfl, rfl, rfl, rfl, rfl, trivial⟩, ⟨rfl, trivial⟩⟩ ?_
        rintro ⟨m50, start48, r49⟩ ⟨hsf6, h⟩
        change True at hsf6
        change F_slices_symMergeCmpFunc_Action_s_l6 data1 q43 m4 cmp6 a3 R_slices_symMergeCmpFunc_Action b5 m50 start48 r49 = some r at h
        change AW _ _ _ ⟨slots [(0, raw v2), (1, rd (kint .i64) a3), (2, rd (kint .i64) m4), (3, rd (kint .i64) b5), (4, fn2 Tryz.prog kAction kAction (kint .i64) cmp6), (18, rd (kint .i64) (IntKind.i64.wrap (q43.toNat : Int))), (19, rd (kint .i64) (IntKind.i64.wrap ((IntKind.i64.wrap (q43.toNat : Int)) + m4))), (20, rd (kint .i64) start48), (21, rd (kint .i64) r49), (22, rd (kint .i64) (IntKind.i64.wrap ((IntKind.i64.wrap ((IntKind.i64.wrap (q43.toNat : Int)) + m4)) - 1)))], ress [(0, Row v2 48 kAction data1)], _⟩
        cases m50 with
        | zero => cases h
        | succ m50 =>
          unfold F_slices_symMergeCmpFunc_Action_s_l6 at h
          generalize hgo6 : F_slices_symMergeCmpFunc_Action_s_l6 data1 q43 m4 cmp6 a3 R_slices_symMergeCmpFunc_Action b5 m50 = go6 at h
          refine AW.seq ?_
          refine AW.seq ?_
          refine AW.region ?_
          refine AOps.cons (op_move (A := rd (kint .i64) start48) rfl rfl (vt rfl)) rfl ?_
          refine AOps.cons (op_move (A := rd (kint .i64) r49) rfl rfl (vt rfl)) rfl ?_
          refine AOps.cons (op_lss rfl rfl (vt rfl) (vt rfl)) rfl ?_
          refine AOps.nil ?_
          refine AW.cond (vt rfl) (fun hc => ?_) (fun hc => ?_)
          · have h := cond_t hc h
            refine AW.skip ?_
            refine AW.block ?_
            refine AW.seq ?_
            obtain ⟨q51, hq51, h⟩ := bsome h
            refine AW.region ?_
            refine AOps.cons (op_move (A := rd (kint .i64) start48) rfl rfl (vt rfl)) rfl ?_
            refine AOps.cons (op_move (A := rd (kint .i64) r49) rfl rfl (vt rfl)) rfl ?_
            refine AOps.cons (op_add rfl rfl (vt rfl) (vt rfl)) rfl ?_
            refine AOps.cons (op_convu rfl rfl us3 un151 (vt rfl)) rfl ?_
            refine AOps.cons (op_ushr rfl rfl (vt rfl) (vu64 (vku (1 : BitVec 64) rfl)) hq51) rfl ?_
            refine AOps.cons (op_uconv rfl rfl us151 un3 (vt rfl)) rfl ?_
            refine AOps.cons (op_assign (A := rd (kint .i64) (IntKind.i64.wrap (q51.toNat : Int))) rfl rfl (vt rfl)) rfl ?_
            refine AOps.nil ?_
            refine AW.seq ?_
            obtain ⟨e52, he52, h⟩ := bsome h
            obtain ⟨e53, he53, h⟩ := bsome h
            obtain ⟨x54, hx54, h⟩ := bsome h
            refine AW.regionAny [⟨[4], [158], [], []⟩, ⟨[0], [159], [], []⟩, ⟨[22], [160], [], []⟩, ⟨[23], [161], [], []⟩, ⟨[160, 161], [162], [], []⟩, ⟨[159, 162], [163], [0], []⟩, ⟨[163], [164], [0], []⟩, ⟨[0], [165], [], []⟩, ⟨[23], [166], [], []⟩, ⟨[165, 166], [167], [0], []⟩, ⟨[167], [168], [0], []⟩, ⟨[158, 164, 168], [169], [], []⟩, ⟨[169], [170], [], []⟩, ⟨[170], [171], [], []⟩] mixed (by kernel_rfl) ?_
            refine SeqA.cons (loc [4] [] rfl rfl fun S hs hr => op_move (A := fn2 Tryz.prog kAction kAction (kint .i64) cmp6) rfl rfl (vt ((hs 4 rfl).trans rfl))) ⟨rfl, rfl, rfl, rfl⟩ ?_
            refine SeqA.cons (loc [0] [] rfl rfl fun S hs hr => op_move (A := raw v2) rfl rfl (vt ((hs 0 rfl).trans rfl))) ⟨rfl, rfl, rfl, rfl⟩ ?_
            refine SeqA.cons (loc [22] [] rfl rfl fun S hs hr => op_move (A := rd (kint .i64) (IntKind.i64.wrap ((IntKind.i64.wrap ((IntKind.i64.wrap (q43.toNat : Int)) + m4)) - 1))) rfl rfl (vt ((hs 22 rfl).trans rfl))) ⟨rfl, rfl, rfl, rfl⟩ ?_
            refine SeqA.cons (loc [23] [] rfl rfl fun S hs hr => op_move (A := rd (kint .i64) (IntKind.i64.wrap (q51.toNat : Int))) rfl rfl (vt ((hs 23 rfl).trans rfl))) ⟨rfl, rfl, rfl, rfl⟩ ?_
            refine SeqA.cons (loc [160, 161] [] rfl rfl fun S hs hr => op_sub rfl rfl (vt ((hs 160 rfl).trans rfl)) (vt ((hs 161 rfl).trans rfl))) ⟨rfl, rfl, rfl, rfl⟩ ?_
            refine SeqA.cons (loc [159, 162] [0] rfl rfl fun S hs hr => op_indexo' 0 rfl rfl sl49 (vt ((hs 159 rfl).trans rfl)) ((hr 0 rfl).trans rfl) (vt ((hs 162 rfl).trans rfl)) he52) ⟨rfl, rfl, rfl, rfl⟩ ?_
            refine SeqA.cons (loc [163] [0] rfl rfl fun S hs hr => op_loado' 0 rfl rfl ty48 (vt ((hs 163 rfl).trans rfl)) ((hr 0 rfl).trans rfl) (lget_of he52).2) ⟨rfl, rfl, rfl, rfl⟩ ?_
            refine SeqA.cons (loc [0] [] rfl rfl fun S hs hr => op_move (A := raw v2) rfl rfl (vt ((hs 0 rfl).trans rfl))) ⟨rfl, rfl, rfl, rfl⟩ ?_
            refine SeqA.cons (loc [23] [] rfl rfl fun S hs hr => op_move (A := rd (kint .i64) (IntKind.i64.wrap (q51.toNat : Int))) rfl rfl (vt ((hs 23 rfl).trans rfl))) ⟨rfl, rfl, rfl, rfl⟩ ?_
            refine SeqA.cons (loc [165, 166] [0] rfl rfl fun S hs hr => op_indexo' 0 rfl rfl sl49 (vt ((hs 165 rfl).trans rfl)) ((hr 0 rfl).trans rfl) (vt ((hs 166 rfl).trans rfl)) he53) ⟨rfl, rfl, rfl, rfl⟩ ?_
            refine SeqA.cons (loc [167] [0] rfl rfl fun S hs hr => op_loado' 0 rfl rfl ty48 (vt ((hs 167 rfl).trans rfl)) ((hr 0 rfl).trans rfl) (lget_of he53).2) ⟨rfl, rfl, rfl, rfl⟩ ?_
            refine SeqA.cons (loc [158, 164, 168] [] rfl rfl fun S hs hr => op_call2 hx54 rfl rfl (vt ((hs 158 rfl).trans rfl)) (vt ((hs 164 rfl).trans rfl)) (vt ((hs 168 rfl).trans rfl))) ⟨rfl, rfl, rfl, rfl⟩ ?_
            refine SeqA.cons (loc [169] [] rfl rfl fun S hs hr => op_lss rfl rfl (vt ((hs 169 rfl).trans rfl)) (vk rfl)) ⟨rfl, rfl, rfl, rfl⟩ ?_
            refine SeqA.cons (loc [170] [] rfl rfl fun S hs hr => op_not rfl rfl (vt ((hs 170 rfl).trans rfl))) ⟨rfl, rfl, rfl, rfl⟩ ?_
            refine AW.cond (vt rfl) (fun hc => ?_) (fun hc => ?_)
            · have h := cond_t hc h
              refine AW.region ?_
              refine AOps.cons (op_move (A := rd (kint .i64) (IntKind.i64.wrap (q51.toNat : Int))) rfl rfl (vt rfl)) rfl ?_
              refine AOps.cons (op_add rfl rfl (vt rfl) (vk rfl)) rfl ?_
              refine AOps.cons (op_assign (A := rd (kint .i64) (IntKind.i64.wrap ((IntKind.i64.wrap (q51.toNat : Int)) + 1))) rfl rfl (vt rfl)) rfl ?_
              refine AOps.nil ?_
              subst hgo6
              exact ⟨(m50, (IntKind.i64.wrap ((IntKind.i64.wrap (q51.toNat : Int)) + 1)), r49), Nat.lt_succ_self _, ⟨trivial, h⟩, ⟨rfl, ⟨rfl, rfl, rfl, rfl, rfl, rfl, rfl, rfl, rfl, rfl, trivial⟩, ⟨rfl, trivial⟩⟩⟩
            · have h := cond_f hc h
              refine AW.region ?_
              refine AOps.cons (op_move (A := rd (kint .i64) (IntKind.i64.wrap (q51.toNat : Int))) rfl rfl (vt rfl)) rfl ?_
              refine AOps.cons (op_assign (A := rd (kint .i64) (IntKind.i64.wrap (q51.toNat : Int))) rfl rfl (vt rfl)) rfl ?_
              refine AOps.nil ?_
              subst hgo6
              exact ⟨(m50, start48, (IntKind.i64.wrap (q51.toNat : Int))), Nat.lt_succ_self _, ⟨trivial, h⟩, ⟨rfl, ⟨rfl, rfl, rfl, rfl, rfl, rfl, rfl, rfl, rfl, rfl, trivial⟩, ⟨rfl, trivial⟩⟩⟩
          · have h := cond_f hc h
            refine AW.exit ?_
            refine AW.seq ?_
            refine AW.region ?_
            refine AOps.cons (op_move (A := rd (kint .i64) (IntKind.i64.wrap ((IntKind.i64.wrap (q43.toNat : Int)) + m4))) rfl rfl (vt rfl)) rfl ?_
            refine AOps.cons (op_move (A := rd (kint .i64) start48) rfl rfl (vt rfl)) rfl ?_
            refine AOps.cons (op_sub rfl rfl (vt rfl) (vt rfl)) rfl ?_
            refine AOps.cons (op_assign (A := rd (kint .i64) (IntKind.i64.wrap ((IntKind.i64.wrap ((IntKind.i64.wrap (q43.toNat : Int)) + m4)) - start48))) rfl rfl (vt rfl)) rfl ?_
            refine AOps.nil ?_
            refine AW.join (d := []) (ν := (List Action)) (fun n => F_slices_symMergeCmpFunc_Action_s_j7 a3 start48 q43 R_slices_symMergeCmpFunc_Action cmp6 m4 b5 n = some r) (fun n => [(0, raw v2), (1, rd (kint .i64) a3), (3, rd (kint .i64) b5), (4, fn2 Tryz.prog kAction kAction (kint .i64) cmp6), (18, rd (kint .i64) (IntKind.i64.wrap (q43.toNat : Int))), (20, rd (kint .i64) start48), (24, rd (kint .i64) (IntKind.i64.wrap ((IntKind.i64.wrap ((IntKind.i64.wrap (q43.toNat : Int)) + m4)) - start48)))]) (fun n => [(0, Row v2 48 kAction n)]) ?hx7 ?hy7
            case hy7 =>
              intro l55 h
              unfold F_slices_symMergeCmpFunc_Action_s_j7 at h
              change AW _ _ _ ⟨slots [(0, raw v2), (1, rd (kint .i64) a3), (3, rd (kint .i64) b5), (4, fn2 Tryz.prog kAction kAction (kint .i64) cmp6), (18, rd (kint .i64) (IntKind.i64.wrap (q43.toNat : Int))), (20, rd (kint .i64) start48), (24, rd (kint .i64) (IntKind.i64.wrap ((IntKind.i64.wrap ((IntKind.i64.wrap (q43.toNat : Int)) + m4)) - start48)))], ress [(0, Row v2 48 kAction l55)], _⟩
              refine AW.join (d := []) (ν := (List Action)) (fun n => F_slices_symMergeCmpFunc_Action_s_j8 q43 m4 start48 b5 R_slices_symMergeCmpFunc_Action cmp6 n = some r) (fun n => [(0, raw v2), (3, rd (kint .i64) b5), (4, fn2 Tryz.prog kAction kAction (kint .i64) cmp6), (18, rd (kint .i64) (IntKind.i64.wrap (q43.toNat : Int))), (24, rd (kint .i64) (IntKind.i64.wrap ((IntKind.i64.wrap ((IntKind.i64.wrap (q43.toNat : Int)) + m4)) - start48)))]) (fun n => [(0, Row v2 48 kAction n)]) ?hx8 ?hy8
              case hy8 =>
                intro l56 h
                unfold F_slices_symMergeCmpFunc_Action_s_j8 at h
                change AW _ _ _ ⟨slots [(0, raw v2), (3, rd (kint .i64) b5), (4, fn2 Tryz.prog kAction kAction (kint .i64) cmp6), (18, rd (kint .i64) (IntKind.i64.wrap (q43.toNat : Int))), (24, rd (kint .i64) (IntKind.i64.wrap ((IntKind.i64.wrap ((IntKind.i64.wrap (q43.toNat : Int)) + m4)) - start48)))], ress [(0, Row v2 48 kAction l56)], _⟩
                refine AW.seq ?_
                refine AW.region ?_
                refine AOps.cons (op_move (A := rd (kint .i64) (IntKind.i64.wrap (q43.toNat : Int))) rfl rfl (vt rfl)) rfl ?_
                refine AOps.cons (op_move (A := rd (kint .i64) (IntKind.i64.wrap ((IntKind.i64.wrap ((IntKind.i64.wrap (q43.toNat : Int)) + m4)) - start48))) rfl rfl (vt rfl)) rfl ?_
                refine AOps.cons (op_lss rfl rfl (vt rfl) (vt rfl)) rfl ?_
                refine AOps.cons (op_move (A := rd kbool (decide ((IntKind.i64.wrap (q43.toNat : Int)) < (IntKind.i64.wrap ((IntKind.i64.wrap ((IntKind.i64.wrap (q43.toNat : Int)) + m4)) - start48))))) rfl rfl (vt rfl)) rfl ?_
                refine AOps.consG (OpG.guard rfl rfl rfl rfl rfl fun hq => op_move (A := rd (kint .i64) (IntKind.i64.wrap ((IntKind.i64.wrap ((IntKind.i64.wrap (q43.toNat : Int)) + m4)) - start48))) rfl rfl (vt rfl)) ?_
                refine AOps.consG (OpG.guard rfl rfl rfl rfl rfl fun hq => op_move (A := rd (kint .i64) b5) rfl rfl (vt rfl)) ?_
                refine AOps.consG (OpG.guard rfl rfl rfl rfl rfl fun hq => op_lss rfl rfl (vgt rfl hq) (vgt rfl hq)) ?_
                refine AOps.cons (op_all rfl rfl (vt rfl) (vt rfl)) rfl ?_
                refine AOps.nil ?_
                refine AW.cond (vt rfl) (fun hc => ?_) (fun hc => ?_)
                · have h := cond_t hc h
                  obtain ⟨l57, hl57, h⟩ := bsome h
                  refine AW.region ?_
                  refine AOps.cons (op_move (A := raw v2) rfl rfl (vt rfl)) rfl ?_
                  refine AOps.cons (op_move (A := rd (kint .i64) (IntKind.i64.wrap (q43.toNat : Int))) rfl rfl (vt rfl)) rfl ?_
                  refine AOps.cons (op_move (A := rd (kint .i64) (IntKind.i64.wrap ((IntKind.i64.wrap ((IntKind.i64.wrap (q43.toNat : Int)) + m4)) - start48))) rfl rfl (vt rfl)) rfl ?_
                  refine AOps.cons (op_move (A := rd (kint .i64) b5) rfl rfl (vt rfl)) rfl ?_
                  refine AOps.cons (op_move (A := fn2 Tryz.prog kAction kAction (kint .i64) cmp6) rfl rfl (vt rfl)) rfl ?_
                  refine AOps.consT rfl (op_callR 0 (xs := [.tmp 214, .tmp 215, .tmp 216, .tmp 217, .tmp 218]) (hR_slices_symMergeCmpFunc_Action _ _ _ _ _ _ _ hl57) (Ent.mk Tryz.func96 rfl rfl) rfl rfl ⟨vt rfl, vt rfl, vt rfl, vt rfl, vt rfl, trivial⟩ rfl) ?_
                  rintro _ ⟨_u, rfl⟩
                  refine AOps.nil ?_
                  obtain rfl := Option.some.inj h
                  exact ret0Y (i := 0) Tryz.results96 rfl rfl
                · have h := cond_f hc h
                  refine AW.skip ?_
                  obtain rfl := Option.some.inj h
                  exact ret0Y (i := 0) Tryz.results96 rfl rfl
              case hx8 =>
                refine AW.seq ?_
                refine AW.region ?_
                refine AOps.cons (op_move (A := rd (kint .i64) a3) rfl rfl (vt rfl)) rfl ?_
                refine AOps.cons (op_move (A := rd (kint .i64) start48) rfl rfl (vt rfl)) rfl ?_
                refine AOps.cons (op_lss rfl rfl (vt rfl) (vt rfl)) rfl ?_
                refine AOps.cons (op_move (A := rd kbool (decide (a3 < start48))) rfl rfl (vt rfl)) rfl ?_
                refine AOps.consG (OpG.guard rfl rfl rfl rfl rfl fun hq => op_move (A := rd (kint .i64) start48) rfl rfl (vt rfl)) ?_
                refine AOps.consG (OpG.guard rfl rfl rfl rfl rfl fun hq => op_move (A := rd (kint .i64) (IntKind.i64.wrap (q43.toNat : Int))) rfl rfl (vt rfl)) ?_
                refine AOps.consG (OpG.guard rfl rfl rfl rfl rfl fun hq => op_lss rfl rfl (vgt rfl hq) (vgt rfl hq)) ?_
                refine AOps.cons (op_all rfl rfl (vt rfl) (vt rfl)) rfl ?_
                refine AOps.nil ?_
                refine AW.cond (vt rfl) (fun hc => ?_) (fun hc => ?_)
                · have h := cond_t hc h
                  obtain ⟨l58, hl58, h⟩ := bsome h
                  refine AW.region ?_
                  refine AOps.cons (op_move (A := raw v2) rfl rfl (vt rfl)) rfl ?_
                  refine AOps.cons (op_move (A := rd (kint .i64) a3) rfl rfl (vt rfl)) rfl ?_
                  refine AOps.cons (op_move (A := rd (kint .i64) start48) rfl rfl (vt rfl)) rfl ?_
                  refine AOps.cons (op_move (A := rd (kint .i64) (IntKind.i64.wrap (q43.toNat : Int))) rfl rfl (vt rfl)) rfl ?_
                  refine AOps.cons (op_move (A := fn2 Tryz.prog kAction kAction (kint .i64) cmp6) rfl rfl (vt rfl)) rfl ?_
                  refine AOps.consT rfl (op_callR 0 (xs := [.tmp 200, .tmp 201, .tmp 202, .tmp 203, .tmp 204]) (hR_slices_symMergeCmpFunc_Action _ _ _ _ _ _ _ hl58) (Ent.mk Tryz.func96 rfl rfl) rfl rfl ⟨vt rfl, vt rfl, vt rfl, vt rfl, vt rfl, trivial⟩ rfl) ?_
                  rintro _ ⟨_u, rfl⟩
                  refine AOps.nil ?_
                  exact ⟨l58, h, ⟨rfl, ⟨rfl, rfl, rfl, rfl, rfl, trivial⟩, ⟨rfl, trivial⟩⟩⟩
                · have h := cond_f hc h
                  refine AW.skip ?_
                  exact ⟨l55, h, ⟨rfl, ⟨rfl, rfl, rfl, rfl, rfl, trivial⟩, ⟨rfl, trivial⟩⟩⟩
            case hx7 =>
              refine AW.seq ?_
              refine AW.region ?_
              refine AOps.cons (op_move (A := rd (kint .i64) start48) rfl rfl (vt rfl)) rfl ?_
              refine AOps.cons (op_move (A := rd (kint .i64) m4) rfl rfl (vt rfl)) rfl ?_
              refine AOps.cons (op_lss rfl rfl (vt rfl) (vt rfl)) rfl ?_
              refine AOps.cons (op_move (A := rd kbool (decide (start48 < m4))) rfl rfl (vt rfl)) rfl ?_
              refine AOps.consG (OpG.guard rfl rfl rfl rfl rfl fun hq => op_move (A := rd (kint .i64) m4) rfl rfl (vt rfl)) ?_
              refine AOps.consG (OpG.guard rfl rfl rfl rfl rfl fun hq => op_move (A := rd (kint .i64) (IntKind.i64.wrap ((IntKind.i64.wrap ((IntKind.i64.wrap (q43.toNat : Int)) + m4)) - start48))) rfl rfl (vt rfl)) ?_
              refine AOps.consG (OpG.guard rfl rfl rfl rfl rfl fun hq => op_lss rfl rfl (vgt rfl hq) (vgt rfl hq)) ?_
              refine AOps.cons (op_all rfl rfl (vt rfl) (vt rfl)) rfl ?_
              refine AOps.nil ?_
              refine AW.cond (vt rfl) (fun hc => ?_) (fun hc => ?_)
              · have h := cond_t hc h
                obtain ⟨l59, hl59, h⟩ := bsome h
                refine AW.region ?_
                refine AOps.cons (op_move (A := raw v2) rfl rfl (vt rfl)) rfl ?_
                refine AOps.cons (op_move (A := rd (kint .i64) start48) rfl rfl (vt rfl)) rfl ?_
                refine AOps.cons (op_move (A := rd (kint .i64) m4) rfl rfl (vt rfl)) rfl ?_
                refine AOps.cons (op_move (A := rd (kint .i64) (IntKind.i64.wrap ((IntKind.i64.wrap ((IntKind.i64.wrap (q43.toNat : Int)) + m4)) - start48))) rfl rfl (vt rfl)) rfl ?_
                refine AOps.cons (op_move (A := fn2 Tryz.prog kAction kAction (kint .i64) cmp6) rfl rfl (vt rfl)) rfl ?_
                refine AOps.consT rfl (op_callR 0 (xs := [.tmp 186, .tmp 187, .tmp 188, .tmp 189, .tmp 190]) (c_slices_rotateCmpFunc_Action_o _ _ _ _ _ _ _ hl59) (Ent.mk Tryz.func103 rfl rfl) rfl rfl ⟨vt rfl, vt rfl, vt rfl, vt rfl, vt rfl, trivial⟩ rfl) ?_
                rintro _ ⟨_u, rfl⟩
                refine AOps.nil ?_
                exact ⟨l59, h, ⟨rfl, ⟨rfl, rfl, rfl, rfl, rfl, rfl, rfl, trivial⟩, ⟨rfl, trivial⟩⟩⟩
              · have h := cond_f hc h
                refine AW.skip ?_
                exact ⟨data1, h, ⟨rfl, ⟨rfl, rfl, rfl, rfl, rfl, rfl, rfl, trivial⟩, ⟨rfl, trivial⟩⟩⟩
      case hx5 =>
        refine AW.seq ?_
        refine AW.region ?_
        refine AOps.cons (op_move (A := rd (kint .i64) m4) rfl rfl (vt rfl)) rfl ?_
        refine AOps.cons (op_move (A := rd (kint .i64) (IntKind.i64.wrap (q43.toNat : Int))) rfl rfl (vt rfl)) rfl ?_
        refine AOps.cons (op_gtr rfl rfl (vt rfl) (vt rfl)) rfl ?_
        refine AOps.nil ?_
        refine AW.cond (vt rfl) (fun hc => ?_) (fun hc => ?_)
        · have h := cond_t hc h
          refine AW.seq ?_
          refine AW.region ?_
          refine AOps.cons (op_move (A := rd (kint .i64) (IntKind.i64.wrap ((IntKind.i64.wrap (q43.toNat : Int)) + m4))) rfl rfl (vt rfl)) rfl ?_
          refine AOps.cons (op_move (A := rd (kint .i64) b5) rfl rfl (vt rfl)) rfl ?_
          refine AOps.cons (op_sub rfl rfl (vt rfl) (vt rfl)) rfl ?_
          refine AOps.cons (op_assign (A := rd (kint .i64) (IntKind.i64.wrap ((IntKind.i64.wrap ((IntKind.i64.wrap (q43.toNat : Int)) + m4)) - b5))) rfl rfl (vt rfl)) rfl ?_
          refine AOps.nil ?_
          refine AW.region ?_
          refine AOps.cons (op_move (A := rd (kint .i64) (IntKind.i64.wrap (q43.toNat : Int))) rfl rfl (vt rfl)) rfl ?_
          refine AOps.cons (op_assign (A := rd (kint .i64) (IntKind.i64.wrap (q43.toNat : Int))) rfl rfl (vt rfl)) rfl ?_
          refine AOps.nil ?_
          exact ⟨((IntKind.i64.wrap ((IntKind.i64.wrap ((IntKind.i64.wrap (q43.toNat : Int)) + m4)) - b5)), (IntKind.i64.wrap (q43.toNat : Int))), h, ⟨rfl, ⟨rfl, rfl, rfl, rfl, rfl, rfl, rfl, rfl, rfl, trivial⟩, ⟨rfl, trivial⟩⟩⟩
        · have h := cond_f hc h
          refine AW.seq ?_
          refine AW.region ?_
          refine AOps.cons (op_move (A := rd (kint .i64) a3) rfl rfl (vt rfl)) rfl ?_
          refine AOps.cons (op_assign (A := rd (kint .i64) a3) rfl rfl (vt rfl)) rfl ?_
          refine AOps.nil ?_
          refine AW.region ?_
          refine AOps.cons (op_move (A := rd (kint .i64) m4) rfl rfl (vt rfl)) rfl ?_
          refine AOps.cons (op_assign (A := rd (kint .i64) m4) rfl rfl (vt rfl)) rfl ?_
          refine AOps.nil ?_
          exact ⟨(a3, m4), h, ⟨rfl, ⟨rfl, rfl, rfl, rfl, rfl, rfl, rfl, rfl, rfl, trivial⟩, ⟨rfl, trivial⟩⟩⟩
def FR_slices_symMergeCmpFunc_Action : Nat → ((List Action) → Int → Int → Int → (Action → Action → Option Int) → Option (List Action))
  | 0 => (fun _ _ _ _ _ => none)
  | n + 1 => (F_slices_symMergeCmpFunc_Action_s (FR_slices_symMergeCmpFunc_Action n))
theorem cR_slices_symMergeCmpFunc_Action : ∀ n : Nat, (∀ (v2 : Value) (data1 : (List Action)) (a3 : Int) (m4 : Int) (b5 : Int) (cmp6 : (Action → Action → Option Int)) (r : (List Action)), (FR_slices_symMergeCmpFunc_Action n) data1 a3 m4 b5 cmp6 = some r → Con Tryz.prog 96 [raw v2, rd (kint .i64) a3, rd (kint .i64) m4, rd (kint .i64) b5, fn2 Tryz.prog kAction kAction (kint .i64) cmp6] (Row v2 48 kAction data1) (fun _ : Unit => top) (fun _ => Row v2 48 kAction r))
  | 0 => (by intros; rename_i h; cases h)
  | n + 1 => by
    have ih := cR_slices_symMergeCmpFunc_Action n
    exact (c_slices_symMergeCmpFunc_Action_s (FR_slices_symMergeCmpFunc_Action n) ih)
def F_slices_symMergeCmpFunc_Action (data1 : (List Action)) (a3 : Int) (m4 : Int) (b5 : Int) (cmp6 : (Action → Action → Option Int)) : Option (List Action) := (FR_slices_symMergeCmpFunc_Action fuel0) data1 a3 m4 b5 cmp6
theorem c_slices_symMergeCmpFunc_Action_o : ∀ (v2 : Value) (data1 : (List Action)) (a3 : Int) (m4 : Int) (b5 : Int) (cmp6 : (Action → Action → Option Int)) (r : (List Action)), F_slices_symMergeCmpFunc_Action data1 a3 m4 b5 cmp6 = some r → Con Tryz.prog 96 [raw v2, rd (kint .i64) a3, rd (kint .i64) m4, rd (kint .i64) b5, fn2 Tryz.prog kAction kAction (kint .i64) cmp6] (Row v2 48 kAction data1) (fun _ : Unit => top) (fun _ => Row v2 48 kAction r) := cR_slices_symMergeCmpFunc_Action fuel0
def F_slices_stableCmpFunc_Action_l3 (n3 : Int) (blockSize17 : Int) (cmp4 : (Action → Action → Option Int)) (go2 : (List Action) → Int → Option (List Action)) : Nat → (List Action) → Int → Int → Option (List Action)
  | 0, _, _, _ => none
  | m25 + 1, l22, a23, b24 => (bif (decide (b24 ≤ n3)) then (F_slices_symMergeCmpFunc_Action l22 a23 (IntKind.i64.wrap (a23 + blockSize17)) b24 cmp4).bind fun l26 => (F_slices_stableCmpFunc_Action_l3 n3 blockSize17 cmp4 go2 m25) l26 b24 (IntKind.i64.wrap (b24 + (IntKind.i64.wrap (2 * blockSize17)))) else (bif (decide ((IntKind.i64.wrap (a23 + blockSize17)) < n3)) then (F_slices_symMergeCmpFunc_Action l22 a23 (IntKind.i64.wrap (a23 + blockSize17)) n3 cmp4).bind fun l27 => go2 l27 (IntKind.i64.wrap (blockSize17 * 2)) else go2 l22 (IntKind.i64.wrap (blockSize17 * 2))))
def F_slices_stableCmpFunc_Action_l2 (n3 : Int) (cmp4 : (Action → Action → Option Int)) : Nat → (List Action) → Int → Option (List Action)
  | 0, _, _ => none
  | m18 + 1, l16, blockSize17 => (bif (decide (blockSize17 < n3)) then F_slices_stableCmpFunc_Action_l3 n3 blockSize17 cmp4 (F_slices_stableCmpFunc_Action_l2 n3 cmp4 m18) (((n3 : Int) - (IntKind.i64.wrap (2 * blockSize17))).toNat + 2) l16 0 (IntKind.i64.wrap (2 * blockSize17)) else some l16)
def F_slices_stableCmpFunc_Action_l1 (n3 : Int) (cmp4 : (Action → Action → Option Int)) : Nat → (List Action) → Int → Int → Option (List Action)
  | 0, _, _, _ => none
  | m11 + 1, l8, a9, b10 => (bif (decide (b10 ≤ n3)) then (F_slices_insertionSortCmpFunc_Action l8 a9 b10 cmp4).bind fun l12 => (F_slices_stableCmpFunc_Action_l1 n3 cmp4 m11) l12 b10 (IntKind.i64.wrap (b10 + 20)) else (F_slices_insertionSortCmpFunc_Action l8 a9 n3 cmp4).bind fun l13 => F_slices_stableCmpFunc_Action_l2 n3 cmp4 (((n3 : Int) - 20).toNat + 1) l13 20)
def F_slices_stableCmpFunc_Action (data1 : (List Action)) (n3 : Int) (cmp4 : (Action → Action → Option Int)) : Option (List Action) :=
  F_slices_stableCmpFunc_Action_l1 n3 cmp4 (((n3 : Int) - 20).toNat + 2) data1 0 20
theorem c_slices_stableCmpFunc_Action_o (v2 : Value) (data1 : (List Action)) (n3 : Int) (cmp4 : (Action → Action → Option Int)) (r : (List Action)) (h : F_slices_stableCmpFunc_Action data1 n3 cmp4 = some r) : Con Tryz.prog 87 [raw v2, rd (kint .i64) n3, fn2 Tryz.prog kAction kAction (kint .i64) cmp4] (Row v2 48 kAction data1) (fun _ : Unit => top) (fun _ => Row v2 48 kAction r) := by
  refine Con.intro Tryz.func87 rfl Tryz.ntmps87 rfl fun w H X => ?_
  unfold F_slices_stableCmpFunc_Action at h
  refine AW.seq ?_
  refine AW.region ?_
  refine AOps.cons (op_assign (A := rd (kint .i64) 20) rfl rfl (vk rfl)) rfl ?_
  refine AOps.nil ?_
  refine AW.seq ?_
  refine AW.region ?_
  refine AOps.cons (op_move (A := rd (kint .i64) 20) rfl rfl (vt rfl)) rfl ?_
  refine AOps.cons (op_assign (A := rd (kint .i64) 0) rfl rfl (vk rfl)) rfl ?_
  refine AOps.cons (op_assign (A := rd (kint .i64) 20) rfl rfl (vt rfl)) rfl ?_
  refine AOps.nil ?_
  refine AW.seq ?_
  refine AW.block ?_
  refine AW.loopG (d := []) (ν := Nat × (List Action) × Int × Int) (fun n => True ∧ F_slices_stableCmpFunc_Action_l1 n3 cmp4 n.1 n.2.1 n.2.2.1 n.2.2.2 = some r) (fun n => n.1) (fun n => [(0, raw v2), (1, rd (kint .i64) n3), (2, fn2 Tryz.prog kAction kAction (kint .i64) cmp4), (6, rd (kint .i64) 20), (7, rd (kint .i64) n.2.2.1), (8, rd (kint .i64) n.2.2.2)]) (fun n => [(0, Row v2 48 kAction n.2.1)]) ((((n3 : Int) - 20).toNat + 2), data1, 0, 20) ⟨trivial, h⟩ ⟨rfl, ⟨rfl, rfl, rfl, rfl, rfl, rfl, trivial⟩, ⟨rfl, trivial⟩⟩ ?_
  rintro ⟨m11, l8, a9, b10⟩ ⟨hsf1, h⟩
  change True at hsf1
  change F_slices_stableCmpFunc_Action_l1 n3 cmp4 m11 l8 a9 b10 = some r at h
  change AW _ _ _ ⟨slots [(0, raw v2), (1, rd (kint .i64) n3), (2, fn2 Tryz.prog kAction kAction (kint .i64) cmp4), (6, rd (kint .i64) 20), (7, rd (kint .i64) a9), (8, rd (kint .i64) b10)], ress [(0, Row v2 48 kAction l8)], _⟩
  cases m11 with
  | zero => cases h
  | succ m11 =>
    unfold F_slices_stableCmpFunc_Action_l1 at h
    generalize hgo1 : F_slices_stableCmpFunc_Action_l1 n3 cmp4 m11 = go1 at h
    refine AW.seq ?_
    refine AW.seq ?_
    refine AW.region ?_
    refine AOps.cons (op_move (A := rd (kint .i64) b10) rfl rfl (vt rfl)) rfl ?_
    refine AOps.cons (op_move (A := rd (kint .i64) n3) rfl rfl (vt rfl)) rfl ?_
    refine AOps.cons (op_leq rfl rfl (vt rfl) (vt rfl)) rfl ?_
    refine AOps.nil ?_
    refine AW.cond (vt rfl) (fun hc => ?_) (fun hc => ?_)
    · have h := cond_t hc h
      refine AW.skip ?_
      refine AW.block ?_
      refine AW.seq ?_
      obtain ⟨l12, hl12, h⟩ := bsome h
      refine AW.region ?_
      refine AOps.cons (op_move (A := raw v2) rfl rfl (vt rfl)) rfl ?_
      refine AOps.cons (op_move (A := rd (kint .i64) a9) rfl rfl (vt rfl)) rfl ?_
      refine AOps.cons (op_move (A := rd (kint .i64) b10) rfl rfl (vt rfl)) rfl ?_
      refine AOps.cons (op_move (A := fn2 Tryz.prog kAction kAction (kint .i64) cmp4) rfl rfl (vt rfl)) rfl ?_
      refine AOps.consT rfl (op_callR 0 (xs := [.tmp 14, .tmp 15, .tmp 16, .tmp 17]) (c_slices_insertionSortCmpFunc_Action_o _ _ _ _ _ _ hl12) (Ent.mk Tryz.func95 rfl rfl) rfl rfl ⟨vt rfl, vt rfl, vt rfl, vt rfl, trivial⟩ rfl) ?_
      rintro _ ⟨_u, rfl⟩
      refine AOps.nil ?_
      refine AW.seq ?_
      refine AW.region ?_
      refine AOps.cons (op_move (A := rd (kint .i64) b10) rfl rfl (vt rfl)) rfl ?_
      refine AOps.cons (op_assign (A := rd (kint .i64) b10) rfl rfl (vt rfl)) rfl ?_
      refine AOps.nil ?_
      refine AW.region ?_
      refine AOps.cons (op_move (A := rd (kint .i64) b10) rfl rfl (vt rfl)) rfl ?_
      refine AOps.cons (op_move (A := rd (kint .i64) 20) rfl rfl (vt rfl)) rfl ?_
      refine AOps.cons (op_add rfl rfl (vt rfl) (vt rfl)) rfl ?_
      refine AOps.cons (op_assign (A := rd (kint .i64) (IntKind.i64.wrap (b10 + 20))) rfl rfl (vt rfl)) rfl ?_
      refine AOps.nil ?_
      subst hgo1
      exact ⟨(m11, l12, b10, (IntKind.i64.wrap (b10 + 20))), Nat.lt_succ_self _, ⟨trivial, h⟩, ⟨rfl, ⟨rfl, rfl, rfl, rfl, rfl, rfl, trivial⟩, ⟨rfl, trivial⟩⟩⟩
    · have h := cond_f hc h
      refine AW.exit ?_
      refine AW.seq ?_
      obtain ⟨l13, hl13, h⟩ := bsome h
      refine AW.region ?_
      refine AOps.cons (op_move (A := raw v2) rfl rfl (vt rfl)) rfl ?_
      refine AOps.cons (op_move (A := rd (kint .i64) a9) rfl rfl (vt rfl)) rfl ?_
      refine AOps.cons (op_move (A := rd (kint .i64) n3) rfl rfl (vt rfl)) rfl ?_
      refine AOps.cons (op_move (A := fn2 Tryz.prog kAction kAction (kint .i64) cmp4) rfl rfl (vt rfl)) rfl ?_
      refine AOps.consT rfl (op_callR 0 (xs := [.tmp 23, .tmp 24, .tmp 25, .tmp 26]) (c_slices_insertionSortCmpFunc_Action_o _ _ _ _ _ _ hl13) (Ent.mk Tryz.func95 rfl rfl) rfl rfl ⟨vt rfl, vt rfl, vt rfl, vt rfl, trivial⟩ rfl) ?_
      rintro _ ⟨_u, rfl⟩
      refine AOps.nil ?_
      refine AW.block ?_
      refine AW.loopG (d := []) (ν := Nat × (List Action) × Int) (fun n => True ∧ F_slices_stableCmpFunc_Action_l2 n3 cmp4 n.1 n.2.1 n.2.2 = some r) (fun n => n.1) (fun n => [(0, raw v2), (1, rd (kint .i64) n3), (2, fn2 Tryz.prog kAction kAction (kint .i64) cmp4), (6, rd (kint .i64) n.2.2)]) (fun n => [(0, Row v2 48 kAction n.2.1)]) ((((n3 : Int) - 20).toNat + 1), l13, 20) ⟨trivial, h⟩ ⟨rfl, ⟨rfl, rfl, rfl, rfl, trivial⟩, ⟨rfl, trivial⟩⟩ ?_
      rintro ⟨m18, l16, blockSize17⟩ ⟨hsf2, h⟩
      change True at hsf2
      change F_slices_stableCmpFunc_Action_l2 n3 cmp4 m18 l16 blockSize17 = some r at h
      change AW _ _ _ ⟨slots [(0, raw v2), (1, rd (kint .i64) n3), (2, fn2 Tryz.prog kAction kAction (kint .i64) cmp4), (6, rd (kint .i64) blockSize17)], ress [(0, Row v2 48 kAction l16)], _⟩
      cases m18 with
      | zero => cases h
      | succ m18 =>
        unfold F_slices_stableCmpFunc_Action_l2 at h
        generalize hgo2 : F_slices_stableCmpFunc_Action_l2 n3 cmp4 m18 = go2 at h
        refine AW.seq ?_
        refine AW.seq ?_
        refine AW.region ?_
        refine AOps.cons (op_move (A := rd (kint .i64) blockSize17) rfl rfl (vt rfl)) rfl ?_
        refine AOps.cons (op_move (A := rd (kint .i64) n3) rfl rfl (vt rfl)) rfl ?_
        refine AOps.cons (op_lss rfl rfl (vt rfl) (vt rfl)) rfl ?_
        refine AOps.nil ?_
        refine AW.cond (vt rfl) (fun hc => ?_) (fun hc => ?_)
        · have h := cond_t hc h
          refine AW.skip ?_
          refine AW.block ?_
          refine AW.seq ?_
          refine AW.region ?_
          refine AOps.cons (op_move (A := rd (kint .i64) blockSize17) rfl rfl (vt rfl)) rfl ?_
          refine AOps.cons (op_mul rfl rfl (vk rfl) (vt rfl)) rfl ?_
          refine AOps.cons (op_assign (A := rd (kint .i64) 0) rfl rfl (vk rfl)) rfl ?_
          refine AOps.cons (op_assign (A := rd (kint .i64) (IntKind.i64.wrap (2 * blockSize17))) rfl rfl (vt rfl)) rfl ?_
          refine AOps.nil ?_
          refine AW.seq ?_
          refine AW.block ?_
          refine AW.loopG (d := []) (ν := Nat × (List Action) × Int × Int) (fun n => True ∧ F_slices_stableCmpFunc_Action_l3 n3 blockSize17 cmp4 go2 n.1 n.2.1 n.2.2.1 n.2.2.2 = some r) (fun n => n.1) (fun n => [(0, raw v2), (1, rd (kint .i64) n3), (2, fn2 Tryz.prog kAction kAction (kint .i64) cmp4), (6, rd (kint .i64) blockSize17), (7, rd (kint .i64) n.2.2.1), (8, rd (kint .i64) n.2.2.2)]) (fun n => [(0, Row v2 48 kAction n.2.1)]) ((((n3 : Int) - (IntKind.i64.wrap (2 * blockSize17))).toNat + 2), l16, 0, (IntKind.i64.wrap (2 * blockSize17))) ⟨trivial, h⟩ ⟨rfl, ⟨rfl, rfl, rfl, rfl, rfl, rfl, trivial⟩, ⟨rfl, trivial⟩⟩ ?_
          rintro ⟨m25, l22, a23, b24⟩ ⟨hsf3, h⟩
          change True at hsf3
          change F_slices_stableCmpFunc_Action_l3 n3 blockSize17 cmp4 go2 m25 l22 a23 b24 = some r at h
          change AW _ _ _ ⟨slots [(0, raw v2), (1, rd (kint .i64) n3), (2, fn2 Tryz.prog kAction kAction (kint .i64) cmp4), (6, rd (kint .i64) blockSize17), (7, rd (kint .i64) a23), (8, rd (kint .i64) b24)], ress [(0, Row v2 48 kAction l22)], _⟩
          cases m25 with
          | zero => cases h
          | succ m25 =>
            unfold F_slices_stableCmpFunc_Action_l3 at h
            generalize hgo3 : F_slices_stableCmpFunc_Action_l3 n3 blockSize17 cmp4 go2 m25 = go3 at h
            refine AW.seq ?_
            refine AW.seq ?_
            refine AW.region ?_
            refine AOps.cons (op_move (A := rd (kint .i64) b24) rfl rfl (vt rfl)) rfl ?_
            refine AOps.cons (op_move (A := rd (kint .i64) n3) rfl rfl (vt rfl)) rfl ?_
            refine AOps.cons (op_leq rfl rfl (vt rfl) (vt rfl)) rfl ?_
            refine AOps.nil ?_
            refine AW.cond (vt rfl) (fun hc => ?_) (fun hc => ?_)
            · have h := cond_t hc h
              refine AW.skip ?_
              refine AW.block ?_
              refine AW.seq ?_
              obtain ⟨l26, hl26, h⟩ := bsome h
              refine AW.region ?_
              refine AOps.cons (op_move (A := raw v2) rfl rfl (vt rfl)) rfl ?_
              refine AOps.cons (op_move (A := rd (kint .i64) a23) rfl rfl (vt rfl)) rfl ?_
              refine AOps.cons (op_move (A := rd (kint .i64) a23) rfl rfl (vt rfl)) rfl ?_
              refine AOps.cons (op_move (A := rd (kint .i64) blockSize17) rfl rfl (vt rfl)) rfl ?_
              refine AOps.cons (op_add rfl rfl (vt rfl) (vt rfl)) rfl ?_
              refine AOps.cons (op_move (A := rd (kint .i64) b24) rfl rfl (vt rfl)) rfl ?_
              refine AOps.cons (op_move (A := fn2 Tryz.prog kAction kAction (kint .i64) cmp4) rfl rfl (vt rfl)) rfl ?_
              refine AOps.consT rfl (op_callR 0 (xs := [.tmp 36, .tmp 37, .tmp 40, .tmp 41, .tmp 42]) (c_slices_symMergeCmpFunc_Action_o _ _ _ _ _ _ _ hl26) (Ent.mk Tryz.func96 rfl rfl) rfl rfl ⟨vt rfl, vt rfl, vt rfl, vt rfl, vt rfl, trivial⟩ rfl) ?_
              rintro _ ⟨_u, rfl⟩
              refine AOps.nil ?_
              refine AW.seq ?_
              refine AW.region ?_
              refine AOps.cons (op_move (A := rd (kint .i64) b24) rfl rfl (vt rfl)) rfl ?_
              refine AOps.cons (op_assign (A := rd (kint .i64) b24) rfl rfl (vt rfl)) rfl ?_
              refine AOps.nil ?_
              refine AW.region ?_
              refine AOps.cons (op_move (A := rd (kint .i64) b24) rfl rfl (vt rfl)) rfl ?_
              refine AOps.cons (op_move (A := rd (kint .i64) blockSize17) rfl rfl (vt rfl)) rfl ?_
              refine AOps.cons (op_mul rfl rfl (vk rfl) (vt rfl)) rfl ?_
              refine AOps.cons (op_add rfl rfl (vt rfl) (vt rfl)) rfl ?_
              refine AOps.cons (op_assign (A := rd (kint .i64) (IntKind.i64.wrap (b24 + (IntKind.i64.wrap (2 * blockSize17))))) rfl rfl (vt rfl)) rfl ?_
              refine AOps.nil ?_
              subst hgo3
              exact ⟨(m25, l26, b24, (IntKind.i64.wrap (b24 + (IntKind.i64.wrap (2 * blockSize17))))), Nat.lt_succ_self _, ⟨trivial, h⟩, ⟨rfl, ⟨rfl, rfl, rfl, rfl, rfl, rfl, trivial⟩, ⟨rfl, trivial⟩⟩⟩
            · have h := cond_f hc h
              refine AW.exit ?_
              refine AW.seq ?_
              refine AW.seq ?_
              refine AW.region ?_
              refine AOps.cons (op_move (A := rd (kint .i64) a23) rfl rfl (vt rfl)) rfl ?_
              refine AOps.cons (op_move (A := rd (kint .i64) blockSize17) rfl rfl (vt rfl)) rfl ?_
              refine AOps.cons (op_add rfl rfl (vt rfl) (vt rfl)) rfl ?_
              refine AOps.cons (op_assign (A := rd (kint .i64) (IntKind.i64.wrap (a23 + blockSize17))) rfl rfl (vt rfl)) rfl ?_
              refine AOps.nil ?_
              refine AW.seq ?_
              refine AW.region ?_
              refine AOps.cons (op_move (A := rd (kint .i64) (IntKind.i64.wrap (a23 + blockSize17))) rfl rfl (vt rfl)) rfl ?_
              refine AOps.cons (op_move (A := rd (kint .i64) n3) rfl rfl (vt rfl)) rfl ?_
              refine AOps.cons (op_lss rfl rfl (vt rfl) (vt rfl)) rfl ?_
              refine AOps.nil ?_
              refine AW.cond (vt rfl) (fun hc => ?_) (fun hc => ?_)
              · have h := cond_t hc h
                obtain ⟨l27, hl27, h⟩ := bsome h
                refine AW.region ?_
                refine AOps.cons (op_move (A := raw v2) rfl rfl (vt rfl)) rfl ?_
                refine AOps.cons (op_move (A := rd (kint .i64) a23) rfl rfl (vt rfl)) rfl ?_
                refine AOps.cons (op_move (A := rd (kint .i64) (IntKind.i64.wrap (a23 + blockSize17))) rfl rfl (vt rfl)) rfl ?_
                refine AOps.cons (op_move (A := rd (kint .i64) n3) rfl rfl (vt rfl)) rfl ?_
                refine AOps.cons (op_move (A := fn2 Tryz.prog kAction kAction (kint .i64) cmp4) rfl rfl (vt rfl)) rfl ?_
                refine AOps.consT rfl (op_callR 0 (xs := [.tmp 55, .tmp 56, .tmp 57, .tmp 58, .tmp 59]) (c_slices_symMergeCmpFunc_Action_o _ _ _ _ _ _ _ hl27) (Ent.mk Tryz.func96 rfl rfl) rfl rfl ⟨vt rfl, vt rfl, vt rfl, vt rfl, vt rfl, trivial⟩ rfl) ?_
                rintro _ ⟨_u, rfl⟩
                refine AOps.nil ?_
                refine AW.region ?_
                refine AOps.cons (op_move (A := rd (kint .i64) blockSize17) rfl rfl (vt rfl)) rfl ?_
                refine AOps.cons (op_mul rfl rfl (vt rfl) (vk rfl)) rfl ?_
                refine AOps.cons (op_assign (A := rd (kint .i64) (IntKind.i64.wrap (blockSize17 * 2))) rfl rfl (vt rfl)) rfl ?_
                refine AOps.nil ?_
                subst hgo2
                exact ⟨(m18, l27, (IntKind.i64.wrap (blockSize17 * 2))), Nat.lt_succ_self _, ⟨trivial, h⟩, ⟨rfl, ⟨rfl, rfl, rfl, rfl, trivial⟩, ⟨rfl, trivial⟩⟩⟩
              · have h := cond_f hc h
                refine AW.skip ?_
                refine AW.region ?_
                refine AOps.cons (op_move (A := rd (kint .i64) blockSize17) rfl rfl (vt rfl)) rfl ?_
                refine AOps.cons (op_mul rfl rfl (vt rfl) (vk rfl)) rfl ?_
                refine AOps.cons (op_assign (A := rd (kint .i64) (IntKind.i64.wrap (blockSize17 * 2))) rfl rfl (vt rfl)) rfl ?_
                refine AOps.nil ?_
                subst hgo2
                exact ⟨(m18, l22, (IntKind.i64.wrap (blockSize17 * 2))), Nat.lt_succ_self _, ⟨trivial, h⟩, ⟨rfl, ⟨rfl, rfl, rfl, rfl, trivial⟩, ⟨rfl, trivial⟩⟩⟩
        · have h := cond_f hc h
          refine AW.exit ?_
          obtain rfl := Option.some.inj h
          exact ret0Y (i := 0) Tryz.results87 rfl rfl
def F_slices_SortStableFunc_Action (x1 : (List Action)) (cmp3 : (Action → Action → Option Int)) : Option (List Action) :=
  (F_slices_stableCmpFunc_Action x1 (x1.length : Int) cmp3).bind fun l4 => some l4
theorem c_slices_SortStableFunc_Action_o (v2 : Value) (x1 : (List Action)) (cmp3 : (Action → Action → Option Int)) (r : (List Action)) (h : F_slices_SortStableFunc_Action x1 cmp3 = some r) : Con Tryz.prog 73 [raw v2, fn2 Tryz.prog kAction kAction (kint .i64) cmp3] (Row v2 48 kAction x1) (fun _ : Unit => top) (fun _ => Row v2 48 kAction r) := by
  refine Con.intro Tryz.func73 rfl Tryz.ntmps73 rfl fun w H X => ?_
  unfold F_slices_SortStableFunc_Action at h
  obtain ⟨l4, hl4, h⟩ := bsome h
  refine AW.region ?_
  refine AOps.cons (op_move (A := raw v2) rfl rfl (vt rfl)) rfl ?_
  refine AOps.cons (op_move (A := raw v2) rfl rfl (vt rfl)) rfl ?_
  refine AOps.cons (op_leno 0 rfl rfl sl49 (vt rfl) rfl) rfl ?_
  refine AOps.cons (op_move (A := fn2 Tryz.prog kAction kAction (kint .i64) cmp3) rfl rfl (vt rfl)) rfl ?_
  refine AOps.consT rfl (op_callR 0 (xs := [.tmp 4, .tmp 6, .tmp 7]) (c_slices_stableCmpFunc_Action_o _ _ _ _ _ hl4) (Ent.mk Tryz.func87 rfl rfl) rfl rfl ⟨vt rfl, vt rfl, vt rfl, trivial⟩ rfl) ?_
  rintro _ ⟨_u, rfl⟩
  refine AOps.nil ?_
  obtain rfl := Option.some.inj h
  exact ret0Y (i := 0) Tryz.results73 rfl rfl
def F_aset_List_3 (a1 : Action) (b2 : Action) : Option Int :=
  (F_aset_at a1).bind fun x5 => (F_aset_at b2).bind fun x6 => (F_aset_turn x5.kind).bind fun x9 => (F_aset_turn x6.kind).bind fun x10 => (bif (decide ((IntKind.i64.wrap (x9 - x10)) ≠ 0)) then some (IntKind.i64.wrap (x9 - x10)) else (bif (decide (x5.field < x6.field)) then some (-1) else (bif (decide (x5.field > x6.field)) then some 1 else some 0)))
theorem c_aset_List_3 (a1 : Action) (b2 : Action) (r : Int) (h : F_aset_List_3 a1 b2 = some r) : PCon Tryz.prog 74 [rd kAction a1, rd kAction b2] (rd (kint .i64) r) := by
  refine PCon.of (Con.intro0 Tryz.func74 rfl Tryz.ntmps74 rfl fun w H => ?_)
  unfold F_aset_List_3 at h
  refine AW.seq ?_
  refine AW.region ?_
  refine AOps.consT rfl (op_box 3 rfl rfl (vt rfl)) ?_
  rintro _ ⟨g3, rfl⟩
  refine AOps.consT rfl (op_box 4 rfl rfl (vt rfl)) ?_
  rintro _ ⟨g4, rfl⟩
  refine AOps.cons (op_assign (A := rd (kint .i64) 0) rfl rfl (vk rfl)) rfl ?_
  refine AOps.nil ?_
  refine AW.seq ?_
  obtain ⟨x5, hx5, h⟩ := bsome h
  obtain ⟨x6, hx6, h⟩ := bsome h
  refine AW.regionAny [⟨[2], [8], [3], []⟩, ⟨[8], [9], [], []⟩, ⟨[3], [10], [4], []⟩, ⟨[10], [11], [], []⟩, ⟨[], [5], [], []⟩, ⟨[], [6], [], []⟩, ⟨[5, 9], [5], [], []⟩, ⟨[6, 11], [6], [], []⟩] mixed (by kernel_rfl) ?_
  refine SeqA.cons (loc [2] [3] rfl rfl fun S hs hr => op_load rfl rfl ty48 (vt ((hs 2 rfl).trans rfl)) (i := 3) ((hr 3 rfl).trans rfl)) ⟨rfl, rfl, rfl, rfl⟩ ?_
  refine SeqA.cons (loc [8] [] rfl rfl fun S hs hr => op_call (xs := [.tmp 8]) (c_aset_at _ _ hx5) (Ent.mk Tryz.func64 rfl rfl) rfl rfl ⟨vt ((hs 8 rfl).trans rfl), trivial⟩) ⟨rfl, rfl, rfl, rfl⟩ ?_
  refine SeqA.cons (loc [3] [4] rfl rfl fun S hs hr => op_load rfl rfl ty48 (vt ((hs 3 rfl).trans rfl)) (i := 4) ((hr 4 rfl).trans rfl)) ⟨rfl, rfl, rfl, rfl⟩ ?_
  refine SeqA.cons (loc [10] [] rfl rfl fun S hs hr => op_call (xs := [.tmp 10]) (c_aset_at _ _ hx6) (Ent.mk Tryz.func64 rfl rfl) rfl rfl ⟨vt ((hs 10 rfl).trans rfl), trivial⟩) ⟨rfl, rfl, rfl, rfl⟩ ?_
  refine SeqA.cons (locs (us := [(5, ownP 128 kaset_spot zaset_spot)]) (ur := []) [] [] rfl fun S hs hr => op_allocO rfl rfl rfl zr128) ⟨rfl, rfl, rfl, rfl⟩ ?_
  refine SeqA.cons (locs (us := [(6, ownP 128 kaset_spot zaset_spot)]) (ur := []) [] [] rfl fun S hs hr => op_allocO rfl rfl rfl zr128) ⟨rfl, rfl, rfl, rfl⟩ ?_
  refine SeqA.cons (locs (us := [(5, ownP 128 kaset_spot x5)]) (ur := []) [5, 9] [] rfl fun S hs hr => op_storeO rfl rfl ty128 ((hs 5 rfl).trans rfl) (vt ((hs 9 rfl).trans rfl))) ⟨rfl, rfl, rfl, rfl⟩ ?_
  refine SeqA.cons (locs (us := [(6, ownP 128 kaset_spot x6)]) (ur := []) [6, 11] [] rfl fun S hs hr => op_storeO rfl rfl ty128 ((hs 6 rfl).trans rfl) (vt ((hs 11 rfl).trans rfl))) ⟨rfl, rfl, rfl, rfl⟩ ?_
  refine AW.unpackP 5 6 rfl rfl fun g7 => ?_
  refine AW.unpackP 6 7 rfl rfl fun g8 => ?_
  refine AW.seq ?_
  refine AW.seq ?_
  obtain ⟨x9, hx9, h⟩ := bsome h
  obtain ⟨x10, hx10, h⟩ := bsome h
  refine AW.regionAny [⟨[5], [12], [], []⟩, ⟨[12], [13], [6], []⟩, ⟨[13], [14], [], []⟩, ⟨[6], [15], [], []⟩, ⟨[15], [16], [7], []⟩, ⟨[16], [17], [], []⟩, ⟨[14, 17], [18], [], []⟩, ⟨[18], [7], [], []⟩] mixed (by kernel_rfl) ?_
  refine SeqA.cons (loc [5] [] rfl rfl fun S hs hr => op_field laset_spot_0 rfl rfl fl128_0 (vt ((hs 5 rfl).trans rfl))) ⟨rfl, rfl, rfl, rfl⟩ ?_
  refine SeqA.cons (loc [12] [6] rfl rfl fun S hs hr => op_load rfl rfl ty3 (vt ((hs 12 rfl).trans rfl)) (i := 6) ((hr 6 rfl).trans rfl)) ⟨rfl, rfl, rfl, rfl⟩ ?_
  refine SeqA.cons (loc [13] [] rfl rfl fun S hs hr => op_call (xs := [.tmp 13]) (c_aset_turn _ _ hx9) (Ent.mk Tryz.func72 rfl rfl) rfl rfl ⟨vt ((hs 13 rfl).trans rfl), trivial⟩) ⟨rfl, rfl, rfl, rfl⟩ ?_
  refine SeqA.cons (loc [6] [] rfl rfl fun S hs hr => op_field laset_spot_0 rfl rfl fl128_0 (vt ((hs 6 rfl).trans rfl))) ⟨rfl, rfl, rfl, rfl⟩ ?_
  refine SeqA.cons (loc [15] [7] rfl rfl fun S hs hr => op_load rfl rfl ty3 (vt ((hs 15 rfl).trans rfl)) (i := 7) ((hr 7 rfl).trans rfl)) ⟨rfl, rfl, rfl, rfl⟩ ?_
  refine SeqA.cons (loc [16] [] rfl rfl fun S hs hr => op_call (xs := [.tmp 16]) (c_aset_turn _ _ hx10) (Ent.mk Tryz.func72 rfl rfl) rfl rfl ⟨vt ((hs 16 rfl).trans rfl), trivial⟩) ⟨rfl, rfl, rfl, rfl⟩ ?_
  refine SeqA.cons (loc [14, 17] [] rfl rfl fun S hs hr => op_sub rfl rfl (vt ((hs 14 rfl).trans rfl)) (vt ((hs 17 rfl).trans rfl))) ⟨rfl, rfl, rfl, rfl⟩ ?_
  refine SeqA.cons (loc [18] [] rfl rfl fun S hs hr => op_assign (A := rd (kint .i64) (IntKind.i64.wrap (x9 - x10))) rfl rfl (vt ((hs 18 rfl).trans rfl))) ⟨rfl, rfl, rfl, rfl⟩ ?_
  refine AW.seq ?_
  refine AW.region ?_
  refine AOps.cons (op_move (A := rd (kint .i64) (IntKind.i64.wrap (x9 - x10))) rfl rfl (vt rfl)) rfl ?_
  refine AOps.cons (op_neq rfl rfl (vt rfl) (vk rfl)) rfl ?_
  refine AOps.nil ?_
  refine AW.cond (vt rfl) (fun hc => ?_) (fun hc => ?_)
  · have h := cond_t hc h
    refine AW.seq ?_
    refine AW.region ?_
    refine AOps.cons (op_move (A := rd (kint .i64) (IntKind.i64.wrap (x9 - x10))) rfl rfl (vt rfl)) rfl ?_
    refine AOps.cons (op_assign (A := rd (kint .i64) (IntKind.i64.wrap (x9 - x10))) rfl rfl (vt rfl)) rfl ?_
    refine AOps.nil ?_
    refine AW.ret ?_
    obtain rfl := Option.some.inj h
    exact ret1 Tryz.results74 rfl (out_tmp rfl)
  · have h := cond_f hc h
    refine AW.skip ?_
    refine AW.seq ?_
    refine AW.block ?_
    refine AW.seq ?_
    refine AW.region ?_
    refine AOps.cons (op_field laset_spot_1 rfl rfl fl128_1 (vt rfl)) rfl ?_
    refine AOps.cons (op_load rfl rfl ty3 (vt rfl) (i := 6) rfl) rfl ?_
    refine AOps.cons (op_field laset_spot_1 rfl rfl fl128_1 (vt rfl)) rfl ?_
    refine AOps.cons (op_load rfl rfl ty3 (vt rfl) (i := 7) rfl) rfl ?_
    refine AOps.cons (op_lss rfl rfl (vt rfl) (vt rfl)) rfl ?_
    refine AOps.cons (op_assign (A := rd kbool (decide (x5.field < x6.field))) rfl rfl (vt rfl)) rfl ?_
    refine AOps.nil ?_
    refine AW.cond (vt rfl) (fun hc => ?_) (fun hc => ?_)
    · have h := cond_t hc h
      refine AW.seq ?_
      refine AW.region ?_
      refine AOps.cons (op_assign (A := rd (kint .i64) (-1)) rfl rfl (vk rfl)) rfl ?_
      refine AOps.nil ?_
      refine AW.ret ?_
      obtain rfl := Option.some.inj h
      exact ret1 Tryz.results74 rfl (out_tmp rfl)
    · have h := cond_f hc h
      refine AW.seq ?_
      refine AW.region ?_
      refine AOps.cons (op_field laset_spot_1 rfl rfl fl128_1 (vt rfl)) rfl ?_
      refine AOps.cons (op_load rfl rfl ty3 (vt rfl) (i := 6) rfl) rfl ?_
      refine AOps.cons (op_field laset_spot_1 rfl rfl fl128_1 (vt rfl)) rfl ?_
      refine AOps.cons (op_load rfl rfl ty3 (vt rfl) (i := 7) rfl) rfl ?_
      refine AOps.cons (op_gtr rfl rfl (vt rfl) (vt rfl)) rfl ?_
      refine AOps.cons (op_assign (A := rd kbool (decide (x5.field > x6.field))) rfl rfl (vt rfl)) rfl ?_
      refine AOps.nil ?_
      refine AW.cond (vt rfl) (fun hc => ?_) (fun hc => ?_)
      · have h := cond_t hc h
        refine AW.seq ?_
        refine AW.region ?_
        refine AOps.cons (op_assign (A := rd (kint .i64) 1) rfl rfl (vk rfl)) rfl ?_
        refine AOps.nil ?_
        refine AW.ret ?_
        obtain rfl := Option.some.inj h
        exact ret1 Tryz.results74 rfl (out_tmp rfl)
      · have h := cond_f hc h
        refine AW.skip ?_
        refine AW.seq ?_
        refine AW.region ?_
        refine AOps.cons (op_assign (A := rd (kint .i64) 0) rfl rfl (vk rfl)) rfl ?_
        refine AOps.nil ?_
        refine AW.ret ?_
        obtain rfl := Option.some.inj h
        exact ret1 Tryz.results74 rfl (out_tmp rfl)
def F_aset_List (set1 : (List Action)) : Option (List Action) :=
  (F_slices_ContainsFunc_Action set1 F_aset_List_1).bind fun x2 => (F_slices_Clone_Action set1).bind fun x4 => (F_slices_DeleteFunc_Action x4 (fun x => F_aset_List_2 x x2)).bind fun x6 => (F_slices_SortStableFunc_Action x6 F_aset_List_3).bind fun l8 => some l8
theorem c_aset_List (set1 : (List Action)) (r : (List Action)) (h : F_aset_List set1 = some r) : PCon Tryz.prog 43 [rd (ksl kAction) set1] (rd (ksl kAction) r) := by
  refine PCon.of (Con.intro0 Tryz.func43 rfl Tryz.ntmps43 rfl fun w H => ?_)
  unfold F_aset_List at h
  refine AW.seq ?_
  refine AW.region ?_
  refine AOps.cons (op_assign (A := rd (ksl kAction) []) rfl rfl vnil) rfl ?_
  refine AOps.nil ?_
  refine AW.seq ?_
  obtain ⟨x2, hx2, h⟩ := bsome h
  refine AW.region ?_
  refine AOps.cons (op_move (A := rd (ksl kAction) set1) rfl rfl (vt rfl)) rfl ?_
  refine AOps.cons (op_call (xs := [.tmp 5, .func 69]) (c_slices_ContainsFunc_Action _ _ _ hx2) (Ent.mk Tryz.func68 rfl rfl) rfl rfl ⟨vt rfl, vf1 (Ent.mk Tryz.func69 rfl rfl) c_aset_List_1, trivial⟩) rfl ?_
  refine AOps.consT rfl (op_alloc 4 rfl rfl zr4) ?_
  rintro _ ⟨g3, rfl⟩
  refine AOps.cons (op_store rfl rfl ty4 (vt rfl) (i := 4) rfl (vt rfl)) rfl ?_
  refine AOps.nil ?_
  refine AW.seq ?_
  refine AW.freezeB 3 4 rfl rfl rfl ?_
  obtain ⟨x4, hx4, h⟩ := bsome h
  obtain ⟨x6, hx6, h⟩ := bsome h
  refine AW.region ?_
  refine AOps.cons (op_move (A := rd (ksl kAction) set1) rfl rfl (vt rfl)) rfl ?_
  refine AOps.consT rfl (op_callR 1001 (xs := [.tmp 7]) (c_slices_Clone_Action_o _ _ hx4) (Ent.mk Tryz.func60 rfl rfl) rfl rfl ⟨vt rfl, trivial⟩ rfl) ?_
  rintro _ ⟨v5, rfl⟩
  refine AOps.cons (op_fn1 (cs := [.tmp 3]) (CAs := [rp kbool x2]) (fun x => F_aset_List_2 x x2) rfl rfl (Ent.mk Tryz.func71 rfl rfl) ⟨vt rfl, trivial⟩ (fun x y h => c_aset_List_2 _ _ y h)) rfl ?_
  refine AOps.consT rfl (op_callR 1001 (xs := [.tmp 8, .tmp 9]) (c_slices_DeleteFunc_Action_o _ _ _ _ hx6) (Ent.mk Tryz.func70 rfl rfl) rfl rfl ⟨vt rfl, vt rfl, trivial⟩ rfl) ?_
  rintro _ ⟨v7, rfl⟩
  refine AOps.cons (op_assign (A := raw v7) rfl rfl (vt rfl)) rfl ?_
  refine AOps.nil ?_
  refine AW.seq ?_
  obtain ⟨l8, hl8, h⟩ := bsome h
  refine AW.region ?_
  refine AOps.cons (op_move (A := raw v7) rfl rfl (vt rfl)) rfl ?_
  refine AOps.consT rfl (op_callR 1001 (xs := [.tmp 11, .func 74]) (c_slices_SortStableFunc_Action_o _ _ _ _ hl8) (Ent.mk Tryz.func73 rfl rfl) rfl rfl ⟨vt rfl, vf2 (Ent.mk Tryz.func74 rfl rfl) c_aset_List_3, trivial⟩ rfl) ?_
  rintro _ ⟨_u, rfl⟩
  refine AOps.nil ?_
  refine AW.seq ?_
  refine AW.region ?_
  refine AOps.cons (op_move (A := raw v7) rfl rfl (vt rfl)) rfl ?_
  refine AOps.cons (op_assign (A := raw v7) rfl rfl (vt rfl)) rfl ?_
  refine AOps.nil ?_
  refine AW.freezes [2, 4, 10, 11, 13] 1001 rfl ⟨rfl, rfl, rfl, rfl, rfl, trivial⟩ rfl ?_
  refine AW.ret ?_
  obtain rfl := Option.some.inj h
  exact ret1 Tryz.results43 rfl (out_tmp rfl)
end Go.Proofs.YtokmmcflinnfiabGreat.W
set_option linter.unusedVariables false
set_option maxRecDepth 4000
set_option linter.unusedSimpArgs false
namespace Go.Proofs.YtokmmcflinnfiabGreat.W
open Go Go.Wb
def F_walk_way_follow_j4 (l3 : (List Inst)) (at2 : Int) (b9 : walk_way) : Option (walk_way × Int × Bool) :=
  (F_inst_Of l3 1).bind fun x10 => (bif ((x10.2 && (decide (x10.1.Table > at2))) && (decide (x10.1.Table < 4))) then some (b9, x10.1.Table, true) else (F_aset_List b9.set).bind fun x12 => (F_walk_way_act b9 x12).bind fun x13 => some (x13, 0, false))
def F_walk_way_follow_j3 (l3 : (List Inst)) (at2 : Int) (b8 : walk_way) : Option (walk_way × Int × Bool) :=
  (F_inst_Of l3 2).bind fun x14 => (bif x14.2 then (F_rewrite_Set b8.got 1 x14.1.Value x14.1.Mask).bind fun x16 => F_walk_way_follow_j4 l3 at2 { b8 with got := x16 } else F_walk_way_follow_j4 l3 at2 b8)
def F_walk_way_follow_j2 (l3 : (List Inst)) (at2 : Int) (b7 : walk_way) : Option (walk_way × Int × Bool) :=
  (F_inst_Of l3 3).bind fun x17 => (bif x17.2 then (F_aset_Write b7.set x17.1.Acts).bind fun x19 => F_walk_way_follow_j3 l3 at2 { b7 with set := x19 } else F_walk_way_follow_j3 l3 at2 b7)
def F_walk_way_follow_j1 (l3 : (List Inst)) (at2 : Int) (b6 : walk_way) : Option (walk_way × Int × Bool) :=
  (F_inst_Of l3 5).bind fun x20 => (bif x20.2 then F_walk_way_follow_j2 l3 at2 { b6 with set := [] } else F_walk_way_follow_j2 l3 at2 b6)
def F_walk_way_follow (w1 : walk_way) (at2 : Int) (l3 : (List Inst)) : Option (walk_way × Int × Bool) :=
  (F_inst_Of l3 4).bind fun x22 => (bif x22.2 then (F_walk_way_act w1 x22.1.Acts).bind fun x24 => F_walk_way_follow_j1 l3 at2 x24 else F_walk_way_follow_j1 l3 at2 w1)
theorem c_walk_way_follow (w1 : walk_way) (at2 : Int) (l3 : (List Inst)) (r : (walk_way × Int × Bool)) (h : F_walk_way_follow w1 at2 l3 = some r) : PCon Tryz.prog 26 [rd kwalk_way w1, rd (kint .i64) at2, rd (ksl kInst) l3] (tup3 (rd kwalk_way r.1) (rd (kint .i64) r.2.1) (rd kbool r.2.2)) := by
  refine PCon.of (Con.intro0 Tryz.func26 rfl Tryz.ntmps26 rfl fun w H => ?_)
  unfold F_walk_way_follow at h
  refine AW.seq ?_
  refine AW.region ?_
  refine AOps.consT rfl (op_box 4 rfl rfl (vt rfl)) ?_
  rintro _ ⟨g4, rfl⟩
  refine AOps.consT rfl (op_alloc 7 rfl rfl zr71) ?_
  rintro _ ⟨g5, rfl⟩
  refine AOps.cons (op_assign (A := rd (kint .i64) 0) rfl rfl (vk rfl)) rfl ?_
  refine AOps.cons (op_assign (A := rd kbool false) rfl rfl vb) rfl ?_
  refine AOps.nil ?_
  refine AW.join (d := []) (ν := walk_way) (fun n => F_walk_way_follow_j1 l3 at2 n = some r) (fun n => [(1, rd (kint .i64) at2), (2, rd (ksl kInst) l3), (3, ptrL g4 (Lens.id kwalk_way)), (6, ptrL g5 (Lens.id kwalk_way))]) (fun n => [(4, Blk g4 71 kwalk_way n), (7, Blk g5 71 kwalk_way zwalk_way)]) ?hx1 ?hy1
  case hy1 =>
    intro b6 h
    unfold F_walk_way_follow_j1 at h
    change AW _ _ _ ⟨slots [(1, rd (kint .i64) at2), (2, rd (ksl kInst) l3), (3, ptrL g4 (Lens.id kwalk_way)), (6, ptrL g5 (Lens.id kwalk_way))], ress [(4, Blk g4 71 kwalk_way b6), (7, Blk g5 71 kwalk_way zwalk_way)], _⟩
    refine AW.join (d := []) (ν := walk_way) (fun n => F_walk_way_follow_j2 l3 at2 n = some r) (fun n => [(1, rd (kint .i64) at2), (2, rd (ksl kInst) l3), (3, ptrL g4 (Lens.id kwalk_way)), (6, ptrL g5 (Lens.id kwalk_way))]) (fun n => [(4, Blk g4 71 kwalk_way n), (7, Blk g5 71 kwalk_way zwalk_way)]) ?hx2 ?hy2
    case hy2 =>
      intro b7 h
      unfold F_walk_way_follow_j2 at h
      change AW _ _ _ ⟨slots [(1, rd (kint .i64) at2), (2, rd (ksl kInst) l3), (3, ptrL g4 (Lens.id kwalk_way)), (6, ptrL g5 (Lens.id kwalk_way))], ress [(4, Blk g4 71 kwalk_way b7), (7, Blk g5 71 kwalk_way zwalk_way)], _⟩
      refine AW.join (d := []) (ν := walk_way) (fun n => F_walk_way_follow_j3 l3 at2 n = some r) (fun n => [(1, rd (kint .i64) at2), (2, rd (ksl kInst) l3), (3, ptrL g4 (Lens.id kwalk_way)), (6, ptrL g5 (Lens.id kwalk_way))]) (fun n => [(4, Blk g4 71 kwalk_way n), (7, Blk g5 71 kwalk_way zwalk_way)]) ?hx3 ?hy3
      case hy3 =>
        intro b8 h
        unfold F_walk_way_follow_j3 at h
        change AW _ _ _ ⟨slots [(1, rd (kint .i64) at2), (2, rd (ksl kInst) l3), (3, ptrL g4 (Lens.id kwalk_way)), (6, ptrL g5 (Lens.id kwalk_way))], ress [(4, Blk g4 71 kwalk_way b8), (7, Blk g5 71 kwalk_way zwalk_way)], _⟩
        refine AW.join (d := []) (ν := walk_way) (fun n => F_walk_way_follow_j4 l3 at2 n = some r) (fun n => [(1, rd (kint .i64) at2), (2, rd (ksl kInst) l3), (3, ptrL g4 (Lens.id kwalk_way)), (6, ptrL g5 (Lens.id kwalk_way))]) (fun n => [(4, Blk g4 71 kwalk_way n), (7, Blk g5 71 kwalk_way zwalk_way)]) ?hx4 ?hy4
        case hy4 =>
          intro b9 h
          unfold F_walk_way_follow_j4 at h
          change AW _ _ _ ⟨slots [(1, rd (kint .i64) at2), (2, rd (ksl kInst) l3), (3, ptrL g4 (Lens.id kwalk_way)), (6, ptrL g5 (Lens.id kwalk_way))], ress [(4, Blk g4 71 kwalk_way b9), (7, Blk g5 71 kwalk_way zwalk_way)], _⟩
          refine AW.seq ?_
          obtain ⟨x10, hx10, h⟩ := bsome h
          refine AW.region ?_
          refine AOps.cons (op_move (A := rd (ksl kInst) l3) rfl rfl (vt rfl)) rfl ?_
          refine AOps.cons (op_call (xs := [.tmp 63, .const (Value.int IntKind.i64 1)]) (c_inst_Of _ _ _ hx10) (Ent.mk Tryz.func39 rfl rfl) rfl rfl ⟨vt rfl, vk rfl, trivial⟩) rfl ?_
          refine AOps.cons (op_move (A := tup2 (rd kInst x10.1) (rd kbool x10.2)) rfl rfl (vt rfl)) rfl ?_
          refine AOps.cons (op_fst rfl rfl (vt rfl)) rfl ?_
          refine AOps.cons (op_snd rfl rfl (vt rfl)) rfl ?_
          refine AOps.consT rfl (op_alloc 18 rfl rfl zr51) ?_
          rintro _ ⟨g11, rfl⟩
          refine AOps.cons (op_store rfl rfl ty51 (vt rfl) (i := 18) rfl (vt rfl)) rfl ?_
          refine AOps.cons (op_assign (A := rd kbool x10.2) rfl rfl (vt rfl)) rfl ?_
          refine AOps.nil ?_
          refine AW.seq ?_
          refine AW.seq ?_
          refine AW.region ?_
          refine AOps.cons (op_move (A := rd kbool x10.2) rfl rfl (vt rfl)) rfl ?_
          refine AOps.cons (op_move (A := rd kbool x10.2) rfl rfl (vt rfl)) rfl ?_
          refine AOps.consG (OpG.guard rfl rfl rfl rfl rfl fun hq => op_field lInst_1 rfl rfl fl51_1 (vt rfl)) ?_
          refine AOps.consG (OpG.guard rfl rfl rfl rfl rfl fun hq => op_load rfl rfl ty3 (vgt rfl hq) (i := 18) rfl) ?_
          refine AOps.consG (OpG.guard rfl rfl rfl rfl rfl fun hq => op_move (A := rd (kint .i64) at2) rfl rfl (vt rfl)) ?_
          refine AOps.consG (OpG.guard rfl rfl rfl rfl rfl fun hq => op_gtr rfl rfl (vgt rfl hq) (vgt rfl hq)) ?_
          refine AOps.cons (op_all rfl rfl (vt rfl) (vt rfl)) rfl ?_
          refine AOps.cons (op_move (A := rd kbool (x10.2 && (decide (x10.1.Table > at2)))) rfl rfl (vt rfl)) rfl ?_
          refine AOps.consG (OpG.guard rfl rfl rfl rfl rfl fun hq => op_field lInst_1 rfl rfl fl51_1 (vt rfl)) ?_
          refine AOps.consG (OpG.guard rfl rfl rfl rfl rfl fun hq => op_load rfl rfl ty3 (vgt rfl hq) (i := 18) rfl) ?_
          refine AOps.consG (OpG.guard rfl rfl rfl rfl rfl fun hq => op_lss rfl rfl (vgt rfl hq) (vk rfl)) ?_
          refine AOps.cons (op_all rfl rfl (vt rfl) (vt rfl)) rfl ?_
          refine AOps.nil ?_
          refine AW.cond (vt rfl) (fun hc => ?_) (fun hc => ?_)
          · have h := cond_t hc h
            refine AW.seq ?_
            refine AW.regionAny [⟨[3], [79], [4], []⟩, ⟨[17], [80], [], []⟩, ⟨[80], [81], [18], []⟩, ⟨[6, 79], [], [7], [7]⟩, ⟨[81], [7], [], []⟩, ⟨[], [8], [], []⟩] mixed (by kernel_rfl) ?_
            refine SeqA.cons (loc [3] [4] rfl rfl fun S hs hr => op_load rfl rfl ty71 (vt ((hs 3 rfl).trans rfl)) (i := 4) ((hr 4 rfl).trans rfl)) ⟨rfl, rfl, rfl, rfl⟩ ?_
            refine SeqA.cons (loc [17] [] rfl rfl fun S hs hr => op_field lInst_1 rfl rfl fl51_1 (vt ((hs 17 rfl).trans rfl))) ⟨rfl, rfl, rfl, rfl⟩ ?_
            refine SeqA.cons (loc [80] [18] rfl rfl fun S hs hr => op_load rfl rfl ty3 (vt ((hs 80 rfl).trans rfl)) (i := 18) ((hr 18 rfl).trans rfl)) ⟨rfl, rfl, rfl, rfl⟩ ?_
            refine SeqA.cons (locr [6, 79] [7] rfl fun S hs hr => op_store rfl rfl ty71 (vt ((hs 6 rfl).trans rfl)) (i := 7) ((hr 7 rfl).trans rfl) (vt ((hs 79 rfl).trans rfl))) ⟨rfl, rfl, rfl, rfl⟩ ?_
            refine SeqA.cons (loc [81] [] rfl rfl fun S hs hr => op_assign (A := rd (kint .i64) x10.1.Table) rfl rfl (vt ((hs 81 rfl).trans rfl))) ⟨rfl, rfl, rfl, rfl⟩ ?_
            refine SeqA.cons (loc [] [] rfl rfl fun S hs hr => op_assign (A := rd kbool true) rfl rfl vb) ⟨rfl, rfl, rfl, rfl⟩ ?_
            refine AW.ret ?_
            obtain rfl := Option.some.inj h
            exact ret3 Tryz.results26 rfl (out_cell rfl (i := 7) rfl ty71) (out_tmp rfl) (out_tmp rfl)
          · have h := cond_f hc h
            refine AW.skip ?_
            refine AW.seq ?_
            obtain ⟨x12, hx12, h⟩ := bsome h
            obtain ⟨x13, hx13, h⟩ := bsome h
            refine AW.regionAny [⟨[3], [82], [4], []⟩, ⟨[3], [83], [], []⟩, ⟨[83], [84], [4], []⟩, ⟨[84], [85], [], []⟩, ⟨[82, 85], [86], [], []⟩, ⟨[6, 86], [], [7], [7]⟩, ⟨[], [7], [], []⟩, ⟨[], [8], [], []⟩] mixed (by kernel_rfl) ?_
            refine SeqA.cons (loc [3] [4] rfl rfl fun S hs hr => op_load rfl rfl ty71 (vt ((hs 3 rfl).trans rfl)) (i := 4) ((hr 4 rfl).trans rfl)) ⟨rfl, rfl, rfl, rfl⟩ ?_
            refine SeqA.cons (loc [3] [] rfl rfl fun S hs hr => op_field lwalk_way_3 rfl rfl fl71_3 (vt ((hs 3 rfl).trans rfl))) ⟨rfl, rfl, rfl, rfl⟩ ?_
            refine SeqA.cons (loc [83] [4] rfl rfl fun S hs hr => op_load rfl rfl ty49 (vt ((hs 83 rfl).trans rfl)) (i := 4) ((hr 4 rfl).trans rfl)) ⟨rfl, rfl, rfl, rfl⟩ ?_
            refine SeqA.cons (loc [84] [] rfl rfl fun S hs hr => op_call (xs := [.tmp 84]) (c_aset_List _ _ hx12) (Ent.mk Tryz.func43 rfl rfl) rfl rfl ⟨vt ((hs 84 rfl).trans rfl), trivial⟩) ⟨rfl, rfl, rfl, rfl⟩ ?_
            refine SeqA.cons (loc [82, 85] [] rfl rfl fun S hs hr => op_call (xs := [.tmp 82, .tmp 85]) (c_walk_way_act _ _ _ hx13) (Ent.mk Tryz.func40 rfl rfl) rfl rfl ⟨vt ((hs 82 rfl).trans rfl), vt ((hs 85 rfl).trans rfl), trivial⟩) ⟨rfl, rfl, rfl, rfl⟩ ?_
            refine SeqA.cons (locr [6, 86] [7] rfl fun S hs hr => op_store rfl rfl ty71 (vt ((hs 6 rfl).trans rfl)) (i := 7) ((hr 7 rfl).trans rfl) (vt ((hs 86 rfl).trans rfl))) ⟨rfl, rfl, rfl, rfl⟩ ?_
            refine SeqA.cons (loc [] [] rfl rfl fun S hs hr => op_assign (A := rd (kint .i64) 0) rfl rfl (vk rfl)) ⟨rfl, rfl, rfl, rfl⟩ ?_
            refine SeqA.cons (loc [] [] rfl rfl fun S hs hr => op_assign (A := rd kbool false) rfl rfl vb) ⟨rfl, rfl, rfl, rfl⟩ ?_
            refine AW.ret ?_
            obtain rfl := Option.some.inj h
            exact ret3 Tryz.results26 rfl (out_cell rfl (i := 7) rfl ty71) (out_tmp rfl) (out_tmp rfl)
        case hx4 =>
          refine AW.seq ?_
          obtain ⟨x14, hx14, h⟩ := bsome h
          refine AW.region ?_
          refine AOps.cons (op_move (A := rd (ksl kInst) l3) rfl rfl (vt rfl)) rfl ?_
          refine AOps.cons (op_call (xs := [.tmp 49, .const (Value.int IntKind.i64 2)]) (c_inst_Of _ _ _ hx14) (Ent.mk Tryz.func39 rfl rfl) rfl rfl ⟨vt rfl, vk rfl, trivial⟩) rfl ?_
          refine AOps.cons (op_move (A := tup2 (rd kInst x14.1) (rd kbool x14.2)) rfl rfl (vt rfl)) rfl ?_
          refine AOps.cons (op_fst rfl rfl (vt rfl)) rfl ?_
          refine AOps.cons (op_snd rfl rfl (vt rfl)) rfl ?_
          refine AOps.consT rfl (op_alloc 16 rfl rfl zr51) ?_
          rintro _ ⟨g15, rfl⟩
          refine AOps.cons (op_store rfl rfl ty51 (vt rfl) (i := 16) rfl (vt rfl)) rfl ?_
          refine AOps.cons (op_assign (A := rd kbool x14.2) rfl rfl (vt rfl)) rfl ?_
          refine AOps.nil ?_
          refine AW.seq ?_
          refine AW.region ?_
          refine AOps.cons (op_move (A := rd kbool x14.2) rfl rfl (vt rfl)) rfl ?_
          refine AOps.nil ?_
          refine AW.cond (vt rfl) (fun hc => ?_) (fun hc => ?_)
          · have h := cond_t hc h
            obtain ⟨x16, hx16, h⟩ := bsome h
            refine AW.region ?_
            refine AOps.cons (op_field lwalk_way_1 rfl rfl fl71_1 (vt rfl)) rfl ?_
            refine AOps.cons (op_load rfl rfl ty55 (vt rfl) (i := 4) rfl) rfl ?_
            refine AOps.cons (op_field lInst_2 rfl rfl fl51_2 (vt rfl)) rfl ?_
            refine AOps.cons (op_load rfl rfl ty34 (vt rfl) (i := 16) rfl) rfl ?_
            refine AOps.cons (op_field lInst_3 rfl rfl fl51_3 (vt rfl)) rfl ?_
            refine AOps.cons (op_load rfl rfl ty34 (vt rfl) (i := 16) rfl) rfl ?_
            refine AOps.cons (op_call (xs := [.tmp 55, .const (Value.int IntKind.i64 1), .tmp 57, .tmp 59]) (c_rewrite_Set _ _ _ _ _ hx16) (Ent.mk Tryz.func42 rfl rfl) rfl rfl ⟨vt rfl, vk rfl, vt rfl, vt rfl, trivial⟩) rfl ?_
            refine AOps.cons (op_field lwalk_way_1 rfl rfl fl71_1 (vt rfl)) rfl ?_
            refine AOps.cons (op_store rfl rfl ty55 (vt rfl) (i := 4) rfl (vt rfl)) rfl ?_
            refine AOps.nil ?_
            exact ⟨{ b8 with got := x16 }, h, ⟨rfl, ⟨rfl, rfl, rfl, rfl, trivial⟩, ⟨rfl, rfl, trivial⟩⟩⟩
          · have h := cond_f hc h
            refine AW.skip ?_
            exact ⟨b8, h, ⟨rfl, ⟨rfl, rfl, rfl, rfl, trivial⟩, ⟨rfl, rfl, trivial⟩⟩⟩
      case hx3 =>
        refine AW.seq ?_
        obtain ⟨x17, hx17, h⟩ := bsome h
        refine AW.region ?_
        refine AOps.cons (op_move (A := rd (ksl kInst) l3) rfl rfl (vt rfl)) rfl ?_
        refine AOps.cons (op_call (xs := [.tmp 37, .const (Value.int IntKind.i64 3)]) (c_inst_Of _ _ _ hx17) (Ent.mk Tryz.func39 rfl rfl) rfl rfl ⟨vt rfl, vk rfl, trivial⟩) rfl ?_
        refine AOps.cons (op_move (A := tup2 (rd kInst x17.1) (rd kbool x17.2)) rfl rfl (vt rfl)) rfl ?_
        refine AOps.cons (op_fst rfl rfl (vt rfl)) rfl ?_
        refine AOps.cons (op_snd rfl rfl (vt rfl)) rfl ?_
        refine AOps.consT rfl (op_alloc 14 rfl rfl zr51) ?_
        rintro _ ⟨g18, rfl⟩
        refine AOps.cons (op_store rfl rfl ty51 (vt rfl) (i := 14) rfl (vt rfl)) rfl ?_
        refine AOps.cons (op_assign (A := rd kbool x17.2) rfl rfl (vt rfl)) rfl ?_
        refine AOps.nil ?_
        refine AW.seq ?_
        refine AW.region ?_
        refine AOps.cons (op_move (A := rd kbool x17.2) rfl rfl (vt rfl)) rfl ?_
        refine AOps.nil ?_
        refine AW.cond (vt rfl) (fun hc => ?_) (fun hc => ?_)
        · have h := cond_t hc h
          obtain ⟨x19, hx19, h⟩ := bsome h
          refine AW.region ?_
          refine AOps.cons (op_field lwalk_way_3 rfl rfl fl71_3 (vt rfl)) rfl ?_
          refine AOps.cons (op_load rfl rfl ty49 (vt rfl) (i := 4) rfl) rfl ?_
          refine AOps.cons (op_field lInst_4 rfl rfl fl51_4 (vt rfl)) rfl ?_
          refine AOps.cons (op_load rfl rfl ty49 (vt rfl) (i := 14) rfl) rfl ?_
          refine AOps.cons (op_call (xs := [.tmp 43, .tmp 45]) (c_aset_Write _ _ _ hx19) (Ent.mk Tryz.func41 rfl rfl) rfl rfl ⟨vt rfl, vt rfl, trivial⟩) rfl ?_
          refine AOps.cons (op_field lwalk_way_3 rfl rfl fl71_3 (vt rfl)) rfl ?_
          refine AOps.cons (op_store rfl rfl ty49 (vt rfl) (i := 4) rfl (vt rfl)) rfl ?_
          refine AOps.nil ?_
          exact ⟨{ b7 with set := x19 }, h, ⟨rfl, ⟨rfl, rfl, rfl, rfl, trivial⟩, ⟨rfl, rfl, trivial⟩⟩⟩
        · have h := cond_f hc h
          refine AW.skip ?_
          exact ⟨b7, h, ⟨rfl, ⟨rfl, rfl, rfl, rfl, trivial⟩, ⟨rfl, rfl, trivial⟩⟩⟩
    case hx2 =>
      refine AW.seq ?_
      obtain ⟨x20, hx20, h⟩ := bsome h
      refine AW.region ?_
      refine AOps.cons (op_move (A := rd (ksl kInst) l3) rfl rfl (vt rfl)) rfl ?_
      refine AOps.cons (op_call (xs := [.tmp 30, .const (Value.int IntKind.i64 5)]) (c_inst_Of _ _ _ hx20) (Ent.mk Tryz.func39 rfl rfl) rfl rfl ⟨vt rfl, vk rfl, trivial⟩) rfl ?_
      refine AOps.cons (op_move (A := tup2 (rd kInst x20.1) (rd kbool x20.2)) rfl rfl (vt rfl)) rfl ?_
      refine AOps.cons (op_fst rfl rfl (vt rfl)) rfl ?_
      refine AOps.cons (op_snd rfl rfl (vt rfl)) rfl ?_
      refine AOps.consT rfl (op_alloc 12 rfl rfl zr51) ?_
      rintro _ ⟨g21, rfl⟩
      refine AOps.cons (op_store rfl rfl ty51 (vt rfl) (i := 12) rfl (vt rfl)) rfl ?_
      refine AOps.cons (op_assign (A := rd kbool x20.2) rfl rfl (vt rfl)) rfl ?_
      refine AOps.nil ?_
      refine AW.seq ?_
      refine AW.region ?_
      refine AOps.cons (op_move (A := rd kbool x20.2) rfl rfl (vt rfl)) rfl ?_
      refine AOps.nil ?_
      refine AW.cond (vt rfl) (fun hc => ?_) (fun hc => ?_)
      · have h := cond_t hc h
        refine AW.region ?_
        refine AOps.cons (op_field lwalk_way_3 rfl rfl fl71_3 (vt rfl)) rfl ?_
        refine AOps.cons (op_store rfl rfl ty49 (vt rfl) (i := 4) rfl vnil) rfl ?_
        refine AOps.nil ?_
        exact ⟨{ b6 with set := [] }, h, ⟨rfl, ⟨rfl, rfl, rfl, rfl, trivial⟩, ⟨rfl, rfl, trivial⟩⟩⟩
      · have h := cond_f hc h
        refine AW.skip ?_
        exact ⟨b6, h, ⟨rfl, ⟨rfl, rfl, rfl, rfl, trivial⟩, ⟨rfl, rfl, trivial⟩⟩⟩
  case hx1 =>
    refine AW.seq ?_
    obtain ⟨x22, hx22, h⟩ := bsome h
    refine AW.region ?_
    refine AOps.cons (op_move (A := rd (ksl kInst) l3) rfl rfl (vt rfl)) rfl ?_
    refine AOps.cons (op_call (xs := [.tmp 20, .const (Value.int IntKind.i64 4)]) (c_inst_Of _ _ _ hx22) (Ent.mk Tryz.func39 rfl rfl) rfl rfl ⟨vt rfl, vk rfl, trivial⟩) rfl ?_
    refine AOps.cons (op_move (A := tup2 (rd kInst x22.1) (rd kbool x22.2)) rfl rfl (vt rfl)) rfl ?_
    refine AOps.cons (op_fst rfl rfl (vt rfl)) rfl ?_
    refine AOps.cons (op_snd rfl rfl (vt rfl)) rfl ?_
    refine AOps.consT rfl (op_alloc 10 rfl rfl zr51) ?_
    rintro _ ⟨g23, rfl⟩
    refine AOps.cons (op_store rfl rfl ty51 (vt rfl) (i := 10) rfl (vt rfl)) rfl ?_
    refine AOps.cons (op_assign (A := rd kbool x22.2) rfl rfl (vt rfl)) rfl ?_
    refine AOps.nil ?_
    refine AW.seq ?_
    refine AW.region ?_
    refine AOps.cons (op_move (A := rd kbool x22.2) rfl rfl (vt rfl)) rfl ?_
    refine AOps.nil ?_
    refine AW.cond (vt rfl) (fun hc => ?_) (fun hc => ?_)
    · have h := cond_t hc h
      obtain ⟨x24, hx24, h⟩ := bsome h
      refine AW.region ?_
      refine AOps.cons (op_load rfl rfl ty71 (vt rfl) (i := 4) rfl) rfl ?_
      refine AOps.cons (op_field lInst_4 rfl rfl fl51_4 (vt rfl)) rfl ?_
      refine AOps.cons (op_load rfl rfl ty49 (vt rfl) (i := 10) rfl) rfl ?_
      refine AOps.cons (op_call (xs := [.tmp 25, .tmp 27]) (c_walk_way_act _ _ _ hx24) (Ent.mk Tryz.func40 rfl rfl) rfl rfl ⟨vt rfl, vt rfl, trivial⟩) rfl ?_
      refine AOps.cons (op_store rfl rfl ty71 (vt rfl) (i := 4) rfl (vt rfl)) rfl ?_
      refine AOps.nil ?_
      exact ⟨x24, h, ⟨rfl, ⟨rfl, rfl, rfl, rfl, trivial⟩, ⟨rfl, rfl, trivial⟩⟩⟩
    · have h := cond_f hc h
      refine AW.skip ?_
      exact ⟨w1, h, ⟨rfl, ⟨rfl, rfl, rfl, rfl, trivial⟩, ⟨rfl, rfl, trivial⟩⟩⟩
def F_slices_Clone_Atom (s : List Atom) : Option (List Atom) := appd [] s
theorem c_slices_Clone_Atom_o (s : List Atom) (r : List Atom) (h : F_slices_Clone_Atom s = some r) : Con Tryz.prog 44 [rd (ksl kAtom) s] emp (fun v => raw v) (fun v => Row v 57 kAtom r) := by
  refine Con.intro0 Tryz.func44 rfl Tryz.ntmps44 rfl fun w H => ?_
  unfold F_slices_Clone_Atom at h
  refine AW.newnil 1001 57 kAtom ?_
  refine AW.seq ?_
  refine AW.region ?_
  refine AOps.cons (op_assign (A := raw (.slice none 0 0)) rfl rfl vc) rfl ?_
  refine AOps.nil ?_
  refine AW.seq ?_
  refine AW.seq ?_
  refine AW.region ?_
  refine AOps.cons (op_move (A := rd (ksl kAtom) s) rfl rfl (vt rfl)) rfl ?_
  refine AOps.consT rfl (op_eqnil rfl rfl sl39 (vt rfl)) ?_
  rintro _ ⟨b, hb, rfl⟩
  refine AOps.nil ?_
  refine AW.cond (vt rfl) (fun hc => ?_) (fun hc => ?_)
  · obtain rfl := hb hc
    refine AW.seq ?_
    refine AW.region ?_
    refine AOps.cons (op_assign (A := raw (.slice none 0 0)) rfl rfl vc) rfl ?_
    refine AOps.nil ?_
    refine AW.ret ?_
    obtain rfl := (appd_of h).2
    exact ret1R (i := 1001) Tryz.results44 rfl rfl rfl
  · refine AW.skip ?_
    refine AW.seq ?_
    refine AW.region ?_
    refine AOps.consT rfl (op_buildSlice 1002 (ps := []) (l := []) rfl rfl sl39 zr57 rfl rfl rfl rfl) ?_
    rintro _ ⟨v1, rfl⟩
    refine AOps.cons (op_move (A := rd (ksl kAtom) s) rfl rfl (vt rfl)) rfl ?_
    refine AOps.consT rfl (op_append' 1002 h rfl rfl el39 (vt rfl) rfl (vt rfl)) ?_
    rintro _ ⟨v2, rfl⟩
    refine AOps.cons (op_assign (A := raw v2) rfl rfl (vt rfl)) rfl ?_
    refine AOps.nil ?_
    refine AW.ret ?_
    exact ret1R (i := 1002) Tryz.results44 rfl rfl rfl
theorem c_slices_Clone_Atom (s : List Atom) (r : List Atom) (h : F_slices_Clone_Atom s = some r) : PCon Tryz.prog 44 [rd (ksl kAtom) s] (rd (ksl kAtom) r) := PCon.of_row (c_slices_Clone_Atom_o s r h)
def F_walk_way_rule (w1 : walk_way) : Option Rule :=
  (F_slices_Clone_Atom w1.atoms).bind fun x4 => some (⟨w1.cube, x4⟩ : Rule)
theorem c_walk_way_rule (w1 : walk_way) (r : Rule) (h : F_walk_way_rule w1 = some r) : PCon Tryz.prog 27 [rd kwalk_way w1] (rd kRule r) := by
  refine PCon.of (Con.intro0 Tryz.func27 rfl Tryz.ntmps27 rfl fun w H => ?_)
  unfold F_walk_way_rule at h
  refine AW.seq ?_
  refine AW.region ?_
  refine AOps.consT rfl (op_box 2 rfl rfl (vt rfl)) ?_
  rintro _ ⟨g2, rfl⟩
  refine AOps.consT rfl (op_alloc 3 rfl rfl zr41) ?_
  rintro _ ⟨g3, rfl⟩
  refine AOps.nil ?_
  refine AW.seq ?_
  obtain ⟨x4, hx4, h⟩ := bsome h
  refine AW.regionAny [⟨[1], [3], [], []⟩, ⟨[3], [4], [2], []⟩, ⟨[1], [5], [], []⟩, ⟨[5], [6], [2], []⟩, ⟨[6], [7], [], []⟩, ⟨[4, 7], [8], [], []⟩, ⟨[2, 8], [], [3], [3]⟩] mixed (by kernel_rfl) ?_
  refine SeqA.cons (loc [1] [] rfl rfl fun S hs hr => op_field lwalk_way_0 rfl rfl fl71_0 (vt ((hs 1 rfl).trans rfl))) ⟨rfl, rfl, rfl, rfl⟩ ?_
  refine SeqA.cons (loc [3] [2] rfl rfl fun S hs hr => op_load rfl rfl ty38 (vt ((hs 3 rfl).trans rfl)) (i := 2) ((hr 2 rfl).trans rfl)) ⟨rfl, rfl, rfl, rfl⟩ ?_
  refine SeqA.cons (loc [1] [] rfl rfl fun S hs hr => op_field lwalk_way_2 rfl rfl fl71_2 (vt ((hs 1 rfl).trans rfl))) ⟨rfl, rfl, rfl, rfl⟩ ?_
  refine SeqA.cons (loc [5] [2] rfl rfl fun S hs hr => op_load rfl rfl ty39 (vt ((hs 5 rfl).trans rfl)) (i := 2) ((hr 2 rfl).trans rfl)) ⟨rfl, rfl, rfl, rfl⟩ ?_
  refine SeqA.cons (loc [6] [] rfl rfl fun S hs hr => op_call (xs := [.tmp 6]) (c_slices_Clone_Atom _ _ hx4) (Ent.mk Tryz.func44 rfl rfl) rfl rfl ⟨vt ((hs 6 rfl).trans rfl), trivial⟩) ⟨rfl, rfl, rfl, rfl⟩ ?_
  refine SeqA.cons (loc [4, 7] [] rfl rfl fun S hs hr => op_build (ps := [(0, .tmp 4), (1, .tmp 7)]) (x := (⟨w1.cube, x4⟩ : Rule)) rfl rfl rfl (by kernel_rfl) zr41 ⟨_, _, lRule_0, _, by kernel_rfl, (vt ((hs 4 rfl).trans rfl)), _, _, lRule_1, _, by kernel_rfl, (vt ((hs 7 rfl).trans rfl)), rfl⟩) ⟨rfl, rfl, rfl, rfl⟩ ?_
  refine SeqA.cons (locr [2, 8] [3] rfl fun S hs hr => op_store rfl rfl ty41 (vt ((hs 2 rfl).trans rfl)) (i := 3) ((hr 3 rfl).trans rfl) (vt ((hs 8 rfl).trans rfl))) ⟨rfl, rfl, rfl, rfl⟩ ?_
  refine AW.ret ?_
  obtain rfl := Option.some.inj h
  exact ret1 Tryz.results27 rfl (out_cell rfl (i := 3) rfl ty41)
def F_walk_search_table_s_j2 (sg : Type) (go1 : Nat → (Lp sg) → Option (Bool × Lp sg)) (i11 : Nat) (s22 : (Lp sg)) (ok23 : Bool) : Option (Bool × Lp sg) :=
  (bif (!ok23) then some (false, s22) else go1 (i11 + 1) s22)
def F_walk_search_table_s_l1 (sg : Type) (w5 : walk_way) (y1 : (sg → Rule → Option (Lp sg))) (at4 : Int) (s3 : Switch) (R_walk_search_table : ((Lp sg) → Switch → Int → walk_way → Option (Bool × Lp sg))) : (List Int) → Nat → (Lp sg) → Option (Bool × Lp sg)
  | [], i11, s10 => (F_walk_way_rule w5).bind fun x13 => (yc y1 s10 x13).bind fun s14 => some ((Lp.isGo s14), s14)
  | x15 :: l12, i11, s10 => (chk 4 at4).bind fun j16 => (lget (Vector.get s3.Tables j16) x15).bind fun e17 => (F_walk_way_meet w5 e17).bind fun x19 => (bif (!x19.2) then (F_walk_search_table_s_l1 sg w5 y1 at4 s3 R_walk_search_table l12) (i11 + 1) s10 else (F_walk_way_follow x19.1 at4 e17.Insts).bind fun x21 => (bif x21.2.2 then (R_walk_search_table s10 s3 x21.2.1 x21.1).bind fun b24 => F_walk_search_table_s_j2 sg (F_walk_search_table_s_l1 sg w5 y1 at4 s3 R_walk_search_table l12) i11 b24.2 b24.1 else (F_walk_way_rule x21.1).bind fun x25 => (yc y1 s10 x25).bind fun s26 => F_walk_search_table_s_j2 sg (F_walk_search_table_s_l1 sg w5 y1 at4 s3 R_walk_search_table l12) i11 s26 (Lp.isGo s26)))
def F_walk_search_table_s (sg : Type) (y1 : (sg → Rule → Option (Lp sg))) (R_walk_search_table : ((Lp sg) → Switch → Int → walk_way → Option (Bool × Lp sg))) (s2 : (Lp sg)) (s3 : Switch) (at4 : Int) (w5 : walk_way) : Option (Bool × Lp sg) :=
  (chk 4 at4).bind fun j7 => (F_first_Order (Vector.get s3.Tables j7)).bind fun x8 => F_walk_search_table_s_l1 sg w5 y1 at4 s3 R_walk_search_table x8 0 s2
theorem c_walk_search_table_s (sg : Type) (y1 : (sg → Rule → Option (Lp sg))) (L : Lp sg → Res) (R_walk_search_table : ((Lp sg) → Switch → Int → walk_way → Option (Bool × Lp sg))) (hR_walk_search_table : ∀ (s2 : (Lp sg)) (s3 : Switch) (at4 : Int) (w5 : walk_way) (r : (Bool × Lp sg)), R_walk_search_table s2 s3 at4 w5 = some r → Con Tryz.prog 15 [rp (ksp kSwitch (ydA Tryz.prog kRule y1 L)) s3, rd (kint .i64) at4, rd kwalk_way w5] (L s2) (fun _ : Unit => rd kbool r.1) (fun _ => L r.2)) (s2 : (Lp sg)) (s3 : Switch) (at4 : Int) (w5 : walk_way) (r : (Bool × Lp sg)) (h : F_walk_search_table_s sg y1 R_walk_search_table s2 s3 at4 w5 = some r) : Con Tryz.prog 15 [rp (ksp kSwitch (ydA Tryz.prog kRule y1 L)) s3, rd (kint .i64) at4, rd kwalk_way w5] (L s2) (fun _ : Unit => rd kbool r.1) (fun _ => L r.2) := by
  refine Con.intro Tryz.func15 rfl Tryz.ntmps15 rfl fun w H X => ?_
  unfold F_walk_search_table_s at h
  refine AW.seq ?_
  refine AW.region ?_
  refine AOps.consT rfl (op_box 6 rfl rfl (vt rfl)) ?_
  rintro _ ⟨g6, rfl⟩
  refine AOps.cons (op_assign (A := rd kbool false) rfl rfl vb) rfl ?_
  refine AOps.nil ?_
  refine AW.scope ?_
  refine AW.seq ?_
  refine AW.label ?_
  refine AW.seq ?_
  refine AW.seq ?_
  obtain ⟨j7, hj7, h⟩ := bsome h
  obtain ⟨x8, hx8, h⟩ := bsome h
  refine AW.region ?_
  refine AOps.cons (op_move (A := rp (ksp kSwitch (ydA Tryz.prog kRule y1 L)) s3) rfl rfl (vt rfl)) rfl ?_
  refine AOps.cons (op_move (A := rd (kint .i64) at4) rfl rfl (vt rfl)) rfl ?_
  refine AOps.cons (op_nilCheckp rfl rfl (vt rfl)) rfl ?_
  refine AOps.cons (op_fieldp (lsp0 kSwitch (ydA Tryz.prog kRule y1 L)) rfl rfl (flsp67_0 _) (vt rfl)) rfl ?_
  refine AOps.cons (op_fieldp lSwitch_0 rfl rfl fl26_0 (vt rfl)) rfl ?_
  refine AOps.cons (op_indexp' rfl rfl ar23 (vt rfl) (vt rfl) hj7) rfl ?_
  refine AOps.cons (op_loadp rfl rfl ty22 (vt rfl)) rfl ?_
  refine AOps.cons (op_call (xs := [.tmp 20]) (c_first_Order _ _ hx8) (Ent.mk Tryz.func24 rfl rfl) rfl rfl ⟨vt rfl, trivial⟩) rfl ?_
  refine AOps.cons (op_len' rfl rfl sl81 (vt rfl)) rfl ?_
  refine AOps.cons (op_move (A := rd (kint .i64) 0) rfl rfl (vk rfl)) rfl ?_
  refine AOps.nil ?_
  refine AW.block ?_
  refine AW.loopG (d := []) (ν := (List Int) × Nat × (Lp sg)) (fun n => Sfx x8 n.2.1 n.1 ∧ F_walk_search_table_s_l1 sg w5 y1 at4 s3 R_walk_search_table n.1 n.2.1 n.2.2 = some r) (fun n => n.1.length) (fun n => [(0, rp (ksp kSwitch (ydA Tryz.prog kRule y1 L)) s3), (1, rd (kint .i64) at4), (5, ptrL g6 (Lens.id kwalk_way)), (21, rd (ksl (kint .i64)) x8), (22, rd (kint .i64) (x8.length : Int)), (23, rd (kint .i64) (n.2.1 : Int))]) (fun n => [(0, L n.2.2), (6, Blk g6 71 kwalk_way w5)]) (x8, 0, s2) ⟨Sfx.start _, h⟩ ⟨rfl, ⟨rfl, rfl, rfl, rfl, rfl, rfl, trivial⟩, ⟨rfl, rfl, trivial⟩⟩ ?_
  rintro ⟨l12, i11, s10⟩ ⟨hsf1, h⟩
  change Sfx x8 i11 l12 at hsf1
  change F_walk_search_table_s_l1 sg w5 y1 at4 s3 R_walk_search_table l12 i11 s10 = some r at h
  change AW _ _ _ ⟨slots [(0, rp (ksp kSwitch (ydA Tryz.prog kRule y1 L)) s3), (1, rd (kint .i64) at4), (5, ptrL g6 (Lens.id kwalk_way)), (21, rd (ksl (kint .i64)) x8), (22, rd (kint .i64) (x8.length : Int)), (23, rd (kint .i64) (i11 : Int))], ress [(0, L s10), (6, Blk g6 71 kwalk_way w5)], _⟩
  cases l12 with
  | nil =>
    unfold F_walk_search_table_s_l1 at h
    refine AW.seq ?_
    refine AW.region ?_
    refine AOps.cons (op_lss rfl rfl (vt rfl) (vt rfl)) rfl ?_
    refine AOps.nil ?_
    refine AW.seq ?_
    refine AW.cond (vt rfl) (fun hc => absurd (of_decide_eq_true hc) hsf1.nil) (fun hc => ?_)
    refine AW.exit ?_
    refine AW.seq ?_
    obtain ⟨x13, hx13, h⟩ := bsome h
    obtain ⟨s14, hs14, h⟩ := bsome h
    refine AW.regionAny [⟨[0], [69], [], []⟩, ⟨[69], [70], [], []⟩, ⟨[70], [71], [], []⟩, ⟨[71], [72], [], []⟩, ⟨[5], [73], [6], []⟩, ⟨[73], [74], [], []⟩, ⟨[72, 74], [75], [0], [0]⟩, ⟨[75], [6], [], []⟩] mixed (by kernel_rfl) ?_
    refine SeqA.cons (loc [0] [] rfl rfl fun S hs hr => op_move (A := rp (ksp kSwitch (ydA Tryz.prog kRule y1 L)) s3) rfl rfl (vt ((hs 0 rfl).trans rfl))) ⟨rfl, rfl, rfl, rfl⟩ ?_
    refine SeqA.cons (loc [69] [] rfl rfl fun S hs hr => op_nilCheckp rfl rfl (vt ((hs 69 rfl).trans rfl))) ⟨rfl, rfl, rfl, rfl⟩ ?_
    refine SeqA.cons (loc [70] [] rfl rfl fun S hs hr => op_fieldp (lsp1 kSwitch (ydA Tryz.prog kRule y1 L)) rfl rfl (flsp67_1 _) (vt ((hs 70 rfl).trans rfl))) ⟨rfl, rfl, rfl, rfl⟩ ?_
    refine SeqA.cons (loc [71] [] rfl rfl fun S hs hr => op_loadpA (A := ydA Tryz.prog kRule y1 L) rfl rfl rfl (tyk64 _) (vt ((hs 71 rfl).trans rfl))) ⟨rfl, rfl, rfl, rfl⟩ ?_
    refine SeqA.cons (loc [5] [6] rfl rfl fun S hs hr => op_load rfl rfl ty71 (vt ((hs 5 rfl).trans rfl)) (i := 6) ((hr 6 rfl).trans rfl)) ⟨rfl, rfl, rfl, rfl⟩ ?_
    refine SeqA.cons (loc [73] [] rfl rfl fun S hs hr => op_call (xs := [.tmp 73]) (c_walk_way_rule _ _ hx13) (Ent.mk Tryz.func27 rfl rfl) rfl rfl ⟨vt ((hs 73 rfl).trans rfl), trivial⟩) ⟨rfl, rfl, rfl, rfl⟩ ?_
    refine SeqA.cons (locs (us := [(75, rd kbool (Lp.isGo s14))]) (ur := [(0, L s14)]) [72, 74] [0] rfl fun S hs hr => op_yield 0 hs14 rfl rfl (vt ((hs 72 rfl).trans rfl)) (vt ((hs 74 rfl).trans rfl)) ((hr 0 rfl).trans rfl)) ⟨rfl, rfl, rfl, rfl⟩ ?_
    refine SeqA.cons (loc [75] [] rfl rfl fun S hs hr => op_assign (A := rd kbool (Lp.isGo s14)) rfl rfl (vt ((hs 75 rfl).trans rfl))) ⟨rfl, rfl, rfl, rfl⟩ ?_
    refine AW.ret ?_
    obtain rfl := Option.some.inj h
    exact ret1Y (i := 0) Tryz.results15 rfl (out_tmp rfl) rfl
  | cons x15 l12 =>
    unfold F_walk_search_table_s_l1 at h
    generalize hgo1 : F_walk_search_table_s_l1 sg w5 y1 at4 s3 R_walk_search_table l12 = go1 at h
    refine AW.seq ?_
    refine AW.region ?_
    refine AOps.cons (op_lss rfl rfl (vt rfl) (vt rfl)) rfl ?_
    refine AOps.nil ?_
    refine AW.seq ?_
    refine AW.cond (vt rfl) (fun hc => ?_) (fun hc => absurd hsf1.cons (of_decide_eq_false hc))
    have hlti11 := of_decide_eq_true hc
    refine AW.skip ?_
    refine AW.seq ?_
    refine AW.block ?_
    refine AW.seq ?_
    refine AW.region ?_
    refine AOps.cons (op_indexs' rfl rfl sl81 (vt rfl) (vt rfl) hsf1.lget) rfl ?_
    refine AOps.cons (op_loadp rfl rfl ty3 (vt rfl)) rfl ?_
    refine AOps.cons (op_assign (A := rd (kint .i64) x15) rfl rfl (vt rfl)) rfl ?_
    refine AOps.nil ?_
    refine AW.seq ?_
    obtain ⟨j16, hj16, h⟩ := bsome h
    obtain ⟨e17, he17, h⟩ := bsome h
    refine AW.region ?_
    refine AOps.cons (op_move (A := rp (ksp kSwitch (ydA Tryz.prog kRule y1 L)) s3) rfl rfl (vt rfl)) rfl ?_
    refine AOps.cons (op_move (A := rd (kint .i64) at4) rfl rfl (vt rfl)) rfl ?_
    refine AOps.cons (op_nilCheckp rfl rfl (vt rfl)) rfl ?_
    refine AOps.cons (op_fieldp (lsp0 kSwitch (ydA Tryz.prog kRule y1 L)) rfl rfl (flsp67_0 _) (vt rfl)) rfl ?_
    refine AOps.cons (op_fieldp lSwitch_0 rfl rfl fl26_0 (vt rfl)) rfl ?_
    refine AOps.cons (op_indexp' rfl rfl ar23 (vt rfl) (vt rfl) hj16) rfl ?_
    refine AOps.cons (op_loadp rfl rfl ty22 (vt rfl)) rfl ?_
    refine AOps.cons (op_move (A := rd (kint .i64) x15) rfl rfl (vt rfl)) rfl ?_
    refine AOps.cons (op_indexs' rfl rfl sl22 (vt rfl) (vt rfl) he17) rfl ?_
    refine AOps.cons (op_loadp rfl rfl ty54 (vt rfl)) rfl ?_
    refine AOps.consT rfl (op_alloc 10 rfl rfl zr54) ?_
    rintro _ ⟨g18, rfl⟩
    refine AOps.cons (op_store rfl rfl ty54 (vt rfl) (i := 10) rfl (vt rfl)) rfl ?_
    refine AOps.nil ?_
    refine AW.seq ?_
    obtain ⟨x19, hx19, h⟩ := bsome h
    refine AW.region ?_
    refine AOps.cons (op_load rfl rfl ty71 (vt rfl) (i := 6) rfl) rfl ?_
    refine AOps.cons (op_load rfl rfl ty54 (vt rfl) (i := 10) rfl) rfl ?_
    refine AOps.cons (op_call (xs := [.tmp 38, .tmp 39]) (c_walk_way_meet _ _ _ hx19) (Ent.mk Tryz.func25 rfl rfl) rfl rfl ⟨vt rfl, vt rfl, trivial⟩) rfl ?_
    refine AOps.cons (op_move (A := tup2 (rd kwalk_way x19.1) (rd kbool x19.2)) rfl rfl (vt rfl)) rfl ?_
    refine AOps.cons (op_fst rfl rfl (vt rfl)) rfl ?_
    refine AOps.cons (op_snd rfl rfl (vt rfl)) rfl ?_
    refine AOps.consT rfl (op_alloc 11 rfl rfl zr71) ?_
    rintro _ ⟨g20, rfl⟩
    refine AOps.cons (op_store rfl rfl ty71 (vt rfl) (i := 11) rfl (vt rfl)) rfl ?_
    refine AOps.cons (op_assign (A := rd kbool x19.2) rfl rfl (vt rfl)) rfl ?_
    refine AOps.nil ?_
    refine AW.seq ?_
    refine AW.seq ?_
    refine AW.region ?_
    refine AOps.cons (op_move (A := rd kbool x19.2) rfl rfl (vt rfl)) rfl ?_
    refine AOps.cons (op_not rfl rfl (vt rfl)) rfl ?_
    refine AOps.nil ?_
    refine AW.cond (vt rfl) (fun hc => ?_) (fun hc => ?_)
    · have h := cond_t hc h
      refine AW.exit ?_
      refine AW.region ?_
      refine AOps.cons (op_incr (t := 22) rfl rfl (vt rfl) (vk rfl) (vt rfl) hlti11) rfl ?_
      refine AOps.cons (op_move (A := rd (kint .i64) ((i11 + 1 : Nat) : Int)) rfl rfl (vt rfl)) rfl ?_
      refine AOps.nil ?_
      subst hgo1
      exact ⟨(l12, i11 + 1, s10), Nat.lt_succ_self _, ⟨hsf1.next, h⟩, ⟨rfl, ⟨rfl, rfl, rfl, rfl, rfl, rfl, trivial⟩, ⟨rfl, rfl, trivial⟩⟩⟩
    · have h := cond_f hc h
      refine AW.skip ?_
      refine AW.seq ?_
      obtain ⟨x21, hx21, h⟩ := bsome h
      refine AW.region ?_
      refine AOps.cons (op_load rfl rfl ty71 (vt rfl) (i := 11) rfl) rfl ?_
      refine AOps.cons (op_move (A := rd (kint .i64) at4) rfl rfl (vt rfl)) rfl ?_
      refine AOps.cons (op_field lFlow_6 rfl rfl fl54_6 (vt rfl)) rfl ?_
      refine AOps.cons (op_load rfl rfl ty52 (vt rfl) (i := 10) rfl) rfl ?_
      refine AOps.cons (op_call (xs := [.tmp 46, .tmp 47, .tmp 49]) (c_walk_way_follow _ _ _ _ hx21) (Ent.mk Tryz.func26 rfl rfl) rfl rfl ⟨vt rfl, vt rfl, vt rfl, trivial⟩) rfl ?_
      refine AOps.cons (op_move (A := tup3 (rd kwalk_way x21.1) (rd (kint .i64) x21.2.1) (rd kbool x21.2.2)) rfl rfl (vt rfl)) rfl ?_
      refine AOps.cons (op_ext3_0 rfl rfl (vt rfl)) rfl ?_
      refine AOps.cons (op_ext3_1 rfl rfl (vt rfl)) rfl ?_
      refine AOps.cons (op_ext3_2 rfl rfl (vt rfl)) rfl ?_
      refine AOps.cons (op_store rfl rfl ty71 (vt rfl) (i := 11) rfl (vt rfl)) rfl ?_
      refine AOps.cons (op_assign (A := rd (kint .i64) x21.2.1) rfl rfl (vt rfl)) rfl ?_
      refine AOps.cons (op_assign (A := rd kbool x21.2.2) rfl rfl (vt rfl)) rfl ?_
      refine AOps.nil ?_
      refine AW.join (d := []) (ν := (Lp sg) × Bool) (fun n => F_walk_search_table_s_j2 sg go1 i11 n.1 n.2 = some r) (fun n => [(0, rp (ksp kSwitch (ydA Tryz.prog kRule y1 L)) s3), (1, rd (kint .i64) at4), (5, ptrL g6 (Lens.id kwalk_way)), (11, rd kbool n.2), (21, rd (ksl (kint .i64)) x8), (22, rd (kint .i64) (x8.length : Int)), (23, rd (kint .i64) (i11 : Int))]) (fun n => [(0, L n.1), (6, Blk g6 71 kwalk_way w5)]) ?hx2 ?hy2
      case hy2 =>
        rintro ⟨s22, ok23⟩ h
        unfold F_walk_search_table_s_j2 at h
        change AW _ _ _ ⟨slots [(0, rp (ksp kSwitch (ydA Tryz.prog kRule y1 L)) s3), (1, rd (kint .i64) at4), (5, ptrL g6 (Lens.id kwalk_way)), (11, rd kbool ok23), (21, rd (ksl (kint .i64)) x8), (22, rd (kint .i64) (x8.length : Int)), (23, rd (kint .i64) (i11 : Int))], ress [(0, L s22), (6, Blk g6 71 kwalk_way w5)], _⟩
        refine AW.seq ?_
        refine AW.region ?_
        refine AOps.cons (op_move (A := rd kbool ok23) rfl rfl (vt rfl)) rfl ?_
        refine AOps.cons (op_not rfl rfl (vt rfl)) rfl ?_
        refine AOps.nil ?_
        refine AW.cond (vt rfl) (fun hc => ?_) (fun hc => ?_)
        · have h := cond_t hc h
          refine AW.seq ?_
          refine AW.region ?_
          refine AOps.cons (op_assign (A := rd kbool false) rfl rfl vb) rfl ?_
          refine AOps.nil ?_
          refine AW.ret ?_
          obtain rfl := Option.some.inj h
          exact ret1Y (i := 0) Tryz.results15 rfl (out_tmp rfl) rfl
        · have h := cond_f hc h
          refine AW.skip ?_
          refine AW.region ?_
          refine AOps.cons (op_incr (t := 22) rfl rfl (vt rfl) (vk rfl) (vt rfl) hlti11) rfl ?_
          refine AOps.cons (op_move (A := rd (kint .i64) ((i11 + 1 : Nat) : Int)) rfl rfl (vt rfl)) rfl ?_
          refine AOps.nil ?_
          subst hgo1
          exact ⟨(l12, i11 + 1, s22), Nat.lt_succ_self _, ⟨hsf1.next, h⟩, ⟨rfl, ⟨rfl, rfl, rfl, rfl, rfl, rfl, trivial⟩, ⟨rfl, rfl, trivial⟩⟩⟩
      case hx2 =>
        refine AW.seq ?_
        refine AW.region ?_
        refine AOps.cons (op_move (A := rd kbool x21.2.2) rfl rfl (vt rfl)) rfl ?_
        refine AOps.nil ?_
        refine AW.cond (vt rfl) (fun hc => ?_) (fun hc => ?_)
        · have h := cond_t hc h
          obtain ⟨b24, hb24, h⟩ := bsome h
          refine AW.region ?_
          refine AOps.cons (op_move (A := rp (ksp kSwitch (ydA Tryz.prog kRule y1 L)) s3) rfl rfl (vt rfl)) rfl ?_
          refine AOps.cons (op_move (A := rd (kint .i64) x21.2.1) rfl rfl (vt rfl)) rfl ?_
          refine AOps.cons (op_load rfl rfl ty71 (vt rfl) (i := 11) rfl) rfl ?_
          refine AOps.consT rfl (op_callR 0 (xs := [.tmp 55, .tmp 56, .tmp 57]) (hR_walk_search_table _ _ _ _ _ hb24) (Ent.mk Tryz.func15 rfl rfl) rfl rfl ⟨vt rfl, vt rfl, vt rfl, trivial⟩ rfl) ?_
          rintro _ ⟨_u, rfl⟩
          refine AOps.cons (op_assign (A := rd kbool b24.1) rfl rfl (vt rfl)) rfl ?_
          refine AOps.nil ?_
          exact ⟨(b24.2, b24.1), h, ⟨rfl, ⟨rfl, rfl, rfl, rfl, rfl, rfl, rfl, trivial⟩, ⟨rfl, rfl, trivial⟩⟩⟩
        · have h := cond_f hc h
          obtain ⟨x25, hx25, h⟩ := bsome h
          obtain ⟨s26, hs26, h⟩ := bsome h
          refine AW.regionAny [⟨[0], [59], [], []⟩, ⟨[59], [60], [], []⟩, ⟨[60], [61], [], []⟩, ⟨[61], [62], [], []⟩, ⟨[10], [63], [11], []⟩, ⟨[63], [64], [], []⟩, ⟨[62, 64], [65], [0], [0]⟩, ⟨[65], [11], [], []⟩] mixed (by kernel_rfl) ?_
          refine SeqA.cons (loc [0] [] rfl rfl fun S hs hr => op_move (A := rp (ksp kSwitch (ydA Tryz.prog kRule y1 L)) s3) rfl rfl (vt ((hs 0 rfl).trans rfl))) ⟨rfl, rfl, rfl, rfl⟩ ?_
          refine SeqA.cons (loc [59] [] rfl rfl fun S hs hr => op_nilCheckp rfl rfl (vt ((hs 59 rfl).trans rfl))) ⟨rfl, rfl, rfl, rfl⟩ ?_
          refine SeqA.cons (loc [60] [] rfl rfl fun S hs hr => op_fieldp (lsp1 kSwitch (ydA Tryz.prog kRule y1 L)) rfl rfl (flsp67_1 _) (vt ((hs 60 rfl).trans rfl))) ⟨rfl, rfl, rfl, rfl⟩ ?_
          refine SeqA.cons (loc [61] [] rfl rfl fun S hs hr => op_loadpA (A := ydA Tryz.prog kRule y1 L) rfl rfl rfl (tyk64 _) (vt ((hs 61 rfl).trans rfl))) ⟨rfl, rfl, rfl, rfl⟩ ?_
          refine SeqA.cons (loc [10] [11] rfl rfl fun S hs hr => op_load rfl rfl ty71 (vt ((hs 10 rfl).trans rfl)) (i := 11) ((hr 11 rfl).trans rfl)) ⟨rfl, rfl, rfl, rfl⟩ ?_
          refine SeqA.cons (loc [63] [] rfl rfl fun S hs hr => op_call (xs := [.tmp 63]) (c_walk_way_rule _ _ hx25) (Ent.mk Tryz.func27 rfl rfl) rfl rfl ⟨vt ((hs 63 rfl).trans rfl), trivial⟩) ⟨rfl, rfl, rfl, rfl⟩ ?_
          refine SeqA.cons (locs (us := [(65, rd kbool (Lp.isGo s26))]) (ur := [(0, L s26)]) [62, 64] [0] rfl fun S hs hr => op_yield 0 hs26 rfl rfl (vt ((hs 62 rfl).trans rfl)) (vt ((hs 64 rfl).trans rfl)) ((hr 0 rfl).trans rfl)) ⟨rfl, rfl, rfl, rfl⟩ ?_
          refine SeqA.cons (loc [65] [] rfl rfl fun S hs hr => op_assign (A := rd kbool (Lp.isGo s26)) rfl rfl (vt ((hs 65 rfl).trans rfl))) ⟨rfl, rfl, rfl, rfl⟩ ?_
          exact ⟨(s26, (Lp.isGo s26)), h, ⟨rfl, ⟨rfl, rfl, rfl, rfl, rfl, rfl, rfl, trivial⟩, ⟨rfl, rfl, trivial⟩⟩⟩
def FR_walk_search_table (sg : Type) (y1 : (sg → Rule → Option (Lp sg))) : Nat → ((Lp sg) → Switch → Int → walk_way → Option (Bool × Lp sg))
  | 0 => (fun _ _ _ _ => none)
  | n + 1 => F_walk_search_table_s sg y1 (FR_walk_search_table sg y1 n)
theorem cR_walk_search_table (sg : Type) (y1 : (sg → Rule → Option (Lp sg))) (L : Lp sg → Res) : ∀ n : Nat, (∀ (s2 : (Lp sg)) (s3 : Switch) (at4 : Int) (w5 : walk_way) (r : (Bool × Lp sg)), (FR_walk_search_table sg y1 n) s2 s3 at4 w5 = some r → Con Tryz.prog 15 [rp (ksp kSwitch (ydA Tryz.prog kRule y1 L)) s3, rd (kint .i64) at4, rd kwalk_way w5] (L s2) (fun _ : Unit => rd kbool r.1) (fun _ => L r.2))
  | 0 => (by intros; rename_i h; cases h)
  | n + 1 => c_walk_search_table_s sg y1 L (FR_walk_search_table sg y1 n) (cR_walk_search_table sg y1 L n)
def F_walk_search_table (sg : Type) (y1 : (sg → Rule → Option (Lp sg))) (s2 : (Lp sg)) (s3 : Switch) (at4 : Int) (w5 : walk_way) : Option (Bool × Lp sg) := FR_walk_search_table sg y1 fuel0 s2 s3 at4 w5
theorem c_walk_search_table (sg : Type) (y1 : (sg → Rule → Option (Lp sg))) (L : Lp sg → Res) : ∀ (s2 : (Lp sg)) (s3 : Switch) (at4 : Int) (w5 : walk_way) (r : (Bool × Lp sg)), (F_walk_search_table sg y1) s2 s3 at4 w5 = some r → Con Tryz.prog 15 [rp (ksp kSwitch (ydA Tryz.prog kRule y1 L)) s3, rd (kint .i64) at4, rd kwalk_way w5] (L s2) (fun _ : Unit => rd kbool r.1) (fun _ => L r.2) := cR_walk_search_table sg y1 L fuel0
def F_walk_Rules_1 (sg : Type) (yield1 : (sg → Rule → Option (Lp sg))) (s2 : (Lp sg)) (cp3 : Switch) : Option (Lp sg) :=
  (F_cube_All).bind fun x5 => (F_rewrite_None).bind fun x6 => (F_walk_search_table sg yield1 s2 cp3 0 (⟨x5, x6, [], []⟩ : walk_way)).bind fun b7 => some b7.2
theorem c_walk_Rules_1 (sg : Type) (yield1 : (sg → Rule → Option (Lp sg))) (L : Lp sg → Res) (s2 : (Lp sg)) (cp3 : Switch) (r : (Lp sg)) (h : F_walk_Rules_1 sg yield1 s2 cp3 = some r) : Con Tryz.prog 14 [ydA Tryz.prog kRule yield1 L, rp kSwitch cp3] (L s2) (fun _ : Unit => top) (fun _ => L r) := by
  refine Con.intro Tryz.func14 rfl Tryz.ntmps14 rfl fun w H X => ?_
  unfold F_walk_Rules_1 at h
  refine AW.seq ?_
  refine AW.region ?_
  refine AOps.cons (op_loadp rfl rfl ty26 (vt rfl)) rfl ?_
  refine AOps.cons (op_move (A := ydA Tryz.prog kRule yield1 L) rfl rfl (vt rfl)) rfl ?_
  refine AOps.cons (op_buildsp (x := cp3) rfl rfl (by kernel_rfl) zrsp67 (by kernel_rfl) (by kernel_rfl) (vt rfl) rfl) rfl ?_
  refine AOps.cons (op_boxP rfl rfl (vt rfl)) rfl ?_
  refine AOps.cons (op_assign (A := rp (ksp kSwitch (ydA Tryz.prog kRule yield1 L)) cp3) rfl rfl (vt rfl)) rfl ?_
  refine AOps.nil ?_
  obtain ⟨x5, hx5, h⟩ := bsome h
  obtain ⟨x6, hx6, h⟩ := bsome h
  obtain ⟨b7, hb7, h⟩ := bsome h
  refine AW.region ?_
  refine AOps.cons (op_move (A := rp (ksp kSwitch (ydA Tryz.prog kRule yield1 L)) cp3) rfl rfl (vt rfl)) rfl ?_
  refine AOps.cons (op_call (xs := []) (c_cube_All _ hx5) (Ent.mk Tryz.func9 rfl rfl) rfl rfl trivial) rfl ?_
  refine AOps.cons (op_call (xs := []) (c_rewrite_None _ hx6) (Ent.mk Tryz.func16 rfl rfl) rfl rfl trivial) rfl ?_
  refine AOps.cons (op_build (ps := [(0, .tmp 9), (1, .tmp 10)]) (x := (⟨x5, x6, [], []⟩ : walk_way)) rfl rfl rfl (by kernel_rfl) zr71 ⟨_, _, lwalk_way_0, _, by kernel_rfl, (vt rfl), _, _, lwalk_way_1, _, by kernel_rfl, (vt rfl), rfl⟩) rfl ?_
  refine AOps.consT rfl (op_callR 0 (xs := [.tmp 8, .const (Value.int IntKind.i64 0), .tmp 11]) (c_walk_search_table sg yield1 L _ _ _ _ _ hb7) (Ent.mk Tryz.func15 rfl rfl) rfl rfl ⟨vt rfl, vk rfl, vt rfl, trivial⟩ rfl) ?_
  rintro _ ⟨_u, rfl⟩
  refine AOps.nil ?_
  obtain rfl := Option.some.inj h
  exact ret0Y (i := 0) Tryz.results14 rfl rfl
def F_walk_Rules (s1 : Switch) : Option (Itr Rule) :=
  some (Itr.mk fun σ y s => F_walk_Rules_1 σ y s s1)
theorem c_walk_Rules (s1 : Switch) (r : (Itr Rule)) (h : F_walk_Rules s1 = some r) : PCon Tryz.prog 10 [rd kSwitch s1] (seqA Tryz.prog kRule r) := by
  refine PCon.of (Con.intro0 Tryz.func10 rfl Tryz.ntmps10 rfl fun w H => ?_)
  unfold F_walk_Rules at h
  refine AW.seq ?_
  refine AW.region ?_
  refine AOps.consT rfl (op_box 2 rfl rfl (vt rfl)) ?_
  rintro _ ⟨g2, rfl⟩
  refine AOps.cons (op_assign (A := raw .nilFunc) rfl rfl vc) rfl ?_
  refine AOps.nil ?_
  refine AW.seq ?_
  refine AW.freezeB 1 2 rfl rfl rfl ?_
  refine AW.region ?_
  refine AOps.cons (op_seq (Itr.mk fun σ y s => F_walk_Rules_1 σ y s s1) (cs := [.tmp 1]) (CAs := [rp kSwitch s1]) rfl rfl (Ent.mk Tryz.func14 rfl rfl) ⟨vt rfl, trivial⟩ (fun σ y L s r h => c_walk_Rules_1 σ y L s s1 r h)) rfl ?_
  refine AOps.cons (op_assign (A := seqA Tryz.prog kRule (Itr.mk fun σ y s => F_walk_Rules_1 σ y s s1)) rfl rfl (vt rfl)) rfl ?_
  refine AOps.nil ?_
  refine AW.ret ?_
  obtain rfl := Option.some.inj h
  exact ret1 Tryz.results10 rfl (out_tmp rfl)
def F_slices_AppendSeq_Rule (q : Itr Rule) : Option (List Rule) := collect q
theorem c_slices_AppendSeq_Rule_o (q : Itr Rule) (r : List Rule) (h : F_slices_AppendSeq_Rule q = some r) : Con Tryz.prog 23 [raw (.slice none 0 0), seqA Tryz.prog kRule q] emp (fun v => raw v) (fun v => Row v 41 kRule r) := by
  refine Con.intro0 Tryz.func23 rfl Tryz.ntmps23 rfl fun w H => ?_
  have h := collect_of h
  refine AW.newnil 1001 41 kRule ?_
  refine AW.seq ?_
  refine AW.region ?_
  refine AOps.consT rfl (op_box (k := kraw) 3 rfl rfl (vkr (vt rfl) rfl)) ?_
  rintro _ ⟨g, rfl⟩
  refine AOps.cons (op_assign (A := raw (.slice none 0 0)) rfl rfl vc) rfl ?_
  refine AOps.pack 3 1001 (by decide) rfl rfl ?_
  refine AOps.nil ?_
  refine AW.seq ?_
  refine AW.seq ?_
  refine AW.region ?_
  refine AOps.cons (op_move (A := seqA Tryz.prog kRule q) rfl rfl (vt rfl)) rfl ?_
  refine AOps.nil ?_
  refine AW.block ?_
  refine AW.fit (d := []) (L := [(2, ptrL g (Lens.id kraw)), (6, seqA Tryz.prog kRule q)]) (M := [(3, BoxRow g 30 41 kRule [])]) ⟨rfl, ⟨rfl, rfl, trivial⟩, ⟨rfl, trivial⟩⟩ ?_
  refine AW.rangeFunc (fun x => [rd kRule x]) collectF (fun s => ress [(3, BoxRow g 30 41 kRule s)]) (fun _ _ => ress []) [(2, ptrL g (Lens.id kraw))]
    (fun s x S1 => ∃ g5, Fit S1 [] [(2, ptrL g (Lens.id kraw)), (5, ptrL g5 (Lens.id kRule))] [(3, BoxRow g 30 41 kRule s), (6, Blk g5 41 kRule x)]) 1003 (s0 := []) (sE := .go r)
    rfl (vt rfl) ⟨rfl, inferInstance, trivial⟩ rfl (fun _ => rfl) (by intro p hp; have hp : p ∈ [7] := hp; rw [List.mem_singleton.1 hp]; show 7 < 13; decide) ?ha ?hb (fun Lf => ⟨top, _, _, Lf, _, _, h, rfl, rfl, rfl, rfl⟩) ?he
  case ha =>
    intro s x r' hF l w H X
    refine AW.region ?_
    refine AOps.consT rfl (op_alloc 6 rfl rfl zr41) ?_
    rintro _ ⟨g5, rfl⟩
    refine AOps.cons (op_store rfl rfl ty41 (vt rfl) (i := 6) rfl (vt rfl)) rfl ?_
    refine AOps.nil ?_
    exact ⟨rfl, g5, rfl, ⟨rfl, rfl, trivial⟩, ⟨rfl, rfl, trivial⟩⟩
  case hb =>
    rintro s x r' hF S1 ⟨g5, hfit⟩ l w H X
    refine AW.fit hfit ?_
    refine AW.bodyOf (M := fun s => [(3, BoxRow g 30 41 kRule s)]) (Mx := fun _ _ => []) ?_
    obtain ⟨m, hm, hF⟩ := bsome hF
    cases hF
    refine AW.block ?_
    refine AW.unbox 3 1001 (by decide) rfl rfl fun v => ?_
    refine AW.region ?_
    refine AOps.cons (op_loadr (i := 3) rfl rfl tyr30 (vt rfl) rfl) rfl ?_
    refine AOps.cons (op_load rfl rfl ty41 (vt rfl) (i := 6) rfl) rfl ?_
    refine AOps.cons (op_buildSliceR (ps := [(0, .tmp 9)]) (l := [x]) rfl rfl sl30 zr41 rfl rfl ⟨_, _, Lens.idx 1 kRule 0 (by decide), _, rfl, vt rfl, rfl⟩ rfl) rfl ?_
    refine AOps.consT rfl (op_append' 1001 hm rfl rfl el30 (vt rfl) rfl (vt rfl)) ?_
    rintro _ ⟨v2, rfl⟩
    refine AOps.cons (op_store rfl rfl tyr30 (vt rfl) (i := 3) rfl (vrow (i := 1001) rfl rfl)) rfl ?_
    refine AOps.pack 3 1001 (by decide) rfl rfl ?_
    refine AOps.nil ?_
    exact ⟨_, rfl, rfl, trivial⟩
  case he =>
    intro D
    refine AW.unbox 3 1001 (by decide) rfl rfl fun v => ?_
    refine AW.seq ?_
    refine AW.region ?_
    refine AOps.cons (op_loadr (i := 3) rfl rfl tyr30 (vt rfl) rfl) rfl ?_
    refine AOps.cons (op_assign (A := raw v) rfl rfl (vt rfl)) rfl ?_
    refine AOps.nil ?_
    refine AW.ret ?_
    exact ⟨rfl, 1003, rfl, ret1R (i := 1001) Tryz.results23 rfl rfl rfl⟩
theorem c_slices_AppendSeq_Rule (q : Itr Rule) (r : List Rule) (h : F_slices_AppendSeq_Rule q = some r) : PCon Tryz.prog 23 [raw (.slice none 0 0), seqA Tryz.prog kRule q] (rd (ksl kRule) r) := PCon.of_row (c_slices_AppendSeq_Rule_o q r h)
def F_slices_Collect_Rule (seq1 : (Itr Rule)) : Option (List Rule) :=
  (F_slices_AppendSeq_Rule seq1).bind fun x2 => some x2
theorem c_slices_Collect_Rule (seq1 : (Itr Rule)) (r : (List Rule)) (h : F_slices_Collect_Rule seq1 = some r) : PCon Tryz.prog 13 [seqA Tryz.prog kRule seq1] (rd (ksl kRule) r) := by
  refine PCon.of (Con.intro0 Tryz.func13 rfl Tryz.ntmps13 rfl fun w H => ?_)
  unfold F_slices_Collect_Rule at h
  refine AW.seq ?_
  refine AW.region ?_
  refine AOps.cons (op_assign (A := rd (ksl kRule) []) rfl rfl vnil) rfl ?_
  refine AOps.nil ?_
  refine AW.seq ?_
  obtain ⟨x2, hx2, h⟩ := bsome h
  refine AW.region ?_
  refine AOps.cons (op_move (A := seqA Tryz.prog kRule seq1) rfl rfl (vt rfl)) rfl ?_
  refine AOps.cons (op_call (xs := [.const (Value.slice none 0 0), .tmp 3]) (c_slices_AppendSeq_Rule _ _ hx2) (Ent.mk Tryz.func23 rfl rfl) rfl rfl ⟨vc, vt rfl, trivial⟩) rfl ?_
  refine AOps.cons (op_assign (A := rd (ksl kRule) x2) rfl rfl (vt rfl)) rfl ?_
  refine AOps.nil ?_
  refine AW.ret ?_
  obtain rfl := Option.some.inj h
  exact ret1 Tryz.results13 rfl (out_tmp rfl)
def F_walk_List (s1 : Switch) : Option (List Rule) :=
  (F_walk_Rules s1).bind fun x3 => (F_slices_Collect_Rule x3).bind fun x4 => some x4
theorem c_walk_List (s1 : Switch) (r : (List Rule)) (h : F_walk_List s1 = some r) : PCon Tryz.prog 8 [rd kSwitch s1] (rd (ksl kRule) r) := by
  refine PCon.of (Con.intro0 Tryz.func8 rfl Tryz.ntmps8 rfl fun w H => ?_)
  unfold F_walk_List at h
  refine AW.seq ?_
  refine AW.region ?_
  refine AOps.consT rfl (op_box 2 rfl rfl (vt rfl)) ?_
  rintro _ ⟨g2, rfl⟩
  refine AOps.cons (op_assign (A := rd (ksl kRule) []) rfl rfl vnil) rfl ?_
  refine AOps.nil ?_
  refine AW.seq ?_
  obtain ⟨x3, hx3, h⟩ := bsome h
  obtain ⟨x4, hx4, h⟩ := bsome h
  refine AW.region ?_
  refine AOps.cons (op_load rfl rfl ty26 (vt rfl) (i := 2) rfl) rfl ?_
  refine AOps.cons (op_call (xs := [.tmp 3]) (c_walk_Rules _ _ hx3) (Ent.mk Tryz.func10 rfl rfl) rfl rfl ⟨vt rfl, trivial⟩) rfl ?_
  refine AOps.cons (op_call (xs := [.tmp 4]) (c_slices_Collect_Rule _ _ hx4) (Ent.mk Tryz.func13 rfl rfl) rfl rfl ⟨vt rfl, trivial⟩) rfl ?_
  refine AOps.cons (op_assign (A := rd (ksl kRule) x4) rfl rfl (vt rfl)) rfl ?_
  refine AOps.nil ?_
  refine AW.ret ?_
  obtain rfl := Option.some.inj h
  exact ret1 Tryz.results8 rfl (out_tmp rfl)
end Go.Proofs.YtokmmcflinnfiabGreat.W
set_option linter.unusedVariables false
set_option maxRecDepth 4000
set_option linter.unusedSimpArgs false
namespace Go.Proofs.YtokmmcflinnfiabGreat.W
open Go Go.Wb
def F_walk_Most_l1 : (List (List Flow)) → Nat → Int → Option Int
  | [], i5, n4 => some (imin n4 1099511627776)
  | x7 :: l6, i5, n4 => (oquo .i64 1099511627776 n4).bind fun q8 => (bif (decide ((x7.length : Int) ≥ q8)) then some 1099511627776 else (F_walk_Most_l1 l6) (i5 + 1) (IntKind.i64.wrap (n4 * (IntKind.i64.wrap ((x7.length : Int) + 1)))))
def F_walk_Most (s1 : Switch) : Option Int :=
  F_walk_Most_l1 (Vector.toList s1.Tables) 0 1
theorem c_walk_Most (s1 : Switch) (r : Int) (h : F_walk_Most s1 = some r) : PCon Tryz.prog 5 [rd kSwitch s1] (rd (kint .i64) r) := by
  refine PCon.of (Con.intro0 Tryz.func5 rfl Tryz.ntmps5 rfl fun w H => ?_)
  unfold F_walk_Most at h
  refine AW.seq ?_
  refine AW.region ?_
  refine AOps.consT rfl (op_box 2 rfl rfl (vt rfl)) ?_
  rintro _ ⟨g2, rfl⟩
  refine AOps.cons (op_assign (A := rd (kint .i64) 0) rfl rfl (vk rfl)) rfl ?_
  refine AOps.nil ?_
  refine AW.seq ?_
  refine AW.region ?_
  refine AOps.cons (op_assign (A := rd (kint .i64) 1) rfl rfl (vk rfl)) rfl ?_
  refine AOps.nil ?_
  refine AW.seq ?_
  refine AW.seq ?_
  refine AW.region ?_
  refine AOps.cons (op_field lSwitch_0 rfl rfl fl26_0 (vt rfl)) rfl ?_
  refine AOps.cons (op_load rfl rfl ty23 (vt rfl) (i := 2) rfl) rfl ?_
  refine AOps.cons (op_move (A := rd (kint .i64) 0) rfl rfl (vk rfl)) rfl ?_
  refine AOps.nil ?_
  refine AW.block ?_
  refine AW.loopG (d := []) (ν := (List (List Flow)) × Nat × Int) (fun n => Sfx (Vector.toList s1.Tables) n.2.1 n.1 ∧ F_walk_Most_l1 n.1 n.2.1 n.2.2 = some r) (fun n => n.1.length) (fun n => [(3, rd (kint .i64) n.2.2), (7, rd (karr 4 (ksl kFlow)) s1.Tables), (8, rd (kint .i64) (n.2.1 : Int))]) (fun n => []) ((Vector.toList s1.Tables), 0, 1) ⟨Sfx.start _, h⟩ ⟨rfl, ⟨rfl, rfl, rfl, trivial⟩, trivial⟩ ?_
  rintro ⟨l6, i5, n4⟩ ⟨hsf1, h⟩
  change Sfx (Vector.toList s1.Tables) i5 l6 at hsf1
  change F_walk_Most_l1 l6 i5 n4 = some r at h
  change AW _ _ _ ⟨slots [(3, rd (kint .i64) n4), (7, rd (karr 4 (ksl kFlow)) s1.Tables), (8, rd (kint .i64) (i5 : Int))], ress [], _⟩
  cases l6 with
  | nil =>
    unfold F_walk_Most_l1 at h
    refine AW.seq ?_
    refine AW.region ?_
    refine AOps.cons (op_lss rfl rfl (vt rfl) (vk rfl)) rfl ?_
    refine AOps.nil ?_
    refine AW.seq ?_
    refine AW.cond (vt rfl) (fun hc => absurd (of_decide_eq_true hc) (hsf1.niln (by simp))) (fun hc => ?_)
    refine AW.exit ?_
    refine AW.seq ?_
    refine AW.region ?_
    refine AOps.cons (op_move (A := rd (kint .i64) n4) rfl rfl (vt rfl)) rfl ?_
    refine AOps.cons (op_min rfl rfl (vt rfl) (vk rfl)) rfl ?_
    refine AOps.cons (op_assign (A := rd (kint .i64) (imin n4 1099511627776)) rfl rfl (vt rfl)) rfl ?_
    refine AOps.nil ?_
    refine AW.ret ?_
    obtain rfl := Option.some.inj h
    exact ret1 Tryz.results5 rfl (out_tmp rfl)
  | cons x7 l6 =>
    unfold F_walk_Most_l1 at h
    generalize hgo1 : F_walk_Most_l1 l6 = go1 at h
    refine AW.seq ?_
    refine AW.region ?_
    refine AOps.cons (op_lss rfl rfl (vt rfl) (vk rfl)) rfl ?_
    refine AOps.nil ?_
    refine AW.seq ?_
    refine AW.cond (vt rfl) (fun hc => ?_) (fun hc => absurd (hsf1.consn (by simp)) (of_decide_eq_false hc))
    have hlti5 := of_decide_eq_true hc
    refine AW.skip ?_
    refine AW.seq ?_
    refine AW.block ?_
    refine AW.seq ?_
    refine AW.region ?_
    refine AOps.cons (op_indexv rfl rfl ar23 ty22 (vt rfl) (vt rfl) hsf1.lget) rfl ?_
    refine AOps.cons (op_assign (A := rd (ksl kFlow) x7) rfl rfl (vt rfl)) rfl ?_
    refine AOps.nil ?_
    refine AW.seq ?_
    refine AW.seq ?_
    obtain ⟨q8, hq8, h⟩ := bsome h
    refine AW.region ?_
    refine AOps.cons (op_move (A := rd (ksl kFlow) x7) rfl rfl (vt rfl)) rfl ?_
    refine AOps.cons (op_len' rfl rfl sl22 (vt rfl)) rfl ?_
    refine AOps.cons (op_move (A := rd (kint .i64) n4) rfl rfl (vt rfl)) rfl ?_
    refine AOps.cons (op_quo rfl rfl (vk rfl) (vt rfl) hq8) rfl ?_
    refine AOps.cons (op_geq rfl rfl (vt rfl) (vt rfl)) rfl ?_
    refine AOps.nil ?_
    refine AW.cond (vt rfl) (fun hc => ?_) (fun hc => ?_)
    · have h := cond_t hc h
      refine AW.seq ?_
      refine AW.region ?_
      refine AOps.cons (op_assign (A := rd (kint .i64) 1099511627776) rfl rfl (vk rfl)) rfl ?_
      refine AOps.nil ?_
      refine AW.ret ?_
      obtain rfl := Option.some.inj h
      exact ret1 Tryz.results5 rfl (out_tmp rfl)
    · have h := cond_f hc h
      refine AW.skip ?_
      refine AW.region ?_
      refine AOps.cons (op_move (A := rd (kint .i64) n4) rfl rfl (vt rfl)) rfl ?_
      refine AOps.cons (op_move (A := rd (ksl kFlow) x7) rfl rfl (vt rfl)) rfl ?_
      refine AOps.cons (op_len' rfl rfl sl22 (vt rfl)) rfl ?_
      refine AOps.cons (op_add rfl rfl (vt rfl) (vk rfl)) rfl ?_
      refine AOps.cons (op_mul rfl rfl (vt rfl) (vt rfl)) rfl ?_
      refine AOps.cons (op_assign (A := rd (kint .i64) (IntKind.i64.wrap (n4 * (IntKind.i64.wrap ((x7.length : Int) + 1))))) rfl rfl (vt rfl)) rfl ?_
      refine AOps.nil ?_
      refine AW.region ?_
      refine AOps.cons (op_incrc rfl rfl (vt rfl) (vk rfl) rfl hlti5) rfl ?_
      refine AOps.cons (op_move (A := rd (kint .i64) ((i5 + 1 : Nat) : Int)) rfl rfl (vt rfl)) rfl ?_
      refine AOps.nil ?_
      subst hgo1
      exact ⟨(l6, i5 + 1, (IntKind.i64.wrap (n4 * (IntKind.i64.wrap ((x7.length : Int) + 1))))), Nat.lt_succ_self _, ⟨hsf1.next, h⟩, ⟨rfl, ⟨rfl, rfl, rfl, trivial⟩, trivial⟩⟩
def F_l33_awake : Option Bool :=
  (F_walk_List { (⟨(Vector.replicate 4 []), []⟩ : Switch) with Tables := (Vector.set ((⟨(Vector.replicate 4 []), []⟩ : Switch).Tables) (⟨0, by decide⟩ : _root_.Fin 4).1 [(⟨0, 0, 0, 0, 0, [(⟨0, false, (⟨0, (1 : BitVec 64)⟩ : Wide), zWide⟩ : Oxm)], [(⟨3, 0, zWide, zWide, [(⟨0, 9, 0, 0, 0, zOxm⟩ : Action)]⟩ : Inst)]⟩ : Flow)] (⟨0, by decide⟩ : _root_.Fin 4).2) }).bind fun x2 => (opt (decide ((x2.length : Int) = 2)) (lget x2 0)).bind fun e3 => (opt ((decide ((x2.length : Int) = 2)) && (decide ((e3.Atoms.length : Int) = 1))) (lget x2 0)).bind fun e4 => (opt ((decide ((x2.length : Int) = 2)) && (decide ((e3.Atoms.length : Int) = 1))) (lget e4.Atoms 0)).bind fun e5 => (opt (((decide ((x2.length : Int) = 2)) && (decide ((e3.Atoms.length : Int) = 1))) && (decide (e5.Port = 9))) (lget x2 1)).bind fun e6 => (opt (((decide ((x2.length : Int) = 2)) && (decide ((e3.Atoms.length : Int) = 1))) && (decide (e5.Port = 9))) (F_cube_All)).bind fun x7 => (opt ((((decide ((x2.length : Int) = 2)) && (decide ((e3.Atoms.length : Int) = 1))) && (decide (e5.Port = 9))) && (decide (e6.Cube = x7))) (F_walk_Most { (⟨(Vector.replicate 4 []), []⟩ : Switch) with Tables := (Vector.set ((⟨(Vector.replicate 4 []), []⟩ : Switch).Tables) (⟨0, by decide⟩ : _root_.Fin 4).1 [(⟨0, 0, 0, 0, 0, [(⟨0, false, (⟨0, (1 : BitVec 64)⟩ : Wide), zWide⟩ : Oxm)], [(⟨3, 0, zWide, zWide, [(⟨0, 9, 0, 0, 0, zOxm⟩ : Action)]⟩ : Inst)]⟩ : Flow)] (⟨0, by decide⟩ : _root_.Fin 4).2) })).bind fun x8 => (opt (((((decide ((x2.length : Int) = 2)) && (decide ((e3.Atoms.length : Int) = 1))) && (decide (e5.Port = 9))) && (decide (e6.Cube = x7))) && (decide (x8 = 2))) (F_walk_Rules { (⟨(Vector.replicate 4 []), []⟩ : Switch) with Tables := (Vector.set ((⟨(Vector.replicate 4 []), []⟩ : Switch).Tables) (⟨0, by decide⟩ : _root_.Fin 4).1 [(⟨0, 0, 0, 0, 0, [(⟨0, false, (⟨0, (1 : BitVec 64)⟩ : Wide), zWide⟩ : Oxm)], [(⟨3, 0, zWide, zWide, [(⟨0, 9, 0, 0, 0, zOxm⟩ : Action)]⟩ : Inst)]⟩ : Flow)] (⟨0, by decide⟩ : _root_.Fin 4).2) })).bind fun x9 => some ((((((decide ((x2.length : Int) = 2)) && (decide ((e3.Atoms.length : Int) = 1))) && (decide (e5.Port = 9))) && (decide (e6.Cube = x7))) && (decide (x8 = 2))) && true)
theorem c_l33_awake (r : Bool) (h : F_l33_awake = some r) : PCon Tryz.prog 4 [] (rd kbool r) := by
  refine PCon.of (Con.intro0 Tryz.func4 rfl Tryz.ntmps4 rfl fun w H => ?_)
  unfold F_l33_awake at h
  refine AW.seq ?_
  refine AW.region ?_
  refine AOps.cons (op_assign (A := rd kbool false) rfl rfl vb) rfl ?_
  refine AOps.nil ?_
  refine AW.seq ?_
  refine AW.region ?_
  refine AOps.cons (op_build (ps := []) (x := (⟨(Vector.replicate 4 []), []⟩ : Switch)) rfl rfl rfl (by kernel_rfl) zr26 rfl) rfl ?_
  refine AOps.consT rfl (op_alloc 2 rfl rfl zr26) ?_
  rintro _ ⟨g1, rfl⟩
  refine AOps.cons (op_store rfl rfl ty26 (vt rfl) (i := 2) rfl (vt rfl)) rfl ?_
  refine AOps.nil ?_
  refine AW.seq ?_
  refine AW.region ?_
  refine AOps.cons (op_build (ps := [(1, .const (Value.int IntKind.u64 1))]) (x := (⟨0, (1 : BitVec 64)⟩ : Wide)) rfl rfl rfl (by kernel_rfl) zr34 ⟨_, _, lWide_1, _, by kernel_rfl, (vku (1 : BitVec 64) rfl), rfl⟩) rfl ?_
  refine AOps.cons (op_build (ps := [(0, .const (Value.int IntKind.i64 0)), (2, .tmp 4)]) (x := (⟨0, false, (⟨0, (1 : BitVec 64)⟩ : Wide), zWide⟩ : Oxm)) rfl rfl rfl (by kernel_rfl) zr45 ⟨_, _, lOxm_0, _, by kernel_rfl, (vk rfl), _, _, lOxm_2, _, by kernel_rfl, (vt rfl), rfl⟩) rfl ?_
  refine AOps.cons (op_buildSliceR (ps := [(0, .tmp 5)]) (l := [(⟨0, false, (⟨0, (1 : BitVec 64)⟩ : Wide), zWide⟩ : Oxm)]) rfl rfl sl46 zr45 rfl rfl ⟨_, _, Lens.idx 1 kOxm 0 (by decide), _, rfl, (vt rfl), rfl⟩ rfl) rfl ?_
  refine AOps.cons (op_build (ps := [(0, .const (Value.int IntKind.i64 0)), (1, .const (Value.int IntKind.i64 9))]) (x := (⟨0, 9, 0, 0, 0, zOxm⟩ : Action)) rfl rfl rfl (by kernel_rfl) zr48 ⟨_, _, lAction_0, _, by kernel_rfl, (vk rfl), _, _, lAction_1, _, by kernel_rfl, (vk rfl), rfl⟩) rfl ?_
  refine AOps.cons (op_buildSliceR (ps := [(0, .tmp 7)]) (l := [(⟨0, 9, 0, 0, 0, zOxm⟩ : Action)]) rfl rfl sl49 zr48 rfl rfl ⟨_, _, Lens.idx 1 kAction 0 (by decide), _, rfl, (vt rfl), rfl⟩ rfl) rfl ?_
  refine AOps.cons (op_build (ps := [(0, .const (Value.int IntKind.i64 3)), (4, .tmp 8)]) (x := (⟨3, 0, zWide, zWide, [(⟨0, 9, 0, 0, 0, zOxm⟩ : Action)]⟩ : Inst)) rfl rfl rfl (by kernel_rfl) zr51 ⟨_, _, lInst_0, _, by kernel_rfl, (vk rfl), _, _, lInst_4, _, by kernel_rfl, (vt rfl), rfl⟩) rfl ?_
  refine AOps.cons (op_buildSliceR (ps := [(0, .tmp 9)]) (l := [(⟨3, 0, zWide, zWide, [(⟨0, 9, 0, 0, 0, zOxm⟩ : Action)]⟩ : Inst)]) rfl rfl sl52 zr51 rfl rfl ⟨_, _, Lens.idx 1 kInst 0 (by decide), _, rfl, (vt rfl), rfl⟩ rfl) rfl ?_
  refine AOps.cons (op_build (ps := [(5, .tmp 6), (6, .tmp 10)]) (x := (⟨0, 0, 0, 0, 0, [(⟨0, false, (⟨0, (1 : BitVec 64)⟩ : Wide), zWide⟩ : Oxm)], [(⟨3, 0, zWide, zWide, [(⟨0, 9, 0, 0, 0, zOxm⟩ : Action)]⟩ : Inst)]⟩ : Flow)) rfl rfl rfl (by kernel_rfl) zr54 ⟨_, _, lFlow_5, _, by kernel_rfl, (vt rfl), _, _, lFlow_6, _, by kernel_rfl, (vt rfl), rfl⟩) rfl ?_
  refine AOps.cons (op_buildSliceR (ps := [(0, .tmp 11)]) (l := [(⟨0, 0, 0, 0, 0, [(⟨0, false, (⟨0, (1 : BitVec 64)⟩ : Wide), zWide⟩ : Oxm)], [(⟨3, 0, zWide, zWide, [(⟨0, 9, 0, 0, 0, zOxm⟩ : Action)]⟩ : Inst)]⟩ : Flow)]) rfl rfl sl22 zr54 rfl rfl ⟨_, _, Lens.idx 1 kFlow 0 (by decide), _, rfl, (vt rfl), rfl⟩ rfl) rfl ?_
  refine AOps.cons (op_field lSwitch_0 rfl rfl fl26_0 (vt rfl)) rfl ?_
  refine AOps.cons (op_index' rfl rfl ar23 (vt rfl) (vk rfl) rfl) rfl ?_
  refine AOps.cons (op_store rfl rfl ty22 (vt rfl) (i := 2) rfl (vt rfl)) rfl ?_
  refine AOps.nil ?_
  refine AW.seq ?_
  obtain ⟨x2, hx2, h⟩ := bsome h
  refine AW.region ?_
  refine AOps.cons (op_load rfl rfl ty26 (vt rfl) (i := 2) rfl) rfl ?_
  refine AOps.cons (op_call (xs := [.tmp 15]) (c_walk_List _ _ hx2) (Ent.mk Tryz.func8 rfl rfl) rfl rfl ⟨vt rfl, trivial⟩) rfl ?_
  refine AOps.cons (op_assign (A := rd (ksl kRule) x2) rfl rfl (vt rfl)) rfl ?_
  refine AOps.nil ?_
  refine AW.seq ?_
  obtain ⟨e3, he3, h⟩ := bsome h
  obtain ⟨e4, he4, h⟩ := bsome h
  obtain ⟨e5, he5, h⟩ := bsome h
  obtain ⟨e6, he6, h⟩ := bsome h
  obtain ⟨x7, hx7, h⟩ := bsome h
  obtain ⟨x8, hx8, h⟩ := bsome h
  obtain ⟨x9, hx9, h⟩ := bsome h
  refine AW.regionAny [⟨[2], [17], [], []⟩, ⟨[17], [18], [], []⟩, ⟨[18], [19], [], []⟩, ⟨[19], [20], [], []⟩, ⟨[2, 20], [21], [], []⟩, ⟨[21, 20], [22], [], []⟩, ⟨[22, 20], [23], [], []⟩, ⟨[23, 20], [24], [], []⟩, ⟨[24, 20], [25], [], []⟩, ⟨[25, 20], [26], [], []⟩, ⟨[26, 20], [27], [], []⟩, ⟨[27], [28], [], []⟩, ⟨[2, 28], [29], [], []⟩, ⟨[29, 28], [30], [], []⟩, ⟨[30, 28], [31], [], []⟩, ⟨[31, 28], [32], [], []⟩, ⟨[32, 28], [33], [], []⟩, ⟨[33, 28], [34], [], []⟩, ⟨[34, 28], [35], [], []⟩, ⟨[35, 28], [36], [], []⟩, ⟨[36, 28], [37], [], []⟩, ⟨[37], [38], [], []⟩, ⟨[2, 38], [39], [], []⟩, ⟨[39, 38], [40], [], []⟩, ⟨[40, 38], [41], [], []⟩, ⟨[41, 38], [42], [], []⟩, ⟨[38], [43], [], []⟩, ⟨[42, 43, 38], [44], [], []⟩, ⟨[44, 38], [45], [], []⟩, ⟨[45], [46], [], []⟩, ⟨[1, 46], [47], [2], []⟩, ⟨[47, 46], [48], [], []⟩, ⟨[48, 46], [49], [], []⟩, ⟨[49, 46], [50], [], []⟩, ⟨[50], [51], [], []⟩, ⟨[1, 51], [52], [2], []⟩, ⟨[52, 51], [53], [], []⟩, ⟨[53, 51], [54], [], []⟩, ⟨[54, 51], [55], [], []⟩, ⟨[55], [0], [], []⟩] mixed (by kernel_rfl) ?_
  refine SeqA.cons (loc [2] [] rfl rfl fun S hs hr => op_move (A := rd (ksl kRule) x2) rfl rfl (vt ((hs 2 rfl).trans rfl))) ⟨rfl, rfl, rfl, rfl⟩ ?_
  refine SeqA.cons (loc [17] [] rfl rfl fun S hs hr => op_len' rfl rfl sl30 (vt ((hs 17 rfl).trans rfl))) ⟨rfl, rfl, rfl, rfl⟩ ?_
  refine SeqA.cons (loc [18] [] rfl rfl fun S hs hr => op_eql rfl rfl (vt ((hs 18 rfl).trans rfl)) (vk rfl)) ⟨rfl, rfl, rfl, rfl⟩ ?_
  refine SeqA.cons (loc [19] [] rfl rfl fun S hs hr => op_move (A := rd kbool (decide ((x2.length : Int) = 2))) rfl rfl (vt ((hs 19 rfl).trans rfl))) ⟨rfl, rfl, rfl, rfl⟩ ?_
  refine SeqA.cons (locg [2, 20] [] rfl rfl rfl rfl rfl rfl rfl fun hq S hs hr => op_move (A := rd (ksl kRule) x2) rfl rfl (vt ((hs 2 rfl).trans rfl))) ⟨rfl, rfl, rfl, rfl⟩ ?_
  refine SeqA.cons (locg [21, 20] [] rfl rfl rfl rfl rfl rfl rfl fun hq S hs hr => op_indexs' rfl rfl sl30 (vgt ((hs 21 rfl).trans rfl) hq) (vk rfl) (opt_t he3 hq)) ⟨rfl, rfl, rfl, rfl⟩ ?_
  refine SeqA.cons (locg [22, 20] [] rfl rfl rfl rfl rfl rfl rfl fun hq S hs hr => op_fieldp lRule_1 rfl rfl fl41_1 (vgt ((hs 22 rfl).trans rfl) hq)) ⟨rfl, rfl, rfl, rfl⟩ ?_
  refine SeqA.cons (locg [23, 20] [] rfl rfl rfl rfl rfl rfl rfl fun hq S hs hr => op_loadp rfl rfl ty39 (vgt ((hs 23 rfl).trans rfl) hq)) ⟨rfl, rfl, rfl, rfl⟩ ?_
  refine SeqA.cons (locg [24, 20] [] rfl rfl rfl rfl rfl rfl rfl fun hq S hs hr => op_len' rfl rfl sl39 (vgt ((hs 24 rfl).trans rfl) hq)) ⟨rfl, rfl, rfl, rfl⟩ ?_
  refine SeqA.cons (locg [25, 20] [] rfl rfl rfl rfl rfl rfl rfl fun hq S hs hr => op_eql rfl rfl (vgt ((hs 25 rfl).trans rfl) hq) (vk rfl)) ⟨rfl, rfl, rfl, rfl⟩ ?_
  refine SeqA.cons (loc [26, 20] [] rfl rfl fun S hs hr => op_all rfl rfl (vt ((hs 20 rfl).trans rfl)) (vt ((hs 26 rfl).trans rfl))) ⟨rfl, rfl, rfl, rfl⟩ ?_
  refine SeqA.cons (loc [27] [] rfl rfl fun S hs hr => op_move (A := rd kbool ((decide ((x2.length : Int) = 2)) && (decide ((e3.Atoms.length : Int) = 1)))) rfl rfl (vt ((hs 27 rfl).trans rfl))) ⟨rfl, rfl, rfl, rfl⟩ ?_
  refine SeqA.cons (locg [2, 28] [] rfl rfl rfl rfl rfl rfl rfl fun hq S hs hr => op_move (A := rd (ksl kRule) x2) rfl rfl (vt ((hs 2 rfl).trans rfl))) ⟨rfl, rfl, rfl, rfl⟩ ?_
  refine SeqA.cons (locg [29, 28] [] rfl rfl rfl rfl rfl rfl rfl fun hq S hs hr => op_indexs' rfl rfl sl30 (vgt ((hs 29 rfl).trans rfl) hq) (vk rfl) (opt_t he4 hq)) ⟨rfl, rfl, rfl, rfl⟩ ?_
  refine SeqA.cons (locg [30, 28] [] rfl rfl rfl rfl rfl rfl rfl fun hq S hs hr => op_fieldp lRule_1 rfl rfl fl41_1 (vgt ((hs 30 rfl).trans rfl) hq)) ⟨rfl, rfl, rfl, rfl⟩ ?_
  refine SeqA.cons (locg [31, 28] [] rfl rfl rfl rfl rfl rfl rfl fun hq S hs hr => op_loadp rfl rfl ty39 (vgt ((hs 31 rfl).trans rfl) hq)) ⟨rfl, rfl, rfl, rfl⟩ ?_
  refine SeqA.cons (locg [32, 28] [] rfl rfl rfl rfl rfl rfl rfl fun hq S hs hr => op_indexs' rfl rfl sl39 (vgt ((hs 32 rfl).trans rfl) hq) (vk rfl) (opt_t he5 hq)) ⟨rfl, rfl, rfl, rfl⟩ ?_
  refine SeqA.cons (locg [33, 28] [] rfl rfl rfl rfl rfl rfl rfl fun hq S hs hr => op_fieldp lAtom_2 rfl rfl fl57_2 (vgt ((hs 33 rfl).trans rfl) hq)) ⟨rfl, rfl, rfl, rfl⟩ ?_
  refine SeqA.cons (locg [34, 28] [] rfl rfl rfl rfl rfl rfl rfl fun hq S hs hr => op_loadp rfl rfl ty3 (vgt ((hs 34 rfl).trans rfl) hq)) ⟨rfl, rfl, rfl, rfl⟩ ?_
  refine SeqA.cons (locg [35, 28] [] rfl rfl rfl rfl rfl rfl rfl fun hq S hs hr => op_eql rfl rfl (vgt ((hs 35 rfl).trans rfl) hq) (vk rfl)) ⟨rfl, rfl, rfl, rfl⟩ ?_
  refine SeqA.cons (loc [36, 28] [] rfl rfl fun S hs hr => op_all rfl rfl (vt ((hs 28 rfl).trans rfl)) (vt ((hs 36 rfl).trans rfl))) ⟨rfl, rfl, rfl, rfl⟩ ?_
  refine SeqA.cons (loc [37] [] rfl rfl fun S hs hr => op_move (A := rd kbool (((decide ((x2.length : Int) = 2)) && (decide ((e3.Atoms.length : Int) = 1))) && (decide (e5.Port = 9)))) rfl rfl (vt ((hs 37 rfl).trans rfl))) ⟨rfl, rfl, rfl, rfl⟩ ?_
  refine SeqA.cons (locg [2, 38] [] rfl rfl rfl rfl rfl rfl rfl fun hq S hs hr => op_move (A := rd (ksl kRule) x2) rfl rfl (vt ((hs 2 rfl).trans rfl))) ⟨rfl, rfl, rfl, rfl⟩ ?_
  refine SeqA.cons (locg [39, 38] [] rfl rfl rfl rfl rfl rfl rfl fun hq S hs hr => op_indexs' rfl rfl sl30 (vgt ((hs 39 rfl).trans rfl) hq) (vk rfl) (opt_t he6 hq)) ⟨rfl, rfl, rfl, rfl⟩ ?_
  refine SeqA.cons (locg [40, 38] [] rfl rfl rfl rfl rfl rfl rfl fun hq S hs hr => op_fieldp lRule_0 rfl rfl fl41_0 (vgt ((hs 40 rfl).trans rfl) hq)) ⟨rfl, rfl, rfl, rfl⟩ ?_
  refine SeqA.cons (locg [41, 38] [] rfl rfl rfl rfl rfl rfl rfl fun hq S hs hr => op_loadp rfl rfl ty38 (vgt ((hs 41 rfl).trans rfl) hq)) ⟨rfl, rfl, rfl, rfl⟩ ?_
  refine SeqA.cons (locg [38] [] rfl rfl rfl rfl rfl rfl rfl fun hq S hs hr => op_call (xs := []) (c_cube_All _ (opt_t hx7 hq)) (Ent.mk Tryz.func9 rfl rfl) rfl rfl trivial) ⟨rfl, rfl, rfl, rfl⟩ ?_
  refine SeqA.cons (locg [42, 43, 38] [] rfl rfl rfl rfl rfl rfl rfl fun hq S hs hr => op_eqlk rfl rfl eqk38 (by decide) rfl eg38 (vgt ((hs 42 rfl).trans rfl) hq) (vgt ((hs 43 rfl).trans rfl) hq)) ⟨rfl, rfl, rfl, rfl⟩ ?_
  refine SeqA.cons (loc [44, 38] [] rfl rfl fun S hs hr => op_all rfl rfl (vt ((hs 38 rfl).trans rfl)) (vt ((hs 44 rfl).trans rfl))) ⟨rfl, rfl, rfl, rfl⟩ ?_
  refine SeqA.cons (loc [45] [] rfl rfl fun S hs hr => op_move (A := rd kbool ((((decide ((x2.length : Int) = 2)) && (decide ((e3.Atoms.length : Int) = 1))) && (decide (e5.Port = 9))) && (decide (e6.Cube = x7)))) rfl rfl (vt ((hs 45 rfl).trans rfl))) ⟨rfl, rfl, rfl, rfl⟩ ?_
  refine SeqA.cons (locg [1, 46] [2] rfl rfl rfl rfl rfl rfl rfl fun hq S hs hr => op_load rfl rfl ty26 (vt ((hs 1 rfl).trans rfl)) (i := 2) ((hr 2 rfl).trans rfl)) ⟨rfl, rfl, rfl, rfl⟩ ?_
  refine SeqA.cons (locg [47, 46] [] rfl rfl rfl rfl rfl rfl rfl fun hq S hs hr => op_call (xs := [.tmp 47]) (c_walk_Most _ _ (opt_t hx8 hq)) (Ent.mk Tryz.func5 rfl rfl) rfl rfl ⟨vgt ((hs 47 rfl).trans rfl) hq, trivial⟩) ⟨rfl, rfl, rfl, rfl⟩ ?_
  refine SeqA.cons (locg [48, 46] [] rfl rfl rfl rfl rfl rfl rfl fun hq S hs hr => op_eql rfl rfl (vgt ((hs 48 rfl).trans rfl) hq) (vk rfl)) ⟨rfl, rfl, rfl, rfl⟩ ?_
  refine SeqA.cons (loc [49, 46] [] rfl rfl fun S hs hr => op_all rfl rfl (vt ((hs 46 rfl).trans rfl)) (vt ((hs 49 rfl).trans rfl))) ⟨rfl, rfl, rfl, rfl⟩ ?_
  refine SeqA.cons (loc [50] [] rfl rfl fun S hs hr => op_move (A := rd kbool (((((decide ((x2.length : Int) = 2)) && (decide ((e3.Atoms.length : Int) = 1))) && (decide (e5.Port = 9))) && (decide (e6.Cube = x7))) && (decide (x8 = 2)))) rfl rfl (vt ((hs 50 rfl).trans rfl))) ⟨rfl, rfl, rfl, rfl⟩ ?_
  refine SeqA.cons (locg [1, 51] [2] rfl rfl rfl rfl rfl rfl rfl fun hq S hs hr => op_load rfl rfl ty26 (vt ((hs 1 rfl).trans rfl)) (i := 2) ((hr 2 rfl).trans rfl)) ⟨rfl, rfl, rfl, rfl⟩ ?_
  refine SeqA.cons (locg [52, 51] [] rfl rfl rfl rfl rfl rfl rfl fun hq S hs hr => op_call (xs := [.tmp 52]) (c_walk_Rules _ _ (opt_t hx9 hq)) (Ent.mk Tryz.func10 rfl rfl) rfl rfl ⟨vgt ((hs 52 rfl).trans rfl) hq, trivial⟩) ⟨rfl, rfl, rfl, rfl⟩ ?_
  refine SeqA.cons (locg [53, 51] [] rfl rfl rfl rfl rfl rfl rfl fun hq S hs hr => op_neqseq rfl rfl uf59 (vgt ((hs 53 rfl).trans rfl) hq)) ⟨rfl, rfl, rfl, rfl⟩ ?_
  refine SeqA.cons (loc [54, 51] [] rfl rfl fun S hs hr => op_all rfl rfl (vt ((hs 51 rfl).trans rfl)) (vt ((hs 54 rfl).trans rfl))) ⟨rfl, rfl, rfl, rfl⟩ ?_
  refine SeqA.cons (loc [55] [] rfl rfl fun S hs hr => op_assign (A := rd kbool ((((((decide ((x2.length : Int) = 2)) && (decide ((e3.Atoms.length : Int) = 1))) && (decide (e5.Port = 9))) && (decide (e6.Cube = x7))) && (decide (x8 = 2))) && true)) rfl rfl (vt ((hs 55 rfl).trans rfl))) ⟨rfl, rfl, rfl, rfl⟩ ?_
  refine AW.ret ?_
  obtain rfl := Option.some.inj h
  exact ret1 Tryz.results4 rfl (out_tmp rfl)
def F_r33_Most_l1 (s1 : Switch) : Nat → Int → Int → Option Int
  | 0, _, _ => none
  | m7 + 1, n5, t6 => (bif (decide (t6 < 4)) then (chk 4 t6).bind fun j8 => (oquo .i64 1099511627776 n5).bind fun q9 => (bif (decide (((Vector.get s1.Tables j8).length : Int) ≥ q9)) then some 1099511627776 else (chk 4 t6).bind fun j10 => (F_r33_Most_l1 s1 m7) (imin (IntKind.i64.wrap (n5 * (IntKind.i64.wrap (((Vector.get s1.Tables j10).length : Int) + 1)))) 1099511627776) (IntKind.i64.wrap (t6 + 1))) else some n5)
def F_r33_Most (s1 : Switch) : Option Int :=
  F_r33_Most_l1 s1 (((4 : Int) - 0).toNat + 1) 1 0
theorem c_r33_Most (s1 : Switch) (r : Int) (h : F_r33_Most s1 = some r) : PCon Tryz.prog 6 [rd kSwitch s1] (rd (kint .i64) r) := by
  refine PCon.of (Con.intro0 Tryz.func6 rfl Tryz.ntmps6 rfl fun w H => ?_)
  unfold F_r33_Most at h
  refine AW.seq ?_
  refine AW.region ?_
  refine AOps.consT rfl (op_box 2 rfl rfl (vt rfl)) ?_
  rintro _ ⟨g2, rfl⟩
  refine AOps.cons (op_assign (A := rd (kint .i64) 0) rfl rfl (vk rfl)) rfl ?_
  refine AOps.nil ?_
  refine AW.seq ?_
  refine AW.region ?_
  refine AOps.cons (op_assign (A := rd (kint .i64) 1) rfl rfl (vk rfl)) rfl ?_
  refine AOps.nil ?_
  refine AW.seq ?_
  refine AW.seq ?_
  refine AW.region ?_
  refine AOps.cons (op_assign (A := rd (kint .i64) 0) rfl rfl (vk rfl)) rfl ?_
  refine AOps.nil ?_
  refine AW.block ?_
  refine AW.loopG (d := []) (ν := Nat × Int × Int) (fun n => True ∧ F_r33_Most_l1 s1 n.1 n.2.1 n.2.2 = some r) (fun n => n.1) (fun n => [(1, ptrL g2 (Lens.id kSwitch)), (3, rd (kint .i64) n.2.1), (4, rd (kint .i64) n.2.2)]) (fun n => [(2, Blk g2 26 kSwitch s1)]) ((((4 : Int) - 0).toNat + 1), 1, 0) ⟨trivial, h⟩ ⟨rfl, ⟨rfl, rfl, rfl, trivial⟩, ⟨rfl, trivial⟩⟩ ?_
  rintro ⟨m7, n5, t6⟩ ⟨hsf1, h⟩
  change True at hsf1
  change F_r33_Most_l1 s1 m7 n5 t6 = some r at h
  change AW _ _ _ ⟨slots [(1, ptrL g2 (Lens.id kSwitch)), (3, rd (kint .i64) n5), (4, rd (kint .i64) t6)], ress [(2, Blk g2 26 kSwitch s1)], _⟩
  cases m7 with
  | zero => cases h
  | succ m7 =>
    unfold F_r33_Most_l1 at h
    generalize hgo1 : F_r33_Most_l1 s1 m7 = go1 at h
    refine AW.seq ?_
    refine AW.seq ?_
    refine AW.region ?_
    refine AOps.cons (op_move (A := rd (kint .i64) t6) rfl rfl (vt rfl)) rfl ?_
    refine AOps.cons (op_lss rfl rfl (vt rfl) (vk rfl)) rfl ?_
    refine AOps.nil ?_
    refine AW.cond (vt rfl) (fun hc => ?_) (fun hc => ?_)
    · have h := cond_t hc h
      refine AW.skip ?_
      refine AW.seq ?_
      refine AW.block ?_
      refine AW.seq ?_
      refine AW.seq ?_
      obtain ⟨j8, hj8, h⟩ := bsome h
      obtain ⟨q9, hq9, h⟩ := bsome h
      refine AW.regionAny [⟨[4], [9], [], []⟩, ⟨[1], [10], [], []⟩, ⟨[10, 9], [11], [], []⟩, ⟨[11], [12], [2], []⟩, ⟨[12], [13], [], []⟩, ⟨[3], [14], [], []⟩, ⟨[14], [15], [], []⟩, ⟨[13, 15], [16], [], []⟩] mixed (by kernel_rfl) ?_
      refine SeqA.cons (loc [4] [] rfl rfl fun S hs hr => op_move (A := rd (kint .i64) t6) rfl rfl (vt ((hs 4 rfl).trans rfl))) ⟨rfl, rfl, rfl, rfl⟩ ?_
      refine SeqA.cons (loc [1] [] rfl rfl fun S hs hr => op_field lSwitch_0 rfl rfl fl26_0 (vt ((hs 1 rfl).trans rfl))) ⟨rfl, rfl, rfl, rfl⟩ ?_
      refine SeqA.cons (loc [10, 9] [] rfl rfl fun S hs hr => op_index' rfl rfl ar23 (vt ((hs 10 rfl).trans rfl)) (vt ((hs 9 rfl).trans rfl)) hj8) ⟨rfl, rfl, rfl, rfl⟩ ?_
      refine SeqA.cons (loc [11] [2] rfl rfl fun S hs hr => op_load rfl rfl ty22 (vt ((hs 11 rfl).trans rfl)) (i := 2) ((hr 2 rfl).trans rfl)) ⟨rfl, rfl, rfl, rfl⟩ ?_
      refine SeqA.cons (loc [12] [] rfl rfl fun S hs hr => op_len' rfl rfl sl22 (vt ((hs 12 rfl).trans rfl))) ⟨rfl, rfl, rfl, rfl⟩ ?_
      refine SeqA.cons (loc [3] [] rfl rfl fun S hs hr => op_move (A := rd (kint .i64) n5) rfl rfl (vt ((hs 3 rfl).trans rfl))) ⟨rfl, rfl, rfl, rfl⟩ ?_
      refine SeqA.cons (loc [14] [] rfl rfl fun S hs hr => op_quo rfl rfl (vk rfl) (vt ((hs 14 rfl).trans rfl)) hq9) ⟨rfl, rfl, rfl, rfl⟩ ?_
      refine SeqA.cons (loc [13, 15] [] rfl rfl fun S hs hr => op_geq rfl rfl (vt ((hs 13 rfl).trans rfl)) (vt ((hs 15 rfl).trans rfl))) ⟨rfl, rfl, rfl, rfl⟩ ?_
      refine AW.cond (vt rfl) (fun hc => ?_) (fun hc => ?_)
      · have h := cond_t hc h
        refine AW.seq ?_
        refine AW.region ?_
        refine AOps.cons (op_assign (A := rd (kint .i64) 1099511627776) rfl rfl (vk rfl)) rfl ?_
        refine AOps.nil ?_
        refine AW.ret ?_
        obtain rfl := Option.some.inj h
        exact ret1 Tryz.results6 rfl (out_tmp rfl)
      · have h := cond_f hc h
        refine AW.skip ?_
        obtain ⟨j10, hj10, h⟩ := bsome h
        refine AW.region ?_
        refine AOps.cons (op_move (A := rd (kint .i64) n5) rfl rfl (vt rfl)) rfl ?_
        refine AOps.cons (op_move (A := rd (kint .i64) t6) rfl rfl (vt rfl)) rfl ?_
        refine AOps.cons (op_field lSwitch_0 rfl rfl fl26_0 (vt rfl)) rfl ?_
        refine AOps.cons (op_index' rfl rfl ar23 (vt rfl) (vt rfl) hj10) rfl ?_
        refine AOps.cons (op_load rfl rfl ty22 (vt rfl) (i := 2) rfl) rfl ?_
        refine AOps.cons (op_len' rfl rfl sl22 (vt rfl)) rfl ?_
        refine AOps.cons (op_add rfl rfl (vt rfl) (vk rfl)) rfl ?_
        refine AOps.cons (op_mul rfl rfl (vt rfl) (vt rfl)) rfl ?_
        refine AOps.cons (op_min rfl rfl (vt rfl) (vk rfl)) rfl ?_
        refine AOps.cons (op_assign (A := rd (kint .i64) (imin (IntKind.i64.wrap (n5 * (IntKind.i64.wrap (((Vector.get s1.Tables j10).length : Int) + 1)))) 1099511627776)) rfl rfl (vt rfl)) rfl ?_
        refine AOps.nil ?_
        refine AW.region ?_
        refine AOps.cons (op_move (A := rd (kint .i64) t6) rfl rfl (vt rfl)) rfl ?_
        refine AOps.cons (op_add rfl rfl (vt rfl) (vk rfl)) rfl ?_
        refine AOps.cons (op_assign (A := rd (kint .i64) (IntKind.i64.wrap (t6 + 1))) rfl rfl (vt rfl)) rfl ?_
        refine AOps.nil ?_
        subst hgo1
        exact ⟨(m7, (imin (IntKind.i64.wrap (n5 * (IntKind.i64.wrap (((Vector.get s1.Tables j10).length : Int) + 1)))) 1099511627776), (IntKind.i64.wrap (t6 + 1))), Nat.lt_succ_self _, ⟨trivial, h⟩, ⟨rfl, ⟨rfl, rfl, rfl, trivial⟩, ⟨rfl, trivial⟩⟩⟩
    · have h := cond_f hc h
      refine AW.exit ?_
      refine AW.seq ?_
      refine AW.region ?_
      refine AOps.cons (op_move (A := rd (kint .i64) n5) rfl rfl (vt rfl)) rfl ?_
      refine AOps.cons (op_assign (A := rd (kint .i64) n5) rfl rfl (vt rfl)) rfl ?_
      refine AOps.nil ?_
      refine AW.ret ?_
      obtain rfl := Option.some.inj h
      exact ret1 Tryz.results6 rfl (out_tmp rfl)
def F_slices_IndexFunc_Flow_l1 (s1 : (List Flow)) (f2 : (Flow → Option Bool)) : Nat → Nat → Option Int
  | 0, i3 => some (-1)
  | m4 + 1, i3 => (lget s1 (i3 : Int)).bind fun e5 => (f2 e5).bind fun x6 => (bif x6 then some (i3 : Int) else (F_slices_IndexFunc_Flow_l1 s1 f2 m4) (i3 + 1))
def F_slices_IndexFunc_Flow (s1 : (List Flow)) (f2 : (Flow → Option Bool)) : Option Int :=
  F_slices_IndexFunc_Flow_l1 s1 f2 ((s1.length : Int) : Int).toNat 0
theorem c_slices_IndexFunc_Flow (s1 : (List Flow)) (f2 : (Flow → Option Bool)) (r : Int) (h : F_slices_IndexFunc_Flow s1 f2 = some r) : PCon Tryz.prog 28 [rd (ksl kFlow) s1, fn1 Tryz.prog kFlow kbool f2] (rd (kint .i64) r) := by
  refine PCon.of (Con.intro0 Tryz.func28 rfl Tryz.ntmps28 rfl fun w H => ?_)
  unfold F_slices_IndexFunc_Flow at h
  refine AW.seq ?_
  refine AW.region ?_
  refine AOps.cons (op_assign (A := rd (kint .i64) 0) rfl rfl (vk rfl)) rfl ?_
  refine AOps.nil ?_
  refine AW.seq ?_
  refine AW.seq ?_
  refine AW.region ?_
  refine AOps.cons (op_move (A := rd (ksl kFlow) s1) rfl rfl (vt rfl)) rfl ?_
  refine AOps.cons (op_len' rfl rfl sl22 (vt rfl)) rfl ?_
  refine AOps.cons (op_move (A := rd (kint .i64) 0) rfl rfl (vk rfl)) rfl ?_
  refine AOps.nil ?_
  refine AW.block ?_
  refine AW.loopG (d := []) (ν := Nat × Nat) (fun n => Cnt (s1.length : Int) n.2 n.1 ∧ F_slices_IndexFunc_Flow_l1 s1 f2 n.1 n.2 = some r) (fun n => n.1) (fun n => [(0, rd (ksl kFlow) s1), (1, fn1 Tryz.prog kFlow kbool f2), (7, rd (kint .i64) (s1.length : Int)), (8, rd (kint .i64) (n.2 : Int))]) (fun n => []) (((s1.length : Int) : Int).toNat, 0) ⟨Cnt.start _, h⟩ ⟨rfl, ⟨rfl, rfl, rfl, rfl, trivial⟩, trivial⟩ ?_
  rintro ⟨m4, i3⟩ ⟨hsf1, h⟩
  change Cnt (s1.length : Int) i3 m4 at hsf1
  change F_slices_IndexFunc_Flow_l1 s1 f2 m4 i3 = some r at h
  change AW _ _ _ ⟨slots [(0, rd (ksl kFlow) s1), (1, fn1 Tryz.prog kFlow kbool f2), (7, rd (kint .i64) (s1.length : Int)), (8, rd (kint .i64) (i3 : Int))], ress [], _⟩
  cases m4 with
  | zero =>
    unfold F_slices_IndexFunc_Flow_l1 at h
    refine AW.seq ?_
    refine AW.region ?_
    refine AOps.cons (op_lss rfl rfl (vt rfl) (vt rfl)) rfl ?_
    refine AOps.nil ?_
    refine AW.seq ?_
    refine AW.cond (vt rfl) (fun hc => absurd (of_decide_eq_true hc) hsf1.zero) (fun hc => ?_)
    refine AW.exit ?_
    refine AW.seq ?_
    refine AW.region ?_
    refine AOps.cons (op_assign (A := rd (kint .i64) (-1)) rfl rfl (vk rfl)) rfl ?_
    refine AOps.nil ?_
    refine AW.ret ?_
    obtain rfl := Option.some.inj h
    exact ret1 Tryz.results28 rfl (out_tmp rfl)
  | succ m4 =>
    unfold F_slices_IndexFunc_Flow_l1 at h
    generalize hgo1 : F_slices_IndexFunc_Flow_l1 s1 f2 m4 = go1 at h
    refine AW.seq ?_
    refine AW.region ?_
    refine AOps.cons (op_lss rfl rfl (vt rfl) (vt rfl)) rfl ?_
    refine AOps.nil ?_
    refine AW.seq ?_
    refine AW.cond (vt rfl) (fun hc => ?_) (fun hc => absurd hsf1.succ (of_decide_eq_false hc))
    have hlti3 := of_decide_eq_true hc
    refine AW.skip ?_
    refine AW.seq ?_
    refine AW.block ?_
    refine AW.seq ?_
    refine AW.region ?_
    refine AOps.cons (op_move (A := rd (kint .i64) (i3 : Int)) rfl rfl (vt rfl)) rfl ?_
    refine AOps.cons (op_assign (A := rd (kint .i64) (i3 : Int)) rfl rfl (vt rfl)) rfl ?_
    refine AOps.nil ?_
    refine AW.seq ?_
    obtain ⟨e5, he5, h⟩ := bsome h
    obtain ⟨x6, hx6, h⟩ := bsome h
    refine AW.region ?_
    refine AOps.cons (op_move (A := fn1 Tryz.prog kFlow kbool f2) rfl rfl (vt rfl)) rfl ?_
    refine AOps.cons (op_move (A := rd (ksl kFlow) s1) rfl rfl (vt rfl)) rfl ?_
    refine AOps.cons (op_move (A := rd (kint .i64) (i3 : Int)) rfl rfl (vt rfl)) rfl ?_
    refine AOps.cons (op_indexs' rfl rfl sl22 (vt rfl) (vt rfl) he5) rfl ?_
    refine AOps.cons (op_loadp rfl rfl ty54 (vt rfl)) rfl ?_
    refine AOps.cons (op_call1 hx6 rfl rfl (vt rfl) (vt rfl)) rfl ?_
    refine AOps.nil ?_
    refine AW.cond (vt rfl) (fun hc => ?_) (fun hc => ?_)
    · have h := cond_t hc h
      refine AW.seq ?_
      refine AW.region ?_
      refine AOps.cons (op_move (A := rd (kint .i64) (i3 : Int)) rfl rfl (vt rfl)) rfl ?_
      refine AOps.cons (op_assign (A := rd (kint .i64) (i3 : Int)) rfl rfl (vt rfl)) rfl ?_
      refine AOps.nil ?_
      refine AW.ret ?_
      obtain rfl := Option.some.inj h
      exact ret1 Tryz.results28 rfl (out_tmp rfl)
    · have h := cond_f hc h
      refine AW.skip ?_
      refine AW.region ?_
      refine AOps.cons (op_incr (t := 7) rfl rfl (vt rfl) (vk rfl) (vt rfl) hlti3) rfl ?_
      refine AOps.cons (op_move (A := rd (kint .i64) ((i3 + 1 : Nat) : Int)) rfl rfl (vt rfl)) rfl ?_
      refine AOps.nil ?_
      subst hgo1
      exact ⟨(m4, i3 + 1), Nat.lt_succ_self _, ⟨hsf1.next, h⟩, ⟨rfl, ⟨rfl, rfl, rfl, rfl, trivial⟩, trivial⟩⟩
def F_slices_ContainsFunc_Flow (s1 : (List Flow)) (f2 : (Flow → Option Bool)) : Option Bool :=
  (F_slices_IndexFunc_Flow s1 f2).bind fun x3 => some (decide (x3 ≥ 0))
theorem c_slices_ContainsFunc_Flow (s1 : (List Flow)) (f2 : (Flow → Option Bool)) (r : Bool) (h : F_slices_ContainsFunc_Flow s1 f2 = some r) : PCon Tryz.prog 17 [rd (ksl kFlow) s1, fn1 Tryz.prog kFlow kbool f2] (rd kbool r) := by
  refine PCon.of (Con.intro0 Tryz.func17 rfl Tryz.ntmps17 rfl fun w H => ?_)
  unfold F_slices_ContainsFunc_Flow at h
  refine AW.seq ?_
  refine AW.region ?_
  refine AOps.cons (op_assign (A := rd kbool false) rfl rfl vb) rfl ?_
  refine AOps.nil ?_
  refine AW.seq ?_
  obtain ⟨x3, hx3, h⟩ := bsome h
  refine AW.region ?_
  refine AOps.cons (op_move (A := rd (ksl kFlow) s1) rfl rfl (vt rfl)) rfl ?_
  refine AOps.cons (op_move (A := fn1 Tryz.prog kFlow kbool f2) rfl rfl (vt rfl)) rfl ?_
  refine AOps.cons (op_call (xs := [.tmp 5, .tmp 6]) (c_slices_IndexFunc_Flow _ _ _ hx3) (Ent.mk Tryz.func28 rfl rfl) rfl rfl ⟨vt rfl, vt rfl, trivial⟩) rfl ?_
  refine AOps.cons (op_geq rfl rfl (vt rfl) (vk rfl)) rfl ?_
  refine AOps.cons (op_assign (A := rd kbool (decide (x3 ≥ 0))) rfl rfl (vt rfl)) rfl ?_
  refine AOps.nil ?_
  refine AW.ret ?_
  obtain rfl := Option.some.inj h
  exact ret1 Tryz.results17 rfl (out_tmp rfl)
def F_slices_ContainsFunc_Inst (s1 : (List Inst)) (f2 : (Inst → Option Bool)) : Option Bool :=
  (F_slices_IndexFunc_Inst s1 f2).bind fun x3 => some (decide (x3 ≥ 0))
theorem c_slices_ContainsFunc_Inst (s1 : (List Inst)) (f2 : (Inst → Option Bool)) (r : Bool) (h : F_slices_ContainsFunc_Inst s1 f2 = some r) : PCon Tryz.prog 45 [rd (ksl kInst) s1, fn1 Tryz.prog kInst kbool f2] (rd kbool r) := by
  refine PCon.of (Con.intro0 Tryz.func45 rfl Tryz.ntmps45 rfl fun w H => ?_)
  unfold F_slices_ContainsFunc_Inst at h
  refine AW.seq ?_
  refine AW.region ?_
  refine AOps.cons (op_assign (A := rd kbool false) rfl rfl vb) rfl ?_
  refine AOps.nil ?_
  refine AW.seq ?_
  obtain ⟨x3, hx3, h⟩ := bsome h
  refine AW.region ?_
  refine AOps.cons (op_move (A := rd (ksl kInst) s1) rfl rfl (vt rfl)) rfl ?_
  refine AOps.cons (op_move (A := fn1 Tryz.prog kInst kbool f2) rfl rfl (vt rfl)) rfl ?_
  refine AOps.cons (op_call (xs := [.tmp 5, .tmp 6]) (c_slices_IndexFunc_Inst _ _ _ hx3) (Ent.mk Tryz.func58 rfl rfl) rfl rfl ⟨vt rfl, vt rfl, trivial⟩) rfl ?_
  refine AOps.cons (op_geq rfl rfl (vt rfl) (vk rfl)) rfl ?_
  refine AOps.cons (op_assign (A := rd kbool (decide (x3 ≥ 0))) rfl rfl (vt rfl)) rfl ?_
  refine AOps.nil ?_
  refine AW.ret ?_
  obtain rfl := Option.some.inj h
  exact ret1 Tryz.results45 rfl (out_tmp rfl)
def F_pl_Acts (l1 : (List Action)) : Option Bool :=
  some (decide ((l1.length : Int) ≤ 12))
theorem c_pl_Acts (l1 : (List Action)) (r : Bool) (h : F_pl_Acts l1 = some r) : PCon Tryz.prog 33 [rd (ksl kAction) l1] (rd kbool r) := by
  refine PCon.of (Con.intro0 Tryz.func33 rfl Tryz.ntmps33 rfl fun w H => ?_)
  unfold F_pl_Acts at h
  refine AW.seq ?_
  refine AW.region ?_
  refine AOps.cons (op_assign (A := rd kbool false) rfl rfl vb) rfl ?_
  refine AOps.nil ?_
  refine AW.seq ?_
  refine AW.region ?_
  refine AOps.cons (op_move (A := rd (ksl kAction) l1) rfl rfl (vt rfl)) rfl ?_
  refine AOps.cons (op_len' rfl rfl sl49 (vt rfl)) rfl ?_
  refine AOps.cons (op_leq rfl rfl (vt rfl) (vk rfl)) rfl ?_
  refine AOps.cons (op_assign (A := rd kbool (decide ((l1.length : Int) ≤ 12))) rfl rfl (vt rfl)) rfl ?_
  refine AOps.nil ?_
  refine AW.ret ?_
  obtain rfl := Option.some.inj h
  exact ret1 Tryz.results33 rfl (out_tmp rfl)
def F_pl_Insts_1 (i1 : Inst) : Option Bool :=
  (F_pl_Acts i1.Acts).bind fun x3 => some (!x3)
theorem c_pl_Insts_1 (i1 : Inst) (r : Bool) (h : F_pl_Insts_1 i1 = some r) : PCon Tryz.prog 46 [rd kInst i1] (rd kbool r) := by
  refine PCon.of (Con.intro0 Tryz.func46 rfl Tryz.ntmps46 rfl fun w H => ?_)
  unfold F_pl_Insts_1 at h
  refine AW.seq ?_
  refine AW.region ?_
  refine AOps.consT rfl (op_box 2 rfl rfl (vt rfl)) ?_
  rintro _ ⟨g2, rfl⟩
  refine AOps.cons (op_assign (A := rd kbool false) rfl rfl vb) rfl ?_
  refine AOps.nil ?_
  refine AW.seq ?_
  obtain ⟨x3, hx3, h⟩ := bsome h
  refine AW.region ?_
  refine AOps.cons (op_field lInst_4 rfl rfl fl51_4 (vt rfl)) rfl ?_
  refine AOps.cons (op_load rfl rfl ty49 (vt rfl) (i := 2) rfl) rfl ?_
  refine AOps.cons (op_call (xs := [.tmp 4]) (c_pl_Acts _ _ hx3) (Ent.mk Tryz.func33 rfl rfl) rfl rfl ⟨vt rfl, trivial⟩) rfl ?_
  refine AOps.cons (op_not rfl rfl (vt rfl)) rfl ?_
  refine AOps.cons (op_assign (A := rd kbool (!x3)) rfl rfl (vt rfl)) rfl ?_
  refine AOps.nil ?_
  refine AW.ret ?_
  obtain rfl := Option.some.inj h
  exact ret1 Tryz.results46 rfl (out_tmp rfl)
def F_pl_Insts (l1 : (List Inst)) : Option Bool :=
  (opt (decide ((l1.length : Int) ≤ 8)) (F_slices_ContainsFunc_Inst l1 F_pl_Insts_1)).bind fun x2 => some ((decide ((l1.length : Int) ≤ 8)) && (!x2))
theorem c_pl_Insts (l1 : (List Inst)) (r : Bool) (h : F_pl_Insts l1 = some r) : PCon Tryz.prog 29 [rd (ksl kInst) l1] (rd kbool r) := by
  refine PCon.of (Con.intro0 Tryz.func29 rfl Tryz.ntmps29 rfl fun w H => ?_)
  unfold F_pl_Insts at h
  refine AW.seq ?_
  refine AW.region ?_
  refine AOps.cons (op_assign (A := rd kbool false) rfl rfl vb) rfl ?_
  refine AOps.nil ?_
  refine AW.seq ?_
  obtain ⟨x2, hx2, h⟩ := bsome h
  refine AW.region ?_
  refine AOps.cons (op_move (A := rd (ksl kInst) l1) rfl rfl (vt rfl)) rfl ?_
  refine AOps.cons (op_len' rfl rfl sl52 (vt rfl)) rfl ?_
  refine AOps.cons (op_leq rfl rfl (vt rfl) (vk rfl)) rfl ?_
  refine AOps.cons (op_move (A := rd kbool (decide ((l1.length : Int) ≤ 8))) rfl rfl (vt rfl)) rfl ?_
  refine AOps.consG (OpG.guard rfl rfl rfl rfl rfl fun hq => op_move (A := rd (ksl kInst) l1) rfl rfl (vt rfl)) ?_
  refine AOps.consG (OpG.guard rfl rfl rfl rfl rfl fun hq => op_call (xs := [.tmp 7, .func 46]) (c_slices_ContainsFunc_Inst _ _ _ (opt_t hx2 hq)) (Ent.mk Tryz.func45 rfl rfl) rfl rfl ⟨vgt rfl hq, vf1 (Ent.mk Tryz.func46 rfl rfl) c_pl_Insts_1, trivial⟩) ?_
  refine AOps.consG (OpG.guard rfl rfl rfl rfl rfl fun hq => op_not rfl rfl (vgt rfl hq)) ?_
  refine AOps.cons (op_all rfl rfl (vt rfl) (vt rfl)) rfl ?_
  refine AOps.cons (op_assign (A := rd kbool ((decide ((l1.length : Int) ≤ 8)) && (!x2))) rfl rfl (vt rfl)) rfl ?_
  refine AOps.nil ?_
  refine AW.ret ?_
  obtain rfl := Option.some.inj h
  exact ret1 Tryz.results29 rfl (out_tmp rfl)
end Go.Proofs.YtokmmcflinnfiabGreat.W
