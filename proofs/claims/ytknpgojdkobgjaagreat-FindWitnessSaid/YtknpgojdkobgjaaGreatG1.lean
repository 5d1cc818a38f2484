/- A part of the proof. -/
import Derived.Test.YtknpgojdkobgjaaGreatG0
set_option linter.unusedVariables false
set_option maxRecDepth 4000
set_option linter.unusedSimpArgs false
namespace Go.Proofs.YtknpgojdkobgjaaGreat.W
open Go Go.Wb
theorem e218 : Ent Tryz.prog 218 := Ent.mk Tryz.func218 rfl rfl
theorem e343 : Ent Tryz.prog 343 := Ent.mk Tryz.func343 rfl rfl
theorem e311 : Ent Tryz.prog 311 := Ent.mk Tryz.func311 rfl rfl
theorem e335 : Ent Tryz.prog 335 := Ent.mk Tryz.func335 rfl rfl
theorem e310 : Ent Tryz.prog 310 := Ent.mk Tryz.func310 rfl rfl
theorem e274 : Ent Tryz.prog 274 := Ent.mk Tryz.func274 rfl rfl
def F_aset_turn (kind1 : Int) : Option Int :=
  (F_slices_Index_int [18, 17, 25, 22, 0] kind1).bind fun x2 => some x2
theorem c_aset_turn (kind1 : Int) (r : Int) (h : F_aset_turn kind1 = some r) : PCon Tryz.prog 218 [rd (kint .i64) kind1] (rd (kint .i64) r) := by
  refine PCon.of (Con.intro0 Tryz.func218 rfl Tryz.ntmps218 rfl fun w H => ?_)
  unfold F_aset_turn at h
  refine SR <| Ak rfl <| Nl <| AW.seq ?_
  obtain ⟨x2, hx2, h⟩ := bsome h
  refine Rg <| Ac (op_buildSliceR (ps := [(0, .const (Value.int IntKind.i64 18)), (1, .const (Value.int IntKind.i64 17)), (2, .const (Value.int IntKind.i64 25)), (3, .const (Value.int IntKind.i64 22)), (4, .const (Value.int IntKind.i64 0))]) (l := [18, 17, 25, 22, 0]) rfl rfl sl37 zr3 rfl rfl ⟨_, _, Lens.idx 5 (kint .i64) 0 (by decide), _, rfl, (vk rfl), _, _, Lens.idx 5 (kint .i64) 1 (by decide), _, rfl, (vk rfl), _, _, Lens.idx 5 (kint .i64) 2 (by decide), _, rfl, (vk rfl), _, _, Lens.idx 5 (kint .i64) 3 (by decide), _, rfl, (vk rfl), _, _, Lens.idx 5 (kint .i64) 4 (by decide), _, rfl, (vk rfl), rfl⟩ rfl) rfl <| Md rfl <| Cl [3, 4] (c_slices_Index_int _ _ _ hx2) e273 rfl <| As rfl <| Nl <| AW.ret ?_
  obtain rfl := si h
  exact ret1 Tryz.results218 rfl (out_tmp rfl)
def F_aset_List_2 (a1 : Action) (cp2 : Bool) : Option Bool :=
  (F_aset_turn a1.Kind).bind fun x4 => some ((decide (x4 < 0)) || (cp2 && (decide (a1.Kind = 0))))
theorem c_aset_List_2 (a1 : Action) (cp2 : Bool) (r : Bool) (h : F_aset_List_2 a1 cp2 = some r) : PCon Tryz.prog 217 [rd kAction a1, rp kbool cp2] (rd kbool r) := by
  refine PCon.of (Con.intro0 Tryz.func217 rfl Tryz.ntmps217 rfl fun w H => ?_)
  unfold F_aset_List_2 at h
  refine SR <| Ct rfl (op_box 3 rfl rfl (vt rfl)) ?_
  rintro _ ⟨g3, rfl⟩
  refine Ab rfl <| Nl <| AW.seq ?_
  obtain ⟨x4, hx4, h⟩ := bsome h
  refine Rg <| FdA lAction_0 fl121_0 rfl <| Ld ty3 3 rfl <| Cl [5] (c_aset_turn _ _ hx4) e218 rfl <| Ac (op_lss rfl rfl (vt rfl) (vk rfl)) rfl <| Md rfl <| Gd rfl (fun hq => op_loadp rfl rfl ty4 (vt rfl)) <| AOps.consG (OpG.guardX rfl rfl rfl rfl rfl fun hq => op_move (A := rd kbool cp2) rfl rfl (vgt rfl hq)) <| AOps.consG (OpG.guardN rfl rfl rfl rfl rfl fun hq => op_field lAction_0 rfl rfl fl121_0 (vt rfl)) <| AOps.consG (OpG.guardN rfl rfl rfl rfl rfl fun hq => op_load rfl rfl ty3 (vgt rfl hq) (i := 3) rfl) <| AOps.consG (OpG.guardN rfl rfl rfl rfl rfl fun hq => op_eql rfl rfl (vgt rfl hq) (vk rfl)) <| Gd rfl (fun hq => op_all rfl rfl (vgx rfl hq) (vgw rfl hq)) <| Ac (op_any rfl rfl (vt rfl) (vt rfl)) rfl <| As rfl <| Nl <| AW.ret ?_
  obtain rfl := si h
  exact ret1 Tryz.results217 rfl (out_tmp rfl)
def F_slices_DeleteFunc_Action_l1 (del3 : (Action → Option Bool)) : Nat → (List Action) → Int → Int → Option (List Action)
  | 0, _, _, _ => none
  | m11 + 1, l8, i9, j10 => (bif (decide (j10 < (l8.length : Int))) then (lget l8 j10).bind fun e12 => (del3 e12).bind fun x14 => (bif (!x14) then (lget l8 i9).bind fun e15 => (F_slices_DeleteFunc_Action_l1 del3 m11) (List.set l8 i9.toNat e12) (IntKind.i64.wrap (i9 + 1)) (IntKind.i64.wrap (j10 + 1)) else (F_slices_DeleteFunc_Action_l1 del3 m11) l8 i9 (IntKind.i64.wrap (j10 + 1))) else (odrop l8 i9).bind fun s16 => (otake (List.take i9.toNat l8 ++ List.replicate (l8.length - i9.toNat) zAction) i9).bind fun s17 => some s17)
def F_slices_DeleteFunc_Action (s1 : (List Action)) (del3 : (Action → Option Bool)) : Option (List Action) :=
  (F_slices_IndexFunc_Action s1 del3).bind fun x4 => (bif (decide (x4 = (-1))) then some s1 else F_slices_DeleteFunc_Action_l1 del3 ((((s1.length : Int) : Int) - (IntKind.i64.wrap (x4 + 1))).toNat + 1) s1 x4 (IntKind.i64.wrap (x4 + 1)))
theorem c_slices_DeleteFunc_Action_o (v2 : Value) (s1 : (List Action)) (del3 : (Action → Option Bool)) (r : (List Action)) (h : F_slices_DeleteFunc_Action s1 del3 = some r) : Con Tryz.prog 215 [raw v2, fn1 Tryz.prog kAction kbool del3] (Row v2 121 kAction s1) (fun v => raw v) (fun v => Row v 121 kAction r) := by
  refine Con.intro Tryz.func215 rfl Tryz.ntmps215 rfl fun w H X => ?_
  unfold F_slices_DeleteFunc_Action at h
  refine AW.seq <| AW.newnil 1001 121 kAction <| Rg <| Ac (op_assign rfl rfl vc) rfl <| Nl <| AW.seq ?_
  obtain ⟨x4, hx4, h⟩ := bsome h
  refine Rg <| Mw rfl <| Ac (op_move (A := fn1 Tryz.prog kAction kbool del3) rfl rfl (vt rfl)) rfl <| Ac (op_callB (xs := [.tmp 8, .tmp 9]) 0 (c_slices_IndexFunc_Action _ _ _ hx4) e266 rfl rfl ⟨vL rfl rfl, vB (vt rfl), trivial⟩) rfl <| As rfl <| Nl <| AW.seq <| SR <| Md rfl <| Ac (op_eql rfl rfl (vt rfl) (vk rfl)) rfl <| Nl <| Cn rfl (fun hc => ?_) (fun hc => ?_)
  · have h := cond_t hc h
    refine SR <| Mw rfl <| Aw rfl <| Nl <| AW.ret ?_
    obtain rfl := si h
    exact ret1R (i := 0) Tryz.results215 rfl rfl rfl
  · have h := cond_f hc h
    refine AW.skip <| AW.seq <| SR <| Md rfl <| Ac (op_add rfl rfl (vt rfl) (vk rfl)) rfl <| As rfl <| Nl <| AW.block <| AW.loopG (d := []) (ν := Nat × (List Action) × Int × Int) (fun n => True ∧ F_slices_DeleteFunc_Action_l1 del3 n.1 n.2.1 n.2.2.1 n.2.2.2 = some r) (fun n => n.1) (fun n => [(0, raw v2), (1, fn1 Tryz.prog kAction kbool del3), (5, rd (kint .i64) n.2.2.1), (6, rd (kint .i64) n.2.2.2)]) (fun n => [(0, Row v2 121 kAction n.2.1)]) (((((s1.length : Int) : Int) - (IntKind.i64.wrap (x4 + 1))).toNat + 1), s1, x4, (IntKind.i64.wrap (x4 + 1))) ⟨trivial, h⟩ ⟨rfl, ⟨rfl, rfl, rfl, rfl, trivial⟩, ⟨rfl, trivial⟩⟩ ?_
    rintro ⟨m11, l8, i9, j10⟩ ⟨hsf1, h⟩
    change True at hsf1
    change F_slices_DeleteFunc_Action_l1 del3 m11 l8 i9 j10 = some r at h
    change AW _ _ _ ⟨slots [(0, raw v2), (1, fn1 Tryz.prog kAction kbool del3), (5, rd (kint .i64) i9), (6, rd (kint .i64) j10)], ress [(0, Row v2 121 kAction l8)], _⟩
    cases m11 with
    | zero => cases h
    | succ m11 =>
      unfold F_slices_DeleteFunc_Action_l1 at h
      generalize hgo1 : F_slices_DeleteFunc_Action_l1 del3 m11 = go1 at h
      refine AW.seq <| SR <| Md rfl <| Mw rfl <| Ac (op_leno 0 rfl rfl sl122 (vt rfl) rfl) rfl <| Ac (op_lss rfl rfl (vt rfl) (vt rfl)) rfl <| Nl <| Cn rfl (fun hc => ?_) (fun hc => ?_)
      · have h := cond_t hc h
        refine AW.skip <| AW.seq <| AW.block <| AW.seq ?_
        obtain ⟨e12, he12, h⟩ := bsome h
        refine Rg <| Mw rfl <| Md rfl <| Ac (op_indexo' 0 rfl rfl sl122 (vt rfl) rfl (vt rfl) he12) rfl <| Ac (op_loado' 0 rfl rfl ty121 (vt rfl) rfl (lget_of he12).2) rfl <| Ct rfl (op_alloc 8 rfl rfl zr121) ?_
        rintro _ ⟨g13, rfl⟩
        refine Sto ty121 8 rfl <| Nl <| AW.seq ?_
        obtain ⟨x14, hx14, h⟩ := bsome h
        refine Rg <| Ac (op_move (A := fn1 Tryz.prog kAction kbool del3) rfl rfl (vt rfl)) rfl <| Ld ty121 8 rfl <| Ac (op_call1 hx14 rfl rfl (vt rfl) (vt rfl)) rfl <| Ac (op_not rfl rfl (vt rfl)) rfl <| Nl <| Cn rfl (fun hc => ?_) (fun hc => ?_)
        · have h := cond_t hc h
          refine AW.seq ?_
          obtain ⟨e15, he15, h⟩ := bsome h
          refine Rg <| Mw rfl <| Md rfl <| Ld ty121 8 rfl <| Ac (op_indexo' 0 rfl rfl sl122 (vt rfl) rfl (vt rfl) he15) rfl <| Ac (op_storeo' 0 rfl rfl ty121 (vt rfl) rfl (lget_of he15).2 (vt rfl)) rfl <| Nl <| Rg <| Md rfl <| Ac (op_add rfl rfl (vt rfl) (vk rfl)) rfl <| As rfl <| Nl <| Rg <| Md rfl <| Ac (op_add rfl rfl (vt rfl) (vk rfl)) rfl <| As rfl <| Nl ?_
          subst hgo1
          exact ⟨(m11, (List.set l8 i9.toNat e12), (IntKind.i64.wrap (i9 + 1)), (IntKind.i64.wrap (j10 + 1))), Nat.lt_succ_self _, ⟨trivial, h⟩, ⟨rfl, ⟨rfl, rfl, rfl, rfl, trivial⟩, ⟨rfl, trivial⟩⟩⟩
        · have h := cond_f hc h
          refine AW.skip <| Rg <| Md rfl <| Ac (op_add rfl rfl (vt rfl) (vk rfl)) rfl <| As rfl <| Nl ?_
          subst hgo1
          exact ⟨(m11, l8, i9, (IntKind.i64.wrap (j10 + 1))), Nat.lt_succ_self _, ⟨trivial, h⟩, ⟨rfl, ⟨rfl, rfl, rfl, rfl, trivial⟩, ⟨rfl, trivial⟩⟩⟩
      · have h := cond_f hc h
        refine AW.exit <| AW.seq ?_
        obtain ⟨s16, hs16, h⟩ := bsome h
        refine Rg <| Mw rfl <| Md rfl <| Ac (op_sliceo_l 0 hs16 rfl rfl sl122 (vt rfl) rfl (vt rfl)) rfl <| Ac (op_clearo 0 rfl rfl sl122 zr121 rfl (vt rfl) rfl (odrop_of hs16).2.1) rfl <| Nl <| AW.seq ?_
        obtain ⟨s17, hs17, h⟩ := bsome h
        refine Rg <| Mw rfl <| Md rfl <| Ct rfl (op_sliceo_h 0 hs17 rfl rfl sl122 (vt rfl) rfl (vt rfl)) ?_
        rintro _ ⟨v18, rfl⟩
        refine Aw rfl <| Nl <| AW.ret ?_
        obtain rfl := si h
        exact ret1R (i := 0) Tryz.results215 rfl rfl rfl
def F_slices_insertionSortCmpFunc_Action_l2 (a3 : Int) (cmp5 : (Action → Action → Option Int)) (go1 : (List Action) → Int → Option (List Action)) (i9 : Int) : Nat → (List Action) → Int → Option (List Action)
  | 0, _, _ => none
  | m15 + 1, l13, j14 => (opt (decide (j14 > a3)) (lget l13 j14)).bind fun e16 => (opt (decide (j14 > a3)) (lget l13 (IntKind.i64.wrap (j14 - 1)))).bind fun e17 => (opt (decide (j14 > a3)) (cmp5 e16 e17)).bind fun x18 => (bif ((decide (j14 > a3)) && (decide (x18 < 0))) then (lget l13 (IntKind.i64.wrap (j14 - 1))).bind fun e19 => (lget l13 j14).bind fun e20 => (lget l13 j14).bind fun e21 => (lget (List.set l13 j14.toNat e19) (IntKind.i64.wrap (j14 - 1))).bind fun e22 => (F_slices_insertionSortCmpFunc_Action_l2 a3 cmp5 go1 i9 m15) (List.set (List.set l13 j14.toNat e19) (IntKind.i64.wrap (j14 - 1)).toNat e20) (IntKind.i64.wrap (j14 - 1)) else go1 l13 (IntKind.i64.wrap (i9 + 1)))
def F_slices_insertionSortCmpFunc_Action_l1 (b4 : Int) (a3 : Int) (cmp5 : (Action → Action → Option Int)) : Nat → (List Action) → Int → Option (List Action)
  | 0, _, _ => none
  | m10 + 1, l8, i9 => (bif (decide (i9 < b4)) then F_slices_insertionSortCmpFunc_Action_l2 a3 cmp5 (F_slices_insertionSortCmpFunc_Action_l1 b4 a3 cmp5 m10) i9 fuel0 l8 i9 else some l8)
def F_slices_insertionSortCmpFunc_Action (data1 : (List Action)) (a3 : Int) (b4 : Int) (cmp5 : (Action → Action → Option Int)) : Option (List Action) :=
  F_slices_insertionSortCmpFunc_Action_l1 b4 a3 cmp5 (((b4 : Int) - (IntKind.i64.wrap (a3 + 1))).toNat + 1) data1 (IntKind.i64.wrap (a3 + 1))
theorem c_slices_insertionSortCmpFunc_Action_o (v2 : Value) (data1 : (List Action)) (a3 : Int) (b4 : Int) (cmp5 : (Action → Action → Option Int)) (r : (List Action)) (h : F_slices_insertionSortCmpFunc_Action data1 a3 b4 cmp5 = some r) : Con Tryz.prog 310 [raw v2, rd (kint .i64) a3, rd (kint .i64) b4, fn2 Tryz.prog kAction kAction (kint .i64) cmp5] (Row v2 121 kAction data1) (fun _ : Unit => top) (fun _ => Row v2 121 kAction r) := by
  refine Con.intro Tryz.func310 rfl Tryz.ntmps310 rfl fun w H X => ?_
  unfold F_slices_insertionSortCmpFunc_Action at h
  refine SR <| Md rfl <| Ac (op_add rfl rfl (vt rfl) (vk rfl)) rfl <| As rfl <| Nl <| AW.block <| AW.loopG (d := []) (ν := Nat × (List Action) × Int) (fun n => True ∧ F_slices_insertionSortCmpFunc_Action_l1 b4 a3 cmp5 n.1 n.2.1 n.2.2 = some r) (fun n => n.1) (fun n => [(0, raw v2), (1, rd (kint .i64) a3), (2, rd (kint .i64) b4), (3, fn2 Tryz.prog kAction kAction (kint .i64) cmp5), (8, rd (kint .i64) n.2.2)]) (fun n => [(0, Row v2 121 kAction n.2.1)]) ((((b4 : Int) - (IntKind.i64.wrap (a3 + 1))).toNat + 1), data1, (IntKind.i64.wrap (a3 + 1))) ⟨trivial, h⟩ ⟨rfl, ⟨rfl, rfl, rfl, rfl, rfl, trivial⟩, ⟨rfl, trivial⟩⟩ ?_
  rintro ⟨m10, l8, i9⟩ ⟨hsf1, h⟩
  change True at hsf1
  change F_slices_insertionSortCmpFunc_Action_l1 b4 a3 cmp5 m10 l8 i9 = some r at h
  change AW _ _ _ ⟨slots [(0, raw v2), (1, rd (kint .i64) a3), (2, rd (kint .i64) b4), (3, fn2 Tryz.prog kAction kAction (kint .i64) cmp5), (8, rd (kint .i64) i9)], ress [(0, Row v2 121 kAction l8)], _⟩
  cases m10 with
  | zero => cases h
  | succ m10 =>
    unfold F_slices_insertionSortCmpFunc_Action_l1 at h
    generalize hgo1 : F_slices_insertionSortCmpFunc_Action_l1 b4 a3 cmp5 m10 = go1 at h
    refine AW.seq <| SR <| Md rfl <| Md rfl <| Ac (op_lss rfl rfl (vt rfl) (vt rfl)) rfl <| Nl <| Cn rfl (fun hc => ?_) (fun hc => ?_)
    · have h := cond_t hc h
      refine AW.skip <| AW.seq <| AW.block <| SR <| Md rfl <| As rfl <| Nl <| AW.block <| AW.loopG (d := []) (ν := Nat × (List Action) × Int) (fun n => True ∧ F_slices_insertionSortCmpFunc_Action_l2 a3 cmp5 go1 i9 n.1 n.2.1 n.2.2 = some r) (fun n => n.1) (fun n => [(0, raw v2), (1, rd (kint .i64) a3), (2, rd (kint .i64) b4), (3, fn2 Tryz.prog kAction kAction (kint .i64) cmp5), (8, rd (kint .i64) i9), (9, rd (kint .i64) n.2.2)]) (fun n => [(0, Row v2 121 kAction n.2.1)]) (fuel0, l8, i9) ⟨trivial, h⟩ ⟨rfl, ⟨rfl, rfl, rfl, rfl, rfl, rfl, trivial⟩, ⟨rfl, trivial⟩⟩ ?_
      rintro ⟨m15, l13, j14⟩ ⟨hsf2, h⟩
      change True at hsf2
      change F_slices_insertionSortCmpFunc_Action_l2 a3 cmp5 go1 i9 m15 l13 j14 = some r at h
      change AW _ _ _ ⟨slots [(0, raw v2), (1, rd (kint .i64) a3), (2, rd (kint .i64) b4), (3, fn2 Tryz.prog kAction kAction (kint .i64) cmp5), (8, rd (kint .i64) i9), (9, rd (kint .i64) j14)], ress [(0, Row v2 121 kAction l13)], _⟩
      cases m15 with
      | zero => cases h
      | succ m15 =>
        unfold F_slices_insertionSortCmpFunc_Action_l2 at h
        generalize hgo2 : F_slices_insertionSortCmpFunc_Action_l2 a3 cmp5 go1 i9 m15 = go2 at h
        refine AW.seq <| AW.seq ?_
        obtain ⟨e16, he16, h⟩ := bsome h
        obtain ⟨e17, he17, h⟩ := bsome h
        obtain ⟨x18, hx18, h⟩ := bsome h
        refine AW.regionAny [⟨[9], [18], [], []⟩, ⟨[1], [19], [], []⟩, ⟨[18, 19], [20], [], []⟩, ⟨[20], [21], [], []⟩, ⟨[3, 21], [22], [], []⟩, ⟨[0, 21], [23], [], []⟩, ⟨[9, 21], [24], [], []⟩, ⟨[23, 24, 21], [25], [0], []⟩, ⟨[25, 21], [26], [0], []⟩, ⟨[0, 21], [27], [], []⟩, ⟨[9, 21], [28], [], []⟩, ⟨[28, 21], [29], [], []⟩, ⟨[27, 29, 21], [30], [0], []⟩, ⟨[30, 21], [31], [0], []⟩, ⟨[22, 26, 31, 21], [32], [], []⟩, ⟨[32, 21], [33], [], []⟩, ⟨[33, 21], [34], [], []⟩] mixed (by kernel_rfl) <| SMd rfl <| SMd rfl <| Sc (lo [18, 19] [] rfl fun S hs hr => op_gtr rfl rfl (vh hs 18 rfl rfl) (vh hs 19 rfl rfl)) rfl <| SMd rfl <| Sc (lg [3, 21] [] rfl fun hq S hs hr => op_move (A := fn2 Tryz.prog kAction kAction (kint .i64) cmp5) rfl rfl (vh hs 3 rfl rfl)) rfl <| Sc (lg [0, 21] [] rfl fun hq S hs hr => op_move (A := raw v2) rfl rfl (vh hs 0 rfl rfl)) rfl <| Sc (lg [9, 21] [] rfl fun hq S hs hr => op_move (A := rd (kint .i64) j14) rfl rfl (vh hs 9 rfl rfl)) rfl <| Sc (lg [23, 24, 21] [0] rfl fun hq S hs hr => op_indexo' 0 rfl rfl sl122 (vgt ((hs 23 rfl).trans rfl) hq) ((hr 0 rfl).trans rfl) (vgt ((hs 24 rfl).trans rfl) hq) (opt_t he16 hq)) rfl <| Sc (lg [25, 21] [0] rfl fun hq S hs hr => op_loado' 0 rfl rfl ty121 (vgt ((hs 25 rfl).trans rfl) hq) ((hr 0 rfl).trans rfl) (lget_of (opt_t he16 hq)).2) rfl <| Sc (lg [0, 21] [] rfl fun hq S hs hr => op_move (A := raw v2) rfl rfl (vh hs 0 rfl rfl)) rfl <| Sc (lg [9, 21] [] rfl fun hq S hs hr => op_move (A := rd (kint .i64) j14) rfl rfl (vh hs 9 rfl rfl)) rfl <| Sc (lg [28, 21] [] rfl fun hq S hs hr => op_sub rfl rfl (vgt ((hs 28 rfl).trans rfl) hq) (vk rfl)) rfl <| Sc (lg [27, 29, 21] [0] rfl fun hq S hs hr => op_indexo' 0 rfl rfl sl122 (vgt ((hs 27 rfl).trans rfl) hq) ((hr 0 rfl).trans rfl) (vgt ((hs 29 rfl).trans rfl) hq) (opt_t he17 hq)) rfl <| Sc (lg [30, 21] [0] rfl fun hq S hs hr => op_loado' 0 rfl rfl ty121 (vgt ((hs 30 rfl).trans rfl) hq) ((hr 0 rfl).trans rfl) (lget_of (opt_t he17 hq)).2) rfl <| Sc (lg [22, 26, 31, 21] [] rfl fun hq S hs hr => op_call2 (opt_t hx18 hq) rfl rfl (vgt ((hs 22 rfl).trans rfl) hq) (vgt ((hs 26 rfl).trans rfl) hq) (vgt ((hs 31 rfl).trans rfl) hq)) rfl <| Sc (lg [32, 21] [] rfl fun hq S hs hr => op_lss rfl rfl (vgt ((hs 32 rfl).trans rfl) hq) (vk rfl)) rfl <| Sc (lo [33, 21] [] rfl fun S hs hr => op_all rfl rfl (vh hs 21 rfl rfl) (vh hs 33 rfl rfl)) rfl <| Cn rfl (fun hc => ?_) (fun hc => ?_)
        · have h := cond_t hc h
          refine AW.skip <| AW.seq <| AW.block <| AW.vlen 0 rfl fun hvl0_273 => ?_
          obtain ⟨e19, he19, h⟩ := bsome h
          obtain ⟨e20, he20, h⟩ := bsome h
          obtain ⟨e21, he21, h⟩ := bsome h
          obtain ⟨e22, he22, h⟩ := bsome h
          refine AW.regionAny [⟨[0], [37], [], []⟩, ⟨[9], [38], [], []⟩, ⟨[0], [39], [], []⟩, ⟨[9], [40], [], []⟩, ⟨[40], [41], [], []⟩, ⟨[0], [42], [], []⟩, ⟨[9], [43], [], []⟩, ⟨[43], [44], [], []⟩, ⟨[42, 44], [45], [], []⟩, ⟨[45], [46], [0], []⟩, ⟨[0], [47], [], []⟩, ⟨[9], [48], [], []⟩, ⟨[47, 48], [49], [], []⟩, ⟨[49], [50], [0], []⟩, ⟨[37, 38], [51], [], []⟩, ⟨[51, 46], [], [0], [0]⟩, ⟨[39, 41], [52], [], []⟩, ⟨[52, 50], [], [0], [0]⟩] mixed (by kernel_rfl) <| SMw rfl <| SMd rfl <| SMw rfl <| SMd rfl <| Sc (lo [40] [] rfl fun S hs hr => op_sub rfl rfl (vh hs 40 rfl rfl) (vk rfl)) rfl <| SMw rfl <| SMd rfl <| Sc (lo [43] [] rfl fun S hs hr => op_sub rfl rfl (vh hs 43 rfl rfl) (vk rfl)) rfl <| Sc (lo [42, 44] [] rfl fun S hs hr => op_indexoP (l := l13) hvl0_273 rfl rfl rfl sl122 (vh hs 42 rfl rfl) (vh hs 44 rfl rfl) he19) rfl <| Sc (lo [45] [0] rfl fun S hs hr => op_loado' 0 rfl rfl ty121 (vh hs 45 rfl rfl) ((hr 0 rfl).trans rfl) (lget_of he19).2) rfl <| SMw rfl <| SMd rfl <| Sc (lo [47, 48] [] rfl fun S hs hr => op_indexoP (l := l13) hvl0_273 rfl rfl rfl sl122 (vh hs 47 rfl rfl) (vh hs 48 rfl rfl) he20) rfl <| Sc (lo [49] [0] rfl fun S hs hr => op_loado' 0 rfl rfl ty121 (vh hs 49 rfl rfl) ((hr 0 rfl).trans rfl) (lget_of he20).2) rfl <| Sc (lo [37, 38] [] rfl fun S hs hr => op_indexoP (l := l13) hvl0_273 rfl rfl rfl sl122 (vh hs 37 rfl rfl) (vh hs 38 rfl rfl) he21) rfl <| Sc (locr [51, 46] [0] rfl fun S hs hr => op_storeo' 0 rfl rfl ty121 (vh hs 51 rfl rfl) ((hr 0 rfl).trans rfl) (lget_of he21).2 (vh hs 46 rfl rfl)) rfl <| Sc (lo [39, 41] [] rfl fun S hs hr => op_indexoP (l := (List.set l13 j14.toNat e19)) hvl0_273 (by simp) rfl rfl sl122 (vh hs 39 rfl rfl) (vh hs 41 rfl rfl) he22) rfl <| Sc (locr [52, 50] [0] rfl fun S hs hr => op_storeo' 0 rfl rfl ty121 (vh hs 52 rfl rfl) ((hr 0 rfl).trans rfl) (lget_of he22).2 (vh hs 50 rfl rfl)) rfl <| Rg <| Md rfl <| Ac (op_sub rfl rfl (vt rfl) (vk rfl)) rfl <| As rfl <| Nl ?_
          subst hgo2
          exact ⟨(m15, (List.set (List.set l13 j14.toNat e19) (IntKind.i64.wrap (j14 - 1)).toNat e20), (IntKind.i64.wrap (j14 - 1))), Nat.lt_succ_self _, ⟨trivial, h⟩, ⟨rfl, ⟨rfl, rfl, rfl, rfl, rfl, rfl, trivial⟩, ⟨rfl, trivial⟩⟩⟩
        · have h := cond_f hc h
          refine AW.exit <| Rg <| Md rfl <| Ac (op_add rfl rfl (vt rfl) (vk rfl)) rfl <| As rfl <| Nl ?_
          subst hgo1
          exact ⟨(m10, l13, (IntKind.i64.wrap (i9 + 1))), Nat.lt_succ_self _, ⟨trivial, h⟩, ⟨rfl, ⟨rfl, rfl, rfl, rfl, rfl, trivial⟩, ⟨rfl, trivial⟩⟩⟩
    · have h := cond_f hc h
      refine AW.exit ?_
      obtain rfl := si h
      exact ret0Y (i := 0) Tryz.results310 rfl rfl
def F_slices_swapRangeCmpFunc_Action_l1 (n5 : Int) (b4 : Int) (a3 : Int) : Nat → (List Action) → Int → Option (List Action)
  | 0, _, _ => none
  | m11 + 1, l9, i10 => (bif (decide (i10 < n5)) then (lget l9 (IntKind.i64.wrap (b4 + i10))).bind fun e12 => (lget l9 (IntKind.i64.wrap (a3 + i10))).bind fun e13 => (lget l9 (IntKind.i64.wrap (a3 + i10))).bind fun e14 => (lget (List.set l9 (IntKind.i64.wrap (a3 + i10)).toNat e12) (IntKind.i64.wrap (b4 + i10))).bind fun e15 => (F_slices_swapRangeCmpFunc_Action_l1 n5 b4 a3 m11) (List.set (List.set l9 (IntKind.i64.wrap (a3 + i10)).toNat e12) (IntKind.i64.wrap (b4 + i10)).toNat e13) (IntKind.i64.wrap (i10 + 1)) else some l9)
def F_slices_swapRangeCmpFunc_Action (data1 : (List Action)) (a3 : Int) (b4 : Int) (n5 : Int) (cmp6 : (Action → Action → Option Int)) : Option (List Action) :=
  F_slices_swapRangeCmpFunc_Action_l1 n5 b4 a3 (((n5 : Int) - 0).toNat + 1) data1 0
theorem c_slices_swapRangeCmpFunc_Action_o (v2 : Value) (data1 : (List Action)) (a3 : Int) (b4 : Int) (n5 : Int) (cmp6 : (Action → Action → Option Int)) (r : (List Action)) (h : F_slices_swapRangeCmpFunc_Action data1 a3 b4 n5 cmp6 = some r) : Con Tryz.prog 343 [raw v2, rd (kint .i64) a3, rd (kint .i64) b4, rd (kint .i64) n5, fn2 Tryz.prog kAction kAction (kint .i64) cmp6] (Row v2 121 kAction data1) (fun _ : Unit => top) (fun _ => Row v2 121 kAction r) := by
  refine Con.intro Tryz.func343 rfl Tryz.ntmps343 rfl fun w H X => ?_
  unfold F_slices_swapRangeCmpFunc_Action at h
  refine SR <| Ak rfl <| Nl <| AW.block <| AW.loopG (d := []) (ν := Nat × (List Action) × Int) (fun n => True ∧ F_slices_swapRangeCmpFunc_Action_l1 n5 b4 a3 n.1 n.2.1 n.2.2 = some r) (fun n => n.1) (fun n => [(0, raw v2), (1, rd (kint .i64) a3), (2, rd (kint .i64) b4), (3, rd (kint .i64) n5), (10, rd (kint .i64) n.2.2)]) (fun n => [(0, Row v2 121 kAction n.2.1)]) ((((n5 : Int) - 0).toNat + 1), data1, 0) ⟨trivial, h⟩ ⟨rfl, ⟨rfl, rfl, rfl, rfl, rfl, trivial⟩, ⟨rfl, trivial⟩⟩ ?_
  rintro ⟨m11, l9, i10⟩ ⟨hsf1, h⟩
  change True at hsf1
  change F_slices_swapRangeCmpFunc_Action_l1 n5 b4 a3 m11 l9 i10 = some r at h
  change AW _ _ _ ⟨slots [(0, raw v2), (1, rd (kint .i64) a3), (2, rd (kint .i64) b4), (3, rd (kint .i64) n5), (10, rd (kint .i64) i10)], ress [(0, Row v2 121 kAction l9)], _⟩
  cases m11 with
  | zero => cases h
  | succ m11 =>
    unfold F_slices_swapRangeCmpFunc_Action_l1 at h
    generalize hgo1 : F_slices_swapRangeCmpFunc_Action_l1 n5 b4 a3 m11 = go1 at h
    refine AW.seq <| SR <| Md rfl <| Md rfl <| Ac (op_lss rfl rfl (vt rfl) (vt rfl)) rfl <| Nl <| Cn rfl (fun hc => ?_) (fun hc => ?_)
    · have h := cond_t hc h
      refine AW.skip <| AW.seq <| AW.block <| AW.vlen 0 rfl fun hvl0_127 => ?_
      obtain ⟨e12, he12, h⟩ := bsome h
      obtain ⟨e13, he13, h⟩ := bsome h
      obtain ⟨e14, he14, h⟩ := bsome h
      obtain ⟨e15, he15, h⟩ := bsome h
      refine AW.regionAny [⟨[0], [16], [], []⟩, ⟨[1], [17], [], []⟩, ⟨[10], [18], [], []⟩, ⟨[17, 18], [19], [], []⟩, ⟨[0], [20], [], []⟩, ⟨[2], [21], [], []⟩, ⟨[10], [22], [], []⟩, ⟨[21, 22], [23], [], []⟩, ⟨[0], [24], [], []⟩, ⟨[2], [25], [], []⟩, ⟨[10], [26], [], []⟩, ⟨[25, 26], [27], [], []⟩, ⟨[24, 27], [28], [], []⟩, ⟨[28], [29], [0], []⟩, ⟨[0], [30], [], []⟩, ⟨[1], [31], [], []⟩, ⟨[10], [32], [], []⟩, ⟨[31, 32], [33], [], []⟩, ⟨[30, 33], [34], [], []⟩, ⟨[34], [35], [0], []⟩, ⟨[16, 19], [36], [], []⟩, ⟨[36, 29], [], [0], [0]⟩, ⟨[20, 23], [37], [], []⟩, ⟨[37, 35], [], [0], [0]⟩] mixed (by kernel_rfl) <| SMw rfl <| SMd rfl <| SMd rfl <| Sc (lo [17, 18] [] rfl fun S hs hr => op_add rfl rfl (vh hs 17 rfl rfl) (vh hs 18 rfl rfl)) rfl <| SMw rfl <| SMd rfl <| SMd rfl <| Sc (lo [21, 22] [] rfl fun S hs hr => op_add rfl rfl (vh hs 21 rfl rfl) (vh hs 22 rfl rfl)) rfl <| SMw rfl <| SMd rfl <| SMd rfl <| Sc (lo [25, 26] [] rfl fun S hs hr => op_add rfl rfl (vh hs 25 rfl rfl) (vh hs 26 rfl rfl)) rfl <| Sc (lo [24, 27] [] rfl fun S hs hr => op_indexoP (l := l9) hvl0_127 rfl rfl rfl sl122 (vh hs 24 rfl rfl) (vh hs 27 rfl rfl) he12) rfl <| Sc (lo [28] [0] rfl fun S hs hr => op_loado' 0 rfl rfl ty121 (vh hs 28 rfl rfl) ((hr 0 rfl).trans rfl) (lget_of he12).2) rfl <| SMw rfl <| SMd rfl <| SMd rfl <| Sc (lo [31, 32] [] rfl fun S hs hr => op_add rfl rfl (vh hs 31 rfl rfl) (vh hs 32 rfl rfl)) rfl <| Sc (lo [30, 33] [] rfl fun S hs hr => op_indexoP (l := l9) hvl0_127 rfl rfl rfl sl122 (vh hs 30 rfl rfl) (vh hs 33 rfl rfl) he13) rfl <| Sc (lo [34] [0] rfl fun S hs hr => op_loado' 0 rfl rfl ty121 (vh hs 34 rfl rfl) ((hr 0 rfl).trans rfl) (lget_of he13).2) rfl <| Sc (lo [16, 19] [] rfl fun S hs hr => op_indexoP (l := l9) hvl0_127 rfl rfl rfl sl122 (vh hs 16 rfl rfl) (vh hs 19 rfl rfl) he14) rfl <| Sc (locr [36, 29] [0] rfl fun S hs hr => op_storeo' 0 rfl rfl ty121 (vh hs 36 rfl rfl) ((hr 0 rfl).trans rfl) (lget_of he14).2 (vh hs 29 rfl rfl)) rfl <| Sc (lo [20, 23] [] rfl fun S hs hr => op_indexoP (l := (List.set l9 (IntKind.i64.wrap (a3 + i10)).toNat e12)) hvl0_127 (by simp) rfl rfl sl122 (vh hs 20 rfl rfl) (vh hs 23 rfl rfl) he15) rfl <| Sc (locr [37, 35] [0] rfl fun S hs hr => op_storeo' 0 rfl rfl ty121 (vh hs 37 rfl rfl) ((hr 0 rfl).trans rfl) (lget_of he15).2 (vh hs 35 rfl rfl)) rfl <| Rg <| Md rfl <| Ac (op_add rfl rfl (vt rfl) (vk rfl)) rfl <| As rfl <| Nl ?_
      subst hgo1
      exact ⟨(m11, (List.set (List.set l9 (IntKind.i64.wrap (a3 + i10)).toNat e12) (IntKind.i64.wrap (b4 + i10)).toNat e13), (IntKind.i64.wrap (i10 + 1))), Nat.lt_succ_self _, ⟨trivial, h⟩, ⟨rfl, ⟨rfl, rfl, rfl, rfl, rfl, trivial⟩, ⟨rfl, trivial⟩⟩⟩
    · have h := cond_f hc h
      refine AW.exit ?_
      obtain rfl := si h
      exact ret0Y (i := 0) Tryz.results343 rfl rfl
def F_slices_rotateCmpFunc_Action_l1 (m4 : Int) (cmp6 : (Action → Action → Option Int)) : Nat → (List Action) → Int → Int → Option (List Action)
  | 0, _, _, _ => none
  | m13 + 1, l10, i11, j12 => (bif (decide (i11 ≠ j12)) then (bif (decide (i11 > j12)) then (F_slices_swapRangeCmpFunc_Action l10 (IntKind.i64.wrap (m4 - i11)) m4 j12 cmp6).bind fun l14 => (F_slices_rotateCmpFunc_Action_l1 m4 cmp6 m13) l14 (IntKind.i64.wrap (i11 - j12)) j12 else (F_slices_swapRangeCmpFunc_Action l10 (IntKind.i64.wrap (m4 - i11)) (IntKind.i64.wrap ((IntKind.i64.wrap (m4 + j12)) - i11)) i11 cmp6).bind fun l15 => (F_slices_rotateCmpFunc_Action_l1 m4 cmp6 m13) l15 i11 (IntKind.i64.wrap (j12 - i11))) else (F_slices_swapRangeCmpFunc_Action l10 (IntKind.i64.wrap (m4 - i11)) m4 i11 cmp6).bind fun l16 => some l16)
def F_slices_rotateCmpFunc_Action (data1 : (List Action)) (a3 : Int) (m4 : Int) (b5 : Int) (cmp6 : (Action → Action → Option Int)) : Option (List Action) :=
  F_slices_rotateCmpFunc_Action_l1 m4 cmp6 fuel0 data1 (IntKind.i64.wrap (m4 - a3)) (IntKind.i64.wrap (b5 - m4))
theorem c_slices_rotateCmpFunc_Action_o (v2 : Value) (data1 : (List Action)) (a3 : Int) (m4 : Int) (b5 : Int) (cmp6 : (Action → Action → Option Int)) (r : (List Action)) (h : F_slices_rotateCmpFunc_Action data1 a3 m4 b5 cmp6 = some r) : Con Tryz.prog 335 [raw v2, rd (kint .i64) a3, rd (kint .i64) m4, rd (kint .i64) b5, fn2 Tryz.prog kAction kAction (kint .i64) cmp6] (Row v2 121 kAction data1) (fun _ : Unit => top) (fun _ => Row v2 121 kAction r) := by
  refine Con.intro Tryz.func335 rfl Tryz.ntmps335 rfl fun w H X => ?_
  unfold F_slices_rotateCmpFunc_Action at h
  refine SR <| Md rfl <| Md rfl <| Ac (op_sub rfl rfl (vt rfl) (vt rfl)) rfl <| As rfl <| Nl <| SR <| Md rfl <| Md rfl <| Ac (op_sub rfl rfl (vt rfl) (vt rfl)) rfl <| As rfl <| Nl <| AW.seq <| AW.block <| AW.loopG (d := []) (ν := Nat × (List Action) × Int × Int) (fun n => True ∧ F_slices_rotateCmpFunc_Action_l1 m4 cmp6 n.1 n.2.1 n.2.2.1 n.2.2.2 = some r) (fun n => n.1) (fun n => [(0, raw v2), (2, rd (kint .i64) m4), (4, fn2 Tryz.prog kAction kAction (kint .i64) cmp6), (10, rd (kint .i64) n.2.2.1), (11, rd (kint .i64) n.2.2.2)]) (fun n => [(0, Row v2 121 kAction n.2.1)]) (fuel0, data1, (IntKind.i64.wrap (m4 - a3)), (IntKind.i64.wrap (b5 - m4))) ⟨trivial, h⟩ ⟨rfl, ⟨rfl, rfl, rfl, rfl, rfl, trivial⟩, ⟨rfl, trivial⟩⟩ ?_
  rintro ⟨m13, l10, i11, j12⟩ ⟨hsf1, h⟩
  change True at hsf1
  change F_slices_rotateCmpFunc_Action_l1 m4 cmp6 m13 l10 i11 j12 = some r at h
  change AW _ _ _ ⟨slots [(0, raw v2), (2, rd (kint .i64) m4), (4, fn2 Tryz.prog kAction kAction (kint .i64) cmp6), (10, rd (kint .i64) i11), (11, rd (kint .i64) j12)], ress [(0, Row v2 121 kAction l10)], _⟩
  cases m13 with
  | zero => cases h
  | succ m13 =>
    unfold F_slices_rotateCmpFunc_Action_l1 at h
    generalize hgo1 : F_slices_rotateCmpFunc_Action_l1 m4 cmp6 m13 = go1 at h
    refine AW.seq <| SR <| Md rfl <| Md rfl <| Ac (op_neq rfl rfl (vt rfl) (vt rfl)) rfl <| Nl <| Cn rfl (fun hc => ?_) (fun hc => ?_)
    · have h := cond_t hc h
      refine AW.skip <| AW.block <| SR <| Md rfl <| Md rfl <| Ac (op_gtr rfl rfl (vt rfl) (vt rfl)) rfl <| Nl <| Cn rfl (fun hc => ?_) (fun hc => ?_)
      · have h := cond_t hc h
        refine AW.seq ?_
        obtain ⟨l14, hl14, h⟩ := bsome h
        refine Rg <| Mw rfl <| Md rfl <| Md rfl <| Ac (op_sub rfl rfl (vt rfl) (vt rfl)) rfl <| Md rfl <| Md rfl <| Ac (op_move (A := fn2 Tryz.prog kAction kAction (kint .i64) cmp6) rfl rfl (vt rfl)) rfl <| Ct rfl (op_callR 0 (xs := [.tmp 24, .tmp 27, .tmp 28, .tmp 29, .tmp 30]) (c_slices_swapRangeCmpFunc_Action_o _ _ _ _ _ _ _ hl14) e343 rfl rfl ⟨vt rfl, vt rfl, vt rfl, vt rfl, vt rfl, trivial⟩ rfl) ?_
        rintro _ ⟨_u, rfl⟩
        refine Nl <| Rg <| Md rfl <| Md rfl <| Ac (op_sub rfl rfl (vt rfl) (vt rfl)) rfl <| As rfl <| Nl ?_
        subst hgo1
        exact ⟨(m13, l14, (IntKind.i64.wrap (i11 - j12)), j12), Nat.lt_succ_self _, ⟨trivial, h⟩, ⟨rfl, ⟨rfl, rfl, rfl, rfl, rfl, trivial⟩, ⟨rfl, trivial⟩⟩⟩
      · have h := cond_f hc h
        refine AW.seq ?_
        obtain ⟨l15, hl15, h⟩ := bsome h
        refine Rg <| Mw rfl <| Md rfl <| Md rfl <| Ac (op_sub rfl rfl (vt rfl) (vt rfl)) rfl <| Md rfl <| Md rfl <| Ac (op_add rfl rfl (vt rfl) (vt rfl)) rfl <| Md rfl <| Ac (op_sub rfl rfl (vt rfl) (vt rfl)) rfl <| Md rfl <| Ac (op_move (A := fn2 Tryz.prog kAction kAction (kint .i64) cmp6) rfl rfl (vt rfl)) rfl <| Ct rfl (op_callR 0 (xs := [.tmp 35, .tmp 38, .tmp 43, .tmp 44, .tmp 45]) (c_slices_swapRangeCmpFunc_Action_o _ _ _ _ _ _ _ hl15) e343 rfl rfl ⟨vt rfl, vt rfl, vt rfl, vt rfl, vt rfl, trivial⟩ rfl) ?_
        rintro _ ⟨_u, rfl⟩
        refine Nl <| Rg <| Md rfl <| Md rfl <| Ac (op_sub rfl rfl (vt rfl) (vt rfl)) rfl <| As rfl <| Nl ?_
        subst hgo1
        exact ⟨(m13, l15, i11, (IntKind.i64.wrap (j12 - i11))), Nat.lt_succ_self _, ⟨trivial, h⟩, ⟨rfl, ⟨rfl, rfl, rfl, rfl, rfl, trivial⟩, ⟨rfl, trivial⟩⟩⟩
    · have h := cond_f hc h
      refine AW.exit ?_
      obtain ⟨l16, hl16, h⟩ := bsome h
      refine Rg <| Mw rfl <| Md rfl <| Md rfl <| Ac (op_sub rfl rfl (vt rfl) (vt rfl)) rfl <| Md rfl <| Md rfl <| Ac (op_move (A := fn2 Tryz.prog kAction kAction (kint .i64) cmp6) rfl rfl (vt rfl)) rfl <| Ct rfl (op_callR 0 (xs := [.tmp 50, .tmp 53, .tmp 54, .tmp 55, .tmp 56]) (c_slices_swapRangeCmpFunc_Action_o _ _ _ _ _ _ _ hl16) e343 rfl rfl ⟨vt rfl, vt rfl, vt rfl, vt rfl, vt rfl, trivial⟩ rfl) ?_
      rintro _ ⟨_u, rfl⟩
      refine Nl ?_
      obtain rfl := si h
      exact ret0Y (i := 0) Tryz.results335 rfl rfl
def F_slices_symMergeCmpFunc_Action_s_l2 (i9 : Int) : Nat → (List Action) → Int → Option (List Action)
  | 0, _, _ => none
  | m20 + 1, l18, k19 => (bif (decide (k19 < (IntKind.i64.wrap (i9 - 1)))) then (lget l18 (IntKind.i64.wrap (k19 + 1))).bind fun e21 => (lget l18 k19).bind fun e22 => (lget l18 k19).bind fun e23 => (lget (List.set l18 k19.toNat e21) (IntKind.i64.wrap (k19 + 1))).bind fun e24 => (F_slices_symMergeCmpFunc_Action_s_l2 i9 m20) (List.set (List.set l18 k19.toNat e21) (IntKind.i64.wrap (k19 + 1)).toNat e22) (IntKind.i64.wrap (k19 + 1)) else some l18)
def F_slices_symMergeCmpFunc_Action_s_l1 (data1 : (List Action)) (a3 : Int) (cmp6 : (Action → Action → Option Int)) : Nat → Int → Int → Option (List Action)
  | 0, _, _ => none
  | m11 + 1, i9, j10 => (bif (decide (i9 < j10)) then (oushr (BitVec.ofInt 64 (IntKind.i64.wrap (i9 + j10))) ((1 : BitVec 64).toNat : Int)).bind fun q12 => (lget data1 (IntKind.i64.wrap (q12.toNat : Int))).bind fun e13 => (lget data1 a3).bind fun e14 => (cmp6 e13 e14).bind fun x15 => (bif (decide (x15 < 0)) then (F_slices_symMergeCmpFunc_Action_s_l1 data1 a3 cmp6 m11) (IntKind.i64.wrap ((IntKind.i64.wrap (q12.toNat : Int)) + 1)) j10 else (F_slices_symMergeCmpFunc_Action_s_l1 data1 a3 cmp6 m11) i9 (IntKind.i64.wrap (q12.toNat : Int))) else F_slices_symMergeCmpFunc_Action_s_l2 i9 ((((IntKind.i64.wrap (i9 - 1)) : Int) - a3).toNat + 1) data1 a3)
def F_slices_symMergeCmpFunc_Action_s_l4 (i27 : Int) : Nat → (List Action) → Int → Option (List Action)
  | 0, _, _ => none
  | m38 + 1, l36, k37 => (bif (decide (k37 > i27)) then (lget l36 (IntKind.i64.wrap (k37 - 1))).bind fun e39 => (lget l36 k37).bind fun e40 => (lget l36 k37).bind fun e41 => (lget (List.set l36 k37.toNat e39) (IntKind.i64.wrap (k37 - 1))).bind fun e42 => (F_slices_symMergeCmpFunc_Action_s_l4 i27 m38) (List.set (List.set l36 k37.toNat e39) (IntKind.i64.wrap (k37 - 1)).toNat e40) (IntKind.i64.wrap (k37 - 1)) else some l36)
def F_slices_symMergeCmpFunc_Action_s_l3 (data1 : (List Action)) (m4 : Int) (cmp6 : (Action → Action → Option Int)) : Nat → Int → Int → Option (List Action)
  | 0, _, _ => none
  | m29 + 1, i27, j28 => (bif (decide (i27 < j28)) then (oushr (BitVec.ofInt 64 (IntKind.i64.wrap (i27 + j28))) ((1 : BitVec 64).toNat : Int)).bind fun q30 => (lget data1 m4).bind fun e31 => (lget data1 (IntKind.i64.wrap (q30.toNat : Int))).bind fun e32 => (cmp6 e31 e32).bind fun x33 => (bif (!(decide (x33 < 0))) then (F_slices_symMergeCmpFunc_Action_s_l3 data1 m4 cmp6 m29) (IntKind.i64.wrap ((IntKind.i64.wrap (q30.toNat : Int)) + 1)) j28 else (F_slices_symMergeCmpFunc_Action_s_l3 data1 m4 cmp6 m29) i27 (IntKind.i64.wrap (q30.toNat : Int))) else F_slices_symMergeCmpFunc_Action_s_l4 i27 (((m4 : Int) - i27).toNat + 1) data1 m4)
def F_slices_symMergeCmpFunc_Action_s_j8 (q43 : (BitVec 64)) (m4 : Int) (start48 : Int) (b5 : Int) (R_slices_symMergeCmpFunc_Action : ((List Action) → Int → Int → Int → (Action → Action → Option Int) → Option (List Action))) (cmp6 : (Action → Action → Option Int)) (l56 : (List Action)) : Option (List Action) :=
  (bif ((decide ((IntKind.i64.wrap (q43.toNat : Int)) < (IntKind.i64.wrap ((IntKind.i64.wrap ((IntKind.i64.wrap (q43.toNat : Int)) + m4)) - start48)))) && (decide ((IntKind.i64.wrap ((IntKind.i64.wrap ((IntKind.i64.wrap (q43.toNat : Int)) + m4)) - start48)) < b5))) then (R_slices_symMergeCmpFunc_Action l56 (IntKind.i64.wrap (q43.toNat : Int)) (IntKind.i64.wrap ((IntKind.i64.wrap ((IntKind.i64.wrap (q43.toNat : Int)) + m4)) - start48)) b5 cmp6).bind fun l57 => some l57 else some l56)
def F_slices_symMergeCmpFunc_Action_s_j7 (a3 : Int) (start48 : Int) (q43 : (BitVec 64)) (R_slices_symMergeCmpFunc_Action : ((List Action) → Int → Int → Int → (Action → Action → Option Int) → Option (List Action))) (cmp6 : (Action → Action → Option Int)) (m4 : Int) (b5 : Int) (l55 : (List Action)) : Option (List Action) :=
  (bif ((decide (a3 < start48)) && (decide (start48 < (IntKind.i64.wrap (q43.toNat : Int))))) then (R_slices_symMergeCmpFunc_Action l55 a3 start48 (IntKind.i64.wrap (q43.toNat : Int)) cmp6).bind fun l58 => F_slices_symMergeCmpFunc_Action_s_j8 q43 m4 start48 b5 R_slices_symMergeCmpFunc_Action cmp6 l58 else F_slices_symMergeCmpFunc_Action_s_j8 q43 m4 start48 b5 R_slices_symMergeCmpFunc_Action cmp6 l55)
def F_slices_symMergeCmpFunc_Action_s_l6 (data1 : (List Action)) (q43 : (BitVec 64)) (m4 : Int) (cmp6 : (Action → Action → Option Int)) (a3 : Int) (R_slices_symMergeCmpFunc_Action : ((List Action) → Int → Int → Int → (Action → Action → Option Int) → Option (List Action))) (b5 : Int) : Nat → Int → Int → Option (List Action)
  | 0, _, _ => none
  | m50 + 1, start48, r49 => (bif (decide (start48 < r49)) then (oushr (BitVec.ofInt 64 (IntKind.i64.wrap (start48 + r49))) ((1 : BitVec 64).toNat : Int)).bind fun q51 => (lget data1 (IntKind.i64.wrap ((IntKind.i64.wrap ((IntKind.i64.wrap ((IntKind.i64.wrap (q43.toNat : Int)) + m4)) - 1)) - (IntKind.i64.wrap (q51.toNat : Int))))).bind fun e52 => (lget data1 (IntKind.i64.wrap (q51.toNat : Int))).bind fun e53 => (cmp6 e52 e53).bind fun x54 => (bif (!(decide (x54 < 0))) then (F_slices_symMergeCmpFunc_Action_s_l6 data1 q43 m4 cmp6 a3 R_slices_symMergeCmpFunc_Action b5 m50) (IntKind.i64.wrap ((IntKind.i64.wrap (q51.toNat : Int)) + 1)) r49 else (F_slices_symMergeCmpFunc_Action_s_l6 data1 q43 m4 cmp6 a3 R_slices_symMergeCmpFunc_Action b5 m50) start48 (IntKind.i64.wrap (q51.toNat : Int))) else (bif ((decide (start48 < m4)) && (decide (m4 < (IntKind.i64.wrap ((IntKind.i64.wrap ((IntKind.i64.wrap (q43.toNat : Int)) + m4)) - start48))))) then (F_slices_rotateCmpFunc_Action data1 start48 m4 (IntKind.i64.wrap ((IntKind.i64.wrap ((IntKind.i64.wrap (q43.toNat : Int)) + m4)) - start48)) cmp6).bind fun l59 => F_slices_symMergeCmpFunc_Action_s_j7 a3 start48 q43 R_slices_symMergeCmpFunc_Action cmp6 m4 b5 l59 else F_slices_symMergeCmpFunc_Action_s_j7 a3 start48 q43 R_slices_symMergeCmpFunc_Action cmp6 m4 b5 data1))
def F_slices_symMergeCmpFunc_Action_s_j5 (data1 : (List Action)) (q43 : (BitVec 64)) (m4 : Int) (cmp6 : (Action → Action → Option Int)) (a3 : Int) (R_slices_symMergeCmpFunc_Action : ((List Action) → Int → Int → Int → (Action → Action → Option Int) → Option (List Action))) (b5 : Int) (start44 : Int) (r45 : Int) : Option (List Action) :=
  F_slices_symMergeCmpFunc_Action_s_l6 data1 q43 m4 cmp6 a3 R_slices_symMergeCmpFunc_Action b5 (((r45 : Int) - start44).toNat + 1) start44 r45
def F_slices_symMergeCmpFunc_Action_s (R_slices_symMergeCmpFunc_Action : ((List Action) → Int → Int → Int → (Action → Action → Option Int) → Option (List Action))) (data1 : (List Action)) (a3 : Int) (m4 : Int) (b5 : Int) (cmp6 : (Action → Action → Option Int)) : Option (List Action) :=
  (bif (decide ((IntKind.i64.wrap (m4 - a3)) = 1)) then F_slices_symMergeCmpFunc_Action_s_l1 data1 a3 cmp6 (((b5 : Int) - m4).toNat + 1) m4 b5 else (bif (decide ((IntKind.i64.wrap (b5 - m4)) = 1)) then F_slices_symMergeCmpFunc_Action_s_l3 data1 m4 cmp6 (((m4 : Int) - a3).toNat + 1) a3 m4 else (oushr (BitVec.ofInt 64 (IntKind.i64.wrap (a3 + b5))) ((1 : BitVec 64).toNat : Int)).bind fun q43 => (bif (decide (m4 > (IntKind.i64.wrap (q43.toNat : Int)))) then F_slices_symMergeCmpFunc_Action_s_j5 data1 q43 m4 cmp6 a3 R_slices_symMergeCmpFunc_Action b5 (IntKind.i64.wrap ((IntKind.i64.wrap ((IntKind.i64.wrap (q43.toNat : Int)) + m4)) - b5)) (IntKind.i64.wrap (q43.toNat : Int)) else F_slices_symMergeCmpFunc_Action_s_j5 data1 q43 m4 cmp6 a3 R_slices_symMergeCmpFunc_Action b5 a3 m4)))
theorem c_slices_symMergeCmpFunc_Action_s (R_slices_symMergeCmpFunc_Action : ((List Action) → Int → Int → Int → (Action → Action → Option Int) → Option (List Action))) (hR_slices_symMergeCmpFunc_Action : ∀ (v2 : Value) (data1 : (List Action)) (a3 : Int) (m4 : Int) (b5 : Int) (cmp6 : (Action → Action → Option Int)) (r : (List Action)), R_slices_symMergeCmpFunc_Action data1 a3 m4 b5 cmp6 = some r → Con Tryz.prog 311 [raw v2, rd (kint .i64) a3, rd (kint .i64) m4, rd (kint .i64) b5, fn2 Tryz.prog kAction kAction (kint .i64) cmp6] (Row v2 121 kAction data1) (fun _ : Unit => top) (fun _ => Row v2 121 kAction r)) (v2 : Value) (data1 : (List Action)) (a3 : Int) (m4 : Int) (b5 : Int) (cmp6 : (Action → Action → Option Int)) (r : (List Action)) (h : F_slices_symMergeCmpFunc_Action_s R_slices_symMergeCmpFunc_Action data1 a3 m4 b5 cmp6 = some r) : Con Tryz.prog 311 [raw v2, rd (kint .i64) a3, rd (kint .i64) m4, rd (kint .i64) b5, fn2 Tryz.prog kAction kAction (kint .i64) cmp6] (Row v2 121 kAction data1) (fun _ : Unit => top) (fun _ => Row v2 121 kAction r) := by
  refine Con.intro Tryz.func311 rfl Tryz.ntmps311 rfl fun w H X => ?_
  unfold F_slices_symMergeCmpFunc_Action_s at h
  refine AW.seq <| SR <| Md rfl <| Md rfl <| Ac (op_sub rfl rfl (vt rfl) (vt rfl)) rfl <| Ac (op_eql rfl rfl (vt rfl) (vk rfl)) rfl <| Nl <| Cn rfl (fun hc => ?_) (fun hc => ?_)
  · have h := cond_t hc h
    refine SR <| Md rfl <| As rfl <| Nl <| SR <| Md rfl <| As rfl <| Nl <| AW.seq <| AW.block <| AW.loopG (d := []) (ν := Nat × Int × Int) (fun n => True ∧ F_slices_symMergeCmpFunc_Action_s_l1 data1 a3 cmp6 n.1 n.2.1 n.2.2 = some r) (fun n => n.1) (fun n => [(0, raw v2), (1, rd (kint .i64) a3), (4, fn2 Tryz.prog kAction kAction (kint .i64) cmp6), (10, rd (kint .i64) n.2.1), (11, rd (kint .i64) n.2.2)]) (fun n => [(0, Row v2 121 kAction data1)]) ((((b5 : Int) - m4).toNat + 1), m4, b5) ⟨trivial, h⟩ ⟨rfl, ⟨rfl, rfl, rfl, rfl, rfl, trivial⟩, ⟨rfl, trivial⟩⟩ ?_
    rintro ⟨m11, i9, j10⟩ ⟨hsf1, h⟩
    change True at hsf1
    change F_slices_symMergeCmpFunc_Action_s_l1 data1 a3 cmp6 m11 i9 j10 = some r at h
    change AW _ _ _ ⟨slots [(0, raw v2), (1, rd (kint .i64) a3), (4, fn2 Tryz.prog kAction kAction (kint .i64) cmp6), (10, rd (kint .i64) i9), (11, rd (kint .i64) j10)], ress [(0, Row v2 121 kAction data1)], _⟩
    cases m11 with
    | zero => cases h
    | succ m11 =>
      unfold F_slices_symMergeCmpFunc_Action_s_l1 at h
      generalize hgo1 : F_slices_symMergeCmpFunc_Action_s_l1 data1 a3 cmp6 m11 = go1 at h
      refine AW.seq <| SR <| Md rfl <| Md rfl <| Ac (op_lss rfl rfl (vt rfl) (vt rfl)) rfl <| Nl <| Cn rfl (fun hc => ?_) (fun hc => ?_)
      · have h := cond_t hc h
        refine AW.skip <| AW.block <| AW.seq ?_
        obtain ⟨q12, hq12, h⟩ := bsome h
        refine Rg <| Md rfl <| Md rfl <| Ac (op_add rfl rfl (vt rfl) (vt rfl)) rfl <| Ac (op_convu rfl rfl us3 un360 (vt rfl)) rfl <| Ac (op_ushr rfl rfl (vt rfl) (vu64 (vku (1 : BitVec 64) rfl)) hq12) rfl <| Ac (op_uconv rfl rfl us360 un3 (vt rfl)) rfl <| As rfl <| Nl <| AW.seq ?_
        obtain ⟨e13, he13, h⟩ := bsome h
        obtain ⟨e14, he14, h⟩ := bsome h
        obtain ⟨x15, hx15, h⟩ := bsome h
        refine AW.regionAny [⟨[4], [40], [], []⟩, ⟨[0], [41], [], []⟩, ⟨[12], [42], [], []⟩, ⟨[41, 42], [43], [0], []⟩, ⟨[43], [44], [0], []⟩, ⟨[0], [45], [], []⟩, ⟨[1], [46], [], []⟩, ⟨[45, 46], [47], [0], []⟩, ⟨[47], [48], [0], []⟩, ⟨[40, 44, 48], [49], [], []⟩, ⟨[49], [50], [], []⟩] mixed (by kernel_rfl) <| Sc (lo [4] [] rfl fun S hs hr => op_move (A := fn2 Tryz.prog kAction kAction (kint .i64) cmp6) rfl rfl (vh hs 4 rfl rfl)) rfl <| SMw rfl <| SMd rfl <| Sc (lo [41, 42] [0] rfl fun S hs hr => op_indexo' 0 rfl rfl sl122 (vh hs 41 rfl rfl) ((hr 0 rfl).trans rfl) (vh hs 42 rfl rfl) he13) rfl <| Sc (lo [43] [0] rfl fun S hs hr => op_loado' 0 rfl rfl ty121 (vh hs 43 rfl rfl) ((hr 0 rfl).trans rfl) (lget_of he13).2) rfl <| SMw rfl <| SMd rfl <| Sc (lo [45, 46] [0] rfl fun S hs hr => op_indexo' 0 rfl rfl sl122 (vh hs 45 rfl rfl) ((hr 0 rfl).trans rfl) (vh hs 46 rfl rfl) he14) rfl <| Sc (lo [47] [0] rfl fun S hs hr => op_loado' 0 rfl rfl ty121 (vh hs 47 rfl rfl) ((hr 0 rfl).trans rfl) (lget_of he14).2) rfl <| Sc (lo [40, 44, 48] [] rfl fun S hs hr => op_call2 hx15 rfl rfl (vh hs 40 rfl rfl) (vh hs 44 rfl rfl) (vh hs 48 rfl rfl)) rfl <| Sc (lo [49] [] rfl fun S hs hr => op_lss rfl rfl (vh hs 49 rfl rfl) (vk rfl)) rfl <| Cn rfl (fun hc => ?_) (fun hc => ?_)
        · have h := cond_t hc h
          refine Rg <| Md rfl <| Ac (op_add rfl rfl (vt rfl) (vk rfl)) rfl <| As rfl <| Nl ?_
          subst hgo1
          exact ⟨(m11, (IntKind.i64.wrap ((IntKind.i64.wrap (q12.toNat : Int)) + 1)), j10), Nat.lt_succ_self _, ⟨trivial, h⟩, ⟨rfl, ⟨rfl, rfl, rfl, rfl, rfl, trivial⟩, ⟨rfl, trivial⟩⟩⟩
        · have h := cond_f hc h
          refine Rg <| Md rfl <| As rfl <| Nl ?_
          subst hgo1
          exact ⟨(m11, i9, (IntKind.i64.wrap (q12.toNat : Int))), Nat.lt_succ_self _, ⟨trivial, h⟩, ⟨rfl, ⟨rfl, rfl, rfl, rfl, rfl, trivial⟩, ⟨rfl, trivial⟩⟩⟩
      · have h := cond_f hc h
        refine AW.exit <| AW.seq <| SR <| Md rfl <| As rfl <| Nl <| AW.block <| AW.loopG (d := []) (ν := Nat × (List Action) × Int) (fun n => True ∧ F_slices_symMergeCmpFunc_Action_s_l2 i9 n.1 n.2.1 n.2.2 = some r) (fun n => n.1) (fun n => [(0, raw v2), (10, rd (kint .i64) i9), (13, rd (kint .i64) n.2.2)]) (fun n => [(0, Row v2 121 kAction n.2.1)]) (((((IntKind.i64.wrap (i9 - 1)) : Int) - a3).toNat + 1), data1, a3) ⟨trivial, h⟩ ⟨rfl, ⟨rfl, rfl, rfl, trivial⟩, ⟨rfl, trivial⟩⟩ ?_
        rintro ⟨m20, l18, k19⟩ ⟨hsf2, h⟩
        change True at hsf2
        change F_slices_symMergeCmpFunc_Action_s_l2 i9 m20 l18 k19 = some r at h
        change AW _ _ _ ⟨slots [(0, raw v2), (10, rd (kint .i64) i9), (13, rd (kint .i64) k19)], ress [(0, Row v2 121 kAction l18)], _⟩
        cases m20 with
        | zero => cases h
        | succ m20 =>
          unfold F_slices_symMergeCmpFunc_Action_s_l2 at h
          generalize hgo2 : F_slices_symMergeCmpFunc_Action_s_l2 i9 m20 = go2 at h
          refine AW.seq <| SR <| Md rfl <| Md rfl <| Ac (op_sub rfl rfl (vt rfl) (vk rfl)) rfl <| Ac (op_lss rfl rfl (vt rfl) (vt rfl)) rfl <| Nl <| Cn rfl (fun hc => ?_) (fun hc => ?_)
          · have h := cond_t hc h
            refine AW.skip <| AW.seq <| AW.block <| AW.vlen 0 rfl fun hvl0_218 => ?_
            obtain ⟨e21, he21, h⟩ := bsome h
            obtain ⟨e22, he22, h⟩ := bsome h
            obtain ⟨e23, he23, h⟩ := bsome h
            obtain ⟨e24, he24, h⟩ := bsome h
            refine AW.regionAny [⟨[0], [61], [], []⟩, ⟨[13], [62], [], []⟩, ⟨[0], [63], [], []⟩, ⟨[13], [64], [], []⟩, ⟨[64], [65], [], []⟩, ⟨[0], [66], [], []⟩, ⟨[13], [67], [], []⟩, ⟨[67], [68], [], []⟩, ⟨[66, 68], [69], [], []⟩, ⟨[69], [70], [0], []⟩, ⟨[0], [71], [], []⟩, ⟨[13], [72], [], []⟩, ⟨[71, 72], [73], [], []⟩, ⟨[73], [74], [0], []⟩, ⟨[61, 62], [75], [], []⟩, ⟨[75, 70], [], [0], [0]⟩, ⟨[63, 65], [76], [], []⟩, ⟨[76, 74], [], [0], [0]⟩] mixed (by kernel_rfl) <| SMw rfl <| SMd rfl <| SMw rfl <| SMd rfl <| Sc (lo [64] [] rfl fun S hs hr => op_add rfl rfl (vh hs 64 rfl rfl) (vk rfl)) rfl <| SMw rfl <| SMd rfl <| Sc (lo [67] [] rfl fun S hs hr => op_add rfl rfl (vh hs 67 rfl rfl) (vk rfl)) rfl <| Sc (lo [66, 68] [] rfl fun S hs hr => op_indexoP (l := l18) hvl0_218 rfl rfl rfl sl122 (vh hs 66 rfl rfl) (vh hs 68 rfl rfl) he21) rfl <| Sc (lo [69] [0] rfl fun S hs hr => op_loado' 0 rfl rfl ty121 (vh hs 69 rfl rfl) ((hr 0 rfl).trans rfl) (lget_of he21).2) rfl <| SMw rfl <| SMd rfl <| Sc (lo [71, 72] [] rfl fun S hs hr => op_indexoP (l := l18) hvl0_218 rfl rfl rfl sl122 (vh hs 71 rfl rfl) (vh hs 72 rfl rfl) he22) rfl <| Sc (lo [73] [0] rfl fun S hs hr => op_loado' 0 rfl rfl ty121 (vh hs 73 rfl rfl) ((hr 0 rfl).trans rfl) (lget_of he22).2) rfl <| Sc (lo [61, 62] [] rfl fun S hs hr => op_indexoP (l := l18) hvl0_218 rfl rfl rfl sl122 (vh hs 61 rfl rfl) (vh hs 62 rfl rfl) he23) rfl <| Sc (locr [75, 70] [0] rfl fun S hs hr => op_storeo' 0 rfl rfl ty121 (vh hs 75 rfl rfl) ((hr 0 rfl).trans rfl) (lget_of he23).2 (vh hs 70 rfl rfl)) rfl <| Sc (lo [63, 65] [] rfl fun S hs hr => op_indexoP (l := (List.set l18 k19.toNat e21)) hvl0_218 (by simp) rfl rfl sl122 (vh hs 63 rfl rfl) (vh hs 65 rfl rfl) he24) rfl <| Sc (locr [76, 74] [0] rfl fun S hs hr => op_storeo' 0 rfl rfl ty121 (vh hs 76 rfl rfl) ((hr 0 rfl).trans rfl) (lget_of he24).2 (vh hs 74 rfl rfl)) rfl <| Rg <| Md rfl <| Ac (op_add rfl rfl (vt rfl) (vk rfl)) rfl <| As rfl <| Nl ?_
            subst hgo2
            exact ⟨(m20, (List.set (List.set l18 k19.toNat e21) (IntKind.i64.wrap (k19 + 1)).toNat e22), (IntKind.i64.wrap (k19 + 1))), Nat.lt_succ_self _, ⟨trivial, h⟩, ⟨rfl, ⟨rfl, rfl, rfl, trivial⟩, ⟨rfl, trivial⟩⟩⟩
          · have h := cond_f hc h
            refine AW.exit <| AW.ret ?_
            obtain rfl := si h
            exact ret0Y (i := 0) Tryz.results311 rfl rfl
  · have h := cond_f hc h
    refine AW.skip <| AW.seq <| SR <| Md rfl <| Md rfl <| Ac (op_sub rfl rfl (vt rfl) (vt rfl)) rfl <| Ac (op_eql rfl rfl (vt rfl) (vk rfl)) rfl <| Nl <| Cn rfl (fun hc => ?_) (fun hc => ?_)
    · have h := cond_t hc h
      refine SR <| Md rfl <| As rfl <| Nl <| SR <| Md rfl <| As rfl <| Nl <| AW.seq <| AW.block <| AW.loopG (d := []) (ν := Nat × Int × Int) (fun n => True ∧ F_slices_symMergeCmpFunc_Action_s_l3 data1 m4 cmp6 n.1 n.2.1 n.2.2 = some r) (fun n => n.1) (fun n => [(0, raw v2), (2, rd (kint .i64) m4), (4, fn2 Tryz.prog kAction kAction (kint .i64) cmp6), (14, rd (kint .i64) n.2.1), (15, rd (kint .i64) n.2.2)]) (fun n => [(0, Row v2 121 kAction data1)]) ((((m4 : Int) - a3).toNat + 1), a3, m4) ⟨trivial, h⟩ ⟨rfl, ⟨rfl, rfl, rfl, rfl, rfl, trivial⟩, ⟨rfl, trivial⟩⟩ ?_
      rintro ⟨m29, i27, j28⟩ ⟨hsf3, h⟩
      change True at hsf3
      change F_slices_symMergeCmpFunc_Action_s_l3 data1 m4 cmp6 m29 i27 j28 = some r at h
      change AW _ _ _ ⟨slots [(0, raw v2), (2, rd (kint .i64) m4), (4, fn2 Tryz.prog kAction kAction (kint .i64) cmp6), (14, rd (kint .i64) i27), (15, rd (kint .i64) j28)], ress [(0, Row v2 121 kAction data1)], _⟩
      cases m29 with
      | zero => cases h
      | succ m29 =>
        unfold F_slices_symMergeCmpFunc_Action_s_l3 at h
        generalize hgo3 : F_slices_symMergeCmpFunc_Action_s_l3 data1 m4 cmp6 m29 = go3 at h
        refine AW.seq <| SR <| Md rfl <| Md rfl <| Ac (op_lss rfl rfl (vt rfl) (vt rfl)) rfl <| Nl <| Cn rfl (fun hc => ?_) (fun hc => ?_)
        · have h := cond_t hc h
          refine AW.skip <| AW.block <| AW.seq ?_
          obtain ⟨q30, hq30, h⟩ := bsome h
          refine Rg <| Md rfl <| Md rfl <| Ac (op_add rfl rfl (vt rfl) (vt rfl)) rfl <| Ac (op_convu rfl rfl us3 un360 (vt rfl)) rfl <| Ac (op_ushr rfl rfl (vt rfl) (vu64 (vku (1 : BitVec 64) rfl)) hq30) rfl <| Ac (op_uconv rfl rfl us360 un3 (vt rfl)) rfl <| As rfl <| Nl <| AW.seq ?_
          obtain ⟨e31, he31, h⟩ := bsome h
          obtain ⟨e32, he32, h⟩ := bsome h
          obtain ⟨x33, hx33, h⟩ := bsome h
          refine AW.regionAny [⟨[4], [92], [], []⟩, ⟨[0], [93], [], []⟩, ⟨[2], [94], [], []⟩, ⟨[93, 94], [95], [0], []⟩, ⟨[95], [96], [0], []⟩, ⟨[0], [97], [], []⟩, ⟨[16], [98], [], []⟩, ⟨[97, 98], [99], [0], []⟩, ⟨[99], [100], [0], []⟩, ⟨[92, 96, 100], [101], [], []⟩, ⟨[101], [102], [], []⟩, ⟨[102], [103], [], []⟩] mixed (by kernel_rfl) <| Sc (lo [4] [] rfl fun S hs hr => op_move (A := fn2 Tryz.prog kAction kAction (kint .i64) cmp6) rfl rfl (vh hs 4 rfl rfl)) rfl <| SMw rfl <| SMd rfl <| Sc (lo [93, 94] [0] rfl fun S hs hr => op_indexo' 0 rfl rfl sl122 (vh hs 93 rfl rfl) ((hr 0 rfl).trans rfl) (vh hs 94 rfl rfl) he31) rfl <| Sc (lo [95] [0] rfl fun S hs hr => op_loado' 0 rfl rfl ty121 (vh hs 95 rfl rfl) ((hr 0 rfl).trans rfl) (lget_of he31).2) rfl <| SMw rfl <| SMd rfl <| Sc (lo [97, 98] [0] rfl fun S hs hr => op_indexo' 0 rfl rfl sl122 (vh hs 97 rfl rfl) ((hr 0 rfl).trans rfl) (vh hs 98 rfl rfl) he32) rfl <| Sc (lo [99] [0] rfl fun S hs hr => op_loado' 0 rfl rfl ty121 (vh hs 99 rfl rfl) ((hr 0 rfl).trans rfl) (lget_of he32).2) rfl <| Sc (lo [92, 96, 100] [] rfl fun S hs hr => op_call2 hx33 rfl rfl (vh hs 92 rfl rfl) (vh hs 96 rfl rfl) (vh hs 100 rfl rfl)) rfl <| Sc (lo [101] [] rfl fun S hs hr => op_lss rfl rfl (vh hs 101 rfl rfl) (vk rfl)) rfl <| Sc (lo [102] [] rfl fun S hs hr => op_not rfl rfl (vh hs 102 rfl rfl)) rfl <| Cn rfl (fun hc => ?_) (fun hc => ?_)
          · have h := cond_t hc h
            refine Rg <| Md rfl <| Ac (op_add rfl rfl (vt rfl) (vk rfl)) rfl <| As rfl <| Nl ?_
            subst hgo3
            exact ⟨(m29, (IntKind.i64.wrap ((IntKind.i64.wrap (q30.toNat : Int)) + 1)), j28), Nat.lt_succ_self _, ⟨trivial, h⟩, ⟨rfl, ⟨rfl, rfl, rfl, rfl, rfl, trivial⟩, ⟨rfl, trivial⟩⟩⟩
          · have h := cond_f hc h
            refine Rg <| Md rfl <| As rfl <| Nl ?_
            subst hgo3
            exact ⟨(m29, i27, (IntKind.i64.wrap (q30.toNat : Int))), Nat.lt_succ_self _, ⟨trivial, h⟩, ⟨rfl, ⟨rfl, rfl, rfl, rfl, rfl, trivial⟩, ⟨rfl, trivial⟩⟩⟩
        · have h := cond_f hc h
          refine AW.exit <| AW.seq <| SR <| Md rfl <| As rfl <| Nl <| AW.block <| AW.loopG (d := []) (ν := Nat × (List Action) × Int) (fun n => True ∧ F_slices_symMergeCmpFunc_Action_s_l4 i27 n.1 n.2.1 n.2.2 = some r) (fun n => n.1) (fun n => [(0, raw v2), (14, rd (kint .i64) i27), (17, rd (kint .i64) n.2.2)]) (fun n => [(0, Row v2 121 kAction n.2.1)]) ((((m4 : Int) - i27).toNat + 1), data1, m4) ⟨trivial, h⟩ ⟨rfl, ⟨rfl, rfl, rfl, trivial⟩, ⟨rfl, trivial⟩⟩ ?_
          rintro ⟨m38, l36, k37⟩ ⟨hsf4, h⟩
          change True at hsf4
          change F_slices_symMergeCmpFunc_Action_s_l4 i27 m38 l36 k37 = some r at h
          change AW _ _ _ ⟨slots [(0, raw v2), (14, rd (kint .i64) i27), (17, rd (kint .i64) k37)], ress [(0, Row v2 121 kAction l36)], _⟩
          cases m38 with
          | zero => cases h
          | succ m38 =>
            unfold F_slices_symMergeCmpFunc_Action_s_l4 at h
            generalize hgo4 : F_slices_symMergeCmpFunc_Action_s_l4 i27 m38 = go4 at h
            refine AW.seq <| SR <| Md rfl <| Md rfl <| Ac (op_gtr rfl rfl (vt rfl) (vt rfl)) rfl <| Nl <| Cn rfl (fun hc => ?_) (fun hc => ?_)
            · have h := cond_t hc h
              refine AW.skip <| AW.seq <| AW.block <| AW.vlen 0 rfl fun hvl0_474 => ?_
              obtain ⟨e39, he39, h⟩ := bsome h
              obtain ⟨e40, he40, h⟩ := bsome h
              obtain ⟨e41, he41, h⟩ := bsome h
              obtain ⟨e42, he42, h⟩ := bsome h
              refine AW.regionAny [⟨[0], [113], [], []⟩, ⟨[17], [114], [], []⟩, ⟨[0], [115], [], []⟩, ⟨[17], [116], [], []⟩, ⟨[116], [117], [], []⟩, ⟨[0], [118], [], []⟩, ⟨[17], [119], [], []⟩, ⟨[119], [120], [], []⟩, ⟨[118, 120], [121], [], []⟩, ⟨[121], [122], [0], []⟩, ⟨[0], [123], [], []⟩, ⟨[17], [124], [], []⟩, ⟨[123, 124], [125], [], []⟩, ⟨[125], [126], [0], []⟩, ⟨[113, 114], [127], [], []⟩, ⟨[127, 122], [], [0], [0]⟩, ⟨[115, 117], [128], [], []⟩, ⟨[128, 126], [], [0], [0]⟩] mixed (by kernel_rfl) <| SMw rfl <| SMd rfl <| SMw rfl <| SMd rfl <| Sc (lo [116] [] rfl fun S hs hr => op_sub rfl rfl (vh hs 116 rfl rfl) (vk rfl)) rfl <| SMw rfl <| SMd rfl <| Sc (lo [119] [] rfl fun S hs hr => op_sub rfl rfl (vh hs 119 rfl rfl) (vk rfl)) rfl <| Sc (lo [118, 120] [] rfl fun S hs hr => op_indexoP (l := l36) hvl0_474 rfl rfl rfl sl122 (vh hs 118 rfl rfl) (vh hs 120 rfl rfl) he39) rfl <| Sc (lo [121] [0] rfl fun S hs hr => op_loado' 0 rfl rfl ty121 (vh hs 121 rfl rfl) ((hr 0 rfl).trans rfl) (lget_of he39).2) rfl <| SMw rfl <| SMd rfl <| Sc (lo [123, 124] [] rfl fun S hs hr => op_indexoP (l := l36) hvl0_474 rfl rfl rfl sl122 (vh hs 123 rfl rfl) (vh hs 124 rfl rfl) he40) rfl <| Sc (lo [125] [0] rfl fun S hs hr => op_loado' 0 rfl rfl ty121 (vh hs 125 rfl rfl) ((hr 0 rfl).trans rfl) (lget_of he40).2) rfl <| Sc (lo [113, 114] [] rfl fun S hs hr => op_indexoP (l := l36) hvl0_474 rfl rfl rfl sl122 (vh hs 113 rfl rfl) (vh hs 114 rfl rfl) he41) rfl <| Sc (locr [127, 122] [0] rfl fun S hs hr => op_storeo' 0 rfl rfl ty121 (vh hs 127 rfl rfl) ((hr 0 rfl).trans rfl) (lget_of he41).2 (vh hs 122 rfl rfl)) rfl <| Sc (lo [115, 117] [] rfl fun S hs hr => op_indexoP (l := (List.set l36 k37.toNat e39)) hvl0_474 (by simp) rfl rfl sl122 (vh hs 115 rfl rfl) (vh hs 117 rfl rfl) he42) rfl <| Sc (locr [128, 126] [0] rfl fun S hs hr => op_storeo' 0 rfl rfl ty121 (vh hs 128 rfl rfl) ((hr 0 rfl).trans rfl) (lget_of he42).2 (vh hs 126 rfl rfl)) rfl <| Rg <| Md rfl <| Ac (op_sub rfl rfl (vt rfl) (vk rfl)) rfl <| As rfl <| Nl ?_
              subst hgo4
              exact ⟨(m38, (List.set (List.set l36 k37.toNat e39) (IntKind.i64.wrap (k37 - 1)).toNat e40), (IntKind.i64.wrap (k37 - 1))), Nat.lt_succ_self _, ⟨trivial, h⟩, ⟨rfl, ⟨rfl, rfl, rfl, trivial⟩, ⟨rfl, trivial⟩⟩⟩
            · have h := cond_f hc h
              refine AW.exit <| AW.ret ?_
              obtain rfl := si h
              exact ret0Y (i := 0) Tryz.results311 rfl rfl
    · have h := cond_f hc h
      refine AW.skip <| AW.seq ?_
      obtain ⟨q43, hq43, h⟩ := bsome h
      refine Rg <| Md rfl <| Md rfl <| Ac (op_add rfl rfl (vt rfl) (vt rfl)) rfl <| Ac (op_convu rfl rfl us3 un360 (vt rfl)) rfl <| Ac (op_ushr rfl rfl (vt rfl) (vu64 (vku (1 : BitVec 64) rfl)) hq43) rfl <| Ac (op_uconv rfl rfl us360 un3 (vt rfl)) rfl <| As rfl <| Nl <| SR <| Md rfl <| Md rfl <| Ac (op_add rfl rfl (vt rfl) (vt rfl)) rfl <| As rfl <| Nl <| SR <| Ak rfl <| Ak rfl <| Nl ?_
      refine AW.join (d := []) (ν := Int × Int) (fun n => F_slices_symMergeCmpFunc_Action_s_j5 data1 q43 m4 cmp6 a3 R_slices_symMergeCmpFunc_Action b5 n.1 n.2 = some r) (fun n => [(0, raw v2), (1, rd (kint .i64) a3), (2, rd (kint .i64) m4), (3, rd (kint .i64) b5), (4, fn2 Tryz.prog kAction kAction (kint .i64) cmp6), (18, rd (kint .i64) (IntKind.i64.wrap (q43.toNat : Int))), (19, rd (kint .i64) (IntKind.i64.wrap ((IntKind.i64.wrap (q43.toNat : Int)) + m4))), (20, rd (kint .i64) n.1), (21, rd (kint .i64) n.2)]) (fun n => [(0, Row v2 121 kAction data1)]) ?hx5 ?hy5
      case hy5 =>
        rintro ⟨start44, r45⟩ h
        unfold F_slices_symMergeCmpFunc_Action_s_j5 at h
        change AW _ _ _ ⟨slots [(0, raw v2), (1, rd (kint .i64) a3), (2, rd (kint .i64) m4), (3, rd (kint .i64) b5), (4, fn2 Tryz.prog kAction kAction (kint .i64) cmp6), (18, rd (kint .i64) (IntKind.i64.wrap (q43.toNat : Int))), (19, rd (kint .i64) (IntKind.i64.wrap ((IntKind.i64.wrap (q43.toNat : Int)) + m4))), (20, rd (kint .i64) start44), (21, rd (kint .i64) r45)], ress [(0, Row v2 121 kAction data1)], _⟩
        refine SR <| Md rfl <| Ac (op_sub rfl rfl (vt rfl) (vk rfl)) rfl <| As rfl <| Nl <| AW.seq <| AW.block <| AW.loopG (d := []) (ν := Nat × Int × Int) (fun n => True ∧ F_slices_symMergeCmpFunc_Action_s_l6 data1 q43 m4 cmp6 a3 R_slices_symMergeCmpFunc_Action b5 n.1 n.2.1 n.2.2 = some r) (fun n => n.1) (fun n => [(0, raw v2), (1, rd (kint .i64) a3), (2, rd (kint .i64) m4), (3, rd (kint .i64) b5), (4, fn2 Tryz.prog kAction kAction (kint .i64) cmp6), (18, rd (kint .i64) (IntKind.i64.wrap (q43.toNat : Int))), (19, rd (kint .i64) (IntKind.i64.wrap ((IntKind.i64.wrap (q43.toNat : Int)) + m4))), (20, rd (kint .i64) n.2.1), (21, rd (kint .i64) n.2.2), (22, rd (kint .i64) (IntKind.i64.wrap ((IntKind.i64.wrap ((IntKind.i64.wrap (q43.toNat : Int)) + m4)) - 1)))]) (fun n => [(0, Row v2 121 kAction data1)]) ((((r45 : Int) - start44).toNat + 1), start44, r45) ⟨trivial, h⟩ ⟨rfl, ⟨rfl, rfl, rfl, rfl, rfl, rfl, rfl, rfl, rfl, rfl, trivial⟩, ⟨rfl, trivial⟩⟩ ?_
        rintro ⟨m50, start48, r49⟩ ⟨hsf6, h⟩
        change True at hsf6
        change F_slices_symMergeCmpFunc_Action_s_l6 data1 q43 m4 cmp6 a3 R_slices_symMergeCmpFunc_Action b5 m50 start48 r49 = some r at h
        change AW _ _ _ ⟨slots [(0, raw v2), (1, rd (kint .i64) a3), (2, rd (kint .i64) m4), (3, rd (kint .i64) b5), (4, fn2 Tryz.prog kAction kAction (kint .i64) cmp6), (18, rd (kint .i64) (IntKind.i64.wrap (q43.toNat : Int))), (19, rd (kint .i64) (IntKind.i64.wrap ((IntKind.i64.wrap (q43.toNat : Int)) + m4))), (20, rd (kint .i64) start48), (21, rd (kint .i64) r49), (22, rd (kint .i64) (IntKind.i64.wrap ((IntKind.i64.wrap ((IntKind.i64.wrap (q43.toNat : Int)) + m4)) - 1)))], ress [(0, Row v2 121 kAction data1)], _⟩
        cases m50 with
        | zero => cases h
        | succ m50 =>
          unfold F_slices_symMergeCmpFunc_Action_s_l6 at h
          generalize hgo6 : F_slices_symMergeCmpFunc_Action_s_l6 data1 q43 m4 cmp6 a3 R_slices_symMergeCmpFunc_Action b5 m50 = go6 at h
          refine AW.seq <| SR <| Md rfl <| Md rfl <| Ac (op_lss rfl rfl (vt rfl) (vt rfl)) rfl <| Nl <| Cn rfl (fun hc => ?_) (fun hc => ?_)
          · have h := cond_t hc h
            refine AW.skip <| AW.block <| AW.seq ?_
            obtain ⟨q51, hq51, h⟩ := bsome h
            refine Rg <| Md rfl <| Md rfl <| Ac (op_add rfl rfl (vt rfl) (vt rfl)) rfl <| Ac (op_convu rfl rfl us3 un360 (vt rfl)) rfl <| Ac (op_ushr rfl rfl (vt rfl) (vu64 (vku (1 : BitVec 64) rfl)) hq51) rfl <| Ac (op_uconv rfl rfl us360 un3 (vt rfl)) rfl <| As rfl <| Nl <| AW.seq ?_
            obtain ⟨e52, he52, h⟩ := bsome h
            obtain ⟨e53, he53, h⟩ := bsome h
            obtain ⟨x54, hx54, h⟩ := bsome h
            refine AW.regionAny [⟨[4], [158], [], []⟩, ⟨[0], [159], [], []⟩, ⟨[22], [160], [], []⟩, ⟨[23], [161], [], []⟩, ⟨[160, 161], [162], [], []⟩, ⟨[159, 162], [163], [0], []⟩, ⟨[163], [164], [0], []⟩, ⟨[0], [165], [], []⟩, ⟨[23], [166], [], []⟩, ⟨[165, 166], [167], [0], []⟩, ⟨[167], [168], [0], []⟩, ⟨[158, 164, 168], [169], [], []⟩, ⟨[169], [170], [], []⟩, ⟨[170], [171], [], []⟩] mixed (by kernel_rfl) <| Sc (lo [4] [] rfl fun S hs hr => op_move (A := fn2 Tryz.prog kAction kAction (kint .i64) cmp6) rfl rfl (vh hs 4 rfl rfl)) rfl <| SMw rfl <| SMd rfl <| SMd rfl <| Sc (lo [160, 161] [] rfl fun S hs hr => op_sub rfl rfl (vh hs 160 rfl rfl) (vh hs 161 rfl rfl)) rfl <| Sc (lo [159, 162] [0] rfl fun S hs hr => op_indexo' 0 rfl rfl sl122 (vh hs 159 rfl rfl) ((hr 0 rfl).trans rfl) (vh hs 162 rfl rfl) he52) rfl <| Sc (lo [163] [0] rfl fun S hs hr => op_loado' 0 rfl rfl ty121 (vh hs 163 rfl rfl) ((hr 0 rfl).trans rfl) (lget_of he52).2) rfl <| SMw rfl <| SMd rfl <| Sc (lo [165, 166] [0] rfl fun S hs hr => op_indexo' 0 rfl rfl sl122 (vh hs 165 rfl rfl) ((hr 0 rfl).trans rfl) (vh hs 166 rfl rfl) he53) rfl <| Sc (lo [167] [0] rfl fun S hs hr => op_loado' 0 rfl rfl ty121 (vh hs 167 rfl rfl) ((hr 0 rfl).trans rfl) (lget_of he53).2) rfl <| Sc (lo [158, 164, 168] [] rfl fun S hs hr => op_call2 hx54 rfl rfl (vh hs 158 rfl rfl) (vh hs 164 rfl rfl) (vh hs 168 rfl rfl)) rfl <| Sc (lo [169] [] rfl fun S hs hr => op_lss rfl rfl (vh hs 169 rfl rfl) (vk rfl)) rfl <| Sc (lo [170] [] rfl fun S hs hr => op_not rfl rfl (vh hs 170 rfl rfl)) rfl <| Cn rfl (fun hc => ?_) (fun hc => ?_)
            · have h := cond_t hc h
              refine Rg <| Md rfl <| Ac (op_add rfl rfl (vt rfl) (vk rfl)) rfl <| As rfl <| Nl ?_
              subst hgo6
              exact ⟨(m50, (IntKind.i64.wrap ((IntKind.i64.wrap (q51.toNat : Int)) + 1)), r49), Nat.lt_succ_self _, ⟨trivial, h⟩, ⟨rfl, ⟨rfl, rfl, rfl, rfl, rfl, rfl, rfl, rfl, rfl, rfl, trivial⟩, ⟨rfl, trivial⟩⟩⟩
            · have h := cond_f hc h
              refine Rg <| Md rfl <| As rfl <| Nl ?_
              subst hgo6
              exact ⟨(m50, start48, (IntKind.i64.wrap (q51.toNat : Int))), Nat.lt_succ_self _, ⟨trivial, h⟩, ⟨rfl, ⟨rfl, rfl, rfl, rfl, rfl, rfl, rfl, rfl, rfl, rfl, trivial⟩, ⟨rfl, trivial⟩⟩⟩
          · have h := cond_f hc h
            refine AW.exit <| SR <| Md rfl <| Md rfl <| Ac (op_sub rfl rfl (vt rfl) (vt rfl)) rfl <| As rfl <| Nl ?_
            refine AW.join (d := []) (ν := (List Action)) (fun n => F_slices_symMergeCmpFunc_Action_s_j7 a3 start48 q43 R_slices_symMergeCmpFunc_Action cmp6 m4 b5 n = some r) (fun n => [(0, raw v2), (1, rd (kint .i64) a3), (3, rd (kint .i64) b5), (4, fn2 Tryz.prog kAction kAction (kint .i64) cmp6), (18, rd (kint .i64) (IntKind.i64.wrap (q43.toNat : Int))), (20, rd (kint .i64) start48), (24, rd (kint .i64) (IntKind.i64.wrap ((IntKind.i64.wrap ((IntKind.i64.wrap (q43.toNat : Int)) + m4)) - start48)))]) (fun n => [(0, Row v2 121 kAction n)]) ?hx7 ?hy7
            case hy7 =>
              intro l55 h
              unfold F_slices_symMergeCmpFunc_Action_s_j7 at h
              change AW _ _ _ ⟨slots [(0, raw v2), (1, rd (kint .i64) a3), (3, rd (kint .i64) b5), (4, fn2 Tryz.prog kAction kAction (kint .i64) cmp6), (18, rd (kint .i64) (IntKind.i64.wrap (q43.toNat : Int))), (20, rd (kint .i64) start48), (24, rd (kint .i64) (IntKind.i64.wrap ((IntKind.i64.wrap ((IntKind.i64.wrap (q43.toNat : Int)) + m4)) - start48)))], ress [(0, Row v2 121 kAction l55)], _⟩
              refine AW.join (d := []) (ν := (List Action)) (fun n => F_slices_symMergeCmpFunc_Action_s_j8 q43 m4 start48 b5 R_slices_symMergeCmpFunc_Action cmp6 n = some r) (fun n => [(0, raw v2), (3, rd (kint .i64) b5), (4, fn2 Tryz.prog kAction kAction (kint .i64) cmp6), (18, rd (kint .i64) (IntKind.i64.wrap (q43.toNat : Int))), (24, rd (kint .i64) (IntKind.i64.wrap ((IntKind.i64.wrap ((IntKind.i64.wrap (q43.toNat : Int)) + m4)) - start48)))]) (fun n => [(0, Row v2 121 kAction n)]) ?hx8 ?hy8
              case hy8 =>
                intro l56 h
                unfold F_slices_symMergeCmpFunc_Action_s_j8 at h
                change AW _ _ _ ⟨slots [(0, raw v2), (3, rd (kint .i64) b5), (4, fn2 Tryz.prog kAction kAction (kint .i64) cmp6), (18, rd (kint .i64) (IntKind.i64.wrap (q43.toNat : Int))), (24, rd (kint .i64) (IntKind.i64.wrap ((IntKind.i64.wrap ((IntKind.i64.wrap (q43.toNat : Int)) + m4)) - start48)))], ress [(0, Row v2 121 kAction l56)], _⟩
                refine SR <| Md rfl <| Md rfl <| Ac (op_lss rfl rfl (vt rfl) (vt rfl)) rfl <| Md rfl <| Gd rfl (fun hq => op_move (A := rd (kint .i64) (IntKind.i64.wrap ((IntKind.i64.wrap ((IntKind.i64.wrap (q43.toNat : Int)) + m4)) - start48))) rfl rfl (vt rfl)) <| Gd rfl (fun hq => op_move (A := rd (kint .i64) b5) rfl rfl (vt rfl)) <| Gd rfl (fun hq => op_lss rfl rfl (vgt rfl hq) (vgt rfl hq)) <| Ac (op_all rfl rfl (vt rfl) (vt rfl)) rfl <| Nl <| Cn rfl (fun hc => ?_) (fun hc => ?_)
                · have h := cond_t hc h
                  obtain ⟨l57, hl57, h⟩ := bsome h
                  refine Rg <| Mw rfl <| Md rfl <| Md rfl <| Md rfl <| Ac (op_move (A := fn2 Tryz.prog kAction kAction (kint .i64) cmp6) rfl rfl (vt rfl)) rfl <| Ct rfl (op_callR 0 (xs := [.tmp 214, .tmp 215, .tmp 216, .tmp 217, .tmp 218]) (hR_slices_symMergeCmpFunc_Action _ _ _ _ _ _ _ hl57) e311 rfl rfl ⟨vt rfl, vt rfl, vt rfl, vt rfl, vt rfl, trivial⟩ rfl) ?_
                  rintro _ ⟨_u, rfl⟩
                  refine Nl ?_
                  obtain rfl := si h
                  exact ret0Y (i := 0) Tryz.results311 rfl rfl
                · have h := cond_f hc h
                  refine AW.skip ?_
                  obtain rfl := si h
                  exact ret0Y (i := 0) Tryz.results311 rfl rfl
              case hx8 =>
                refine SR <| Md rfl <| Md rfl <| Ac (op_lss rfl rfl (vt rfl) (vt rfl)) rfl <| Md rfl <| Gd rfl (fun hq => op_move (A := rd (kint .i64) start48) rfl rfl (vt rfl)) <| Gd rfl (fun hq => op_move (A := rd (kint .i64) (IntKind.i64.wrap (q43.toNat : Int))) rfl rfl (vt rfl)) <| Gd rfl (fun hq => op_lss rfl rfl (vgt rfl hq) (vgt rfl hq)) <| Ac (op_all rfl rfl (vt rfl) (vt rfl)) rfl <| Nl <| Cn rfl (fun hc => ?_) (fun hc => ?_)
                · have h := cond_t hc h
                  obtain ⟨l58, hl58, h⟩ := bsome h
                  refine Rg <| Mw rfl <| Md rfl <| Md rfl <| Md rfl <| Ac (op_move (A := fn2 Tryz.prog kAction kAction (kint .i64) cmp6) rfl rfl (vt rfl)) rfl <| Ct rfl (op_callR 0 (xs := [.tmp 200, .tmp 201, .tmp 202, .tmp 203, .tmp 204]) (hR_slices_symMergeCmpFunc_Action _ _ _ _ _ _ _ hl58) e311 rfl rfl ⟨vt rfl, vt rfl, vt rfl, vt rfl, vt rfl, trivial⟩ rfl) ?_
                  rintro _ ⟨_u, rfl⟩
                  refine Nl ?_
                  exact ⟨l58, h, ⟨rfl, ⟨rfl, rfl, rfl, rfl, rfl, trivial⟩, ⟨rfl, trivial⟩⟩⟩
                · have h := cond_f hc h
                  refine AW.skip ?_
                  exact ⟨l55, h, ⟨rfl, ⟨rfl, rfl, rfl, rfl, rfl, trivial⟩, ⟨rfl, trivial⟩⟩⟩
            case hx7 =>
              refine SR <| Md rfl <| Md rfl <| Ac (op_lss rfl rfl (vt rfl) (vt rfl)) rfl <| Md rfl <| Gd rfl (fun hq => op_move (A := rd (kint .i64) m4) rfl rfl (vt rfl)) <| Gd rfl (fun hq => op_move (A := rd (kint .i64) (IntKind.i64.wrap ((IntKind.i64.wrap ((IntKind.i64.wrap (q43.toNat : Int)) + m4)) - start48))) rfl rfl (vt rfl)) <| Gd rfl (fun hq => op_lss rfl rfl (vgt rfl hq) (vgt rfl hq)) <| Ac (op_all rfl rfl (vt rfl) (vt rfl)) rfl <| Nl <| Cn rfl (fun hc => ?_) (fun hc => ?_)
              · have h := cond_t hc h
                obtain ⟨l59, hl59, h⟩ := bsome h
                refine Rg <| Mw rfl <| Md rfl <| Md rfl <| Md rfl <| Ac (op_move (A := fn2 Tryz.prog kAction kAction (kint .i64) cmp6) rfl rfl (vt rfl)) rfl <| Ct rfl (op_callR 0 (xs := [.tmp 186, .tmp 187, .tmp 188, .tmp 189, .tmp 190]) (c_slices_rotateCmpFunc_Action_o _ _ _ _ _ _ _ hl59) e335 rfl rfl ⟨vt rfl, vt rfl, vt rfl, vt rfl, vt rfl, trivial⟩ rfl) ?_
                rintro _ ⟨_u, rfl⟩
                refine Nl ?_
                exact ⟨l59, h, ⟨rfl, ⟨rfl, rfl, rfl, rfl, rfl, rfl, rfl, trivial⟩, ⟨rfl, trivial⟩⟩⟩
              · have h := cond_f hc h
                refine AW.skip ?_
                exact ⟨data1, h, ⟨rfl, ⟨rfl, rfl, rfl, rfl, rfl, rfl, rfl, trivial⟩, ⟨rfl, trivial⟩⟩⟩
      case hx5 =>
        refine SR <| Md rfl <| Md rfl <| Ac (op_gtr rfl rfl (vt rfl) (vt rfl)) rfl <| Nl <| Cn rfl (fun hc => ?_) (fun hc => ?_)
        · have h := cond_t hc h
          refine SR <| Md rfl <| Md rfl <| Ac (op_sub rfl rfl (vt rfl) (vt rfl)) rfl <| As rfl <| Nl <| Rg <| Md rfl <| As rfl <| Nl ?_
          exact ⟨((IntKind.i64.wrap ((IntKind.i64.wrap ((IntKind.i64.wrap (q43.toNat : Int)) + m4)) - b5)), (IntKind.i64.wrap (q43.toNat : Int))), h, ⟨rfl, ⟨rfl, rfl, rfl, rfl, rfl, rfl, rfl, rfl, rfl, trivial⟩, ⟨rfl, trivial⟩⟩⟩
        · have h := cond_f hc h
          refine SR <| Md rfl <| As rfl <| Nl <| Rg <| Md rfl <| As rfl <| Nl ?_
          exact ⟨(a3, m4), h, ⟨rfl, ⟨rfl, rfl, rfl, rfl, rfl, rfl, rfl, rfl, rfl, trivial⟩, ⟨rfl, trivial⟩⟩⟩
def FR_slices_symMergeCmpFunc_Action : Nat → ((List Action) → Int → Int → Int → (Action → Action → Option Int) → Option (List Action))
  | 0 => (fun _ _ _ _ _ => none)
  | n + 1 => (F_slices_symMergeCmpFunc_Action_s (FR_slices_symMergeCmpFunc_Action n))
theorem cR_slices_symMergeCmpFunc_Action : ∀ n : Nat, (∀ (v2 : Value) (data1 : (List Action)) (a3 : Int) (m4 : Int) (b5 : Int) (cmp6 : (Action → Action → Option Int)) (r : (List Action)), (FR_slices_symMergeCmpFunc_Action n) data1 a3 m4 b5 cmp6 = some r → Con Tryz.prog 311 [raw v2, rd (kint .i64) a3, rd (kint .i64) m4, rd (kint .i64) b5, fn2 Tryz.prog kAction kAction (kint .i64) cmp6] (Row v2 121 kAction data1) (fun _ : Unit => top) (fun _ => Row v2 121 kAction r))
  | 0 => (by intros; rename_i h; cases h)
  | n + 1 => by
    have ih := cR_slices_symMergeCmpFunc_Action n
    exact (c_slices_symMergeCmpFunc_Action_s (FR_slices_symMergeCmpFunc_Action n) ih)
def F_slices_symMergeCmpFunc_Action (data1 : (List Action)) (a3 : Int) (m4 : Int) (b5 : Int) (cmp6 : (Action → Action → Option Int)) : Option (List Action) := (FR_slices_symMergeCmpFunc_Action fuel0) data1 a3 m4 b5 cmp6
theorem c_slices_symMergeCmpFunc_Action_o : ∀ (v2 : Value) (data1 : (List Action)) (a3 : Int) (m4 : Int) (b5 : Int) (cmp6 : (Action → Action → Option Int)) (r : (List Action)), F_slices_symMergeCmpFunc_Action data1 a3 m4 b5 cmp6 = some r → Con Tryz.prog 311 [raw v2, rd (kint .i64) a3, rd (kint .i64) m4, rd (kint .i64) b5, fn2 Tryz.prog kAction kAction (kint .i64) cmp6] (Row v2 121 kAction data1) (fun _ : Unit => top) (fun _ => Row v2 121 kAction r) := cR_slices_symMergeCmpFunc_Action fuel0
def F_slices_stableCmpFunc_Action_l3 (n3 : Int) (blockSize17 : Int) (cmp4 : (Action → Action → Option Int)) (go2 : (List Action) → Int → Option (List Action)) : Nat → (List Action) → Int → Int → Option (List Action)
  | 0, _, _, _ => none
  | m25 + 1, l22, a23, b24 => (bif (decide (b24 ≤ n3)) then (F_slices_symMergeCmpFunc_Action l22 a23 (IntKind.i64.wrap (a23 + blockSize17)) b24 cmp4).bind fun l26 => (F_slices_stableCmpFunc_Action_l3 n3 blockSize17 cmp4 go2 m25) l26 b24 (IntKind.i64.wrap (b24 + (IntKind.i64.wrap (2 * blockSize17)))) else (bif (decide ((IntKind.i64.wrap (a23 + blockSize17)) < n3)) then (F_slices_symMergeCmpFunc_Action l22 a23 (IntKind.i64.wrap (a23 + blockSize17)) n3 cmp4).bind fun l27 => go2 l27 (IntKind.i64.wrap (blockSize17 * 2)) else go2 l22 (IntKind.i64.wrap (blockSize17 * 2))))
def F_slices_stableCmpFunc_Action_l2 (n3 : Int) (cmp4 : (Action → Action → Option Int)) : Nat → (List Action) → Int → Option (List Action)
  | 0, _, _ => none
  | m18 + 1, l16, blockSize17 => (bif (decide (blockSize17 < n3)) then F_slices_stableCmpFunc_Action_l3 n3 blockSize17 cmp4 (F_slices_stableCmpFunc_Action_l2 n3 cmp4 m18) (((n3 : Int) - (IntKind.i64.wrap (2 * blockSize17))).toNat + 2) l16 0 (IntKind.i64.wrap (2 * blockSize17)) else some l16)
def F_slices_stableCmpFunc_Action_l1 (n3 : Int) (cmp4 : (Action → Action → Option Int)) : Nat → (List Action) → Int → Int → Option (List Action)
  | 0, _, _, _ => none
  | m11 + 1, l8, a9, b10 => (bif (decide (b10 ≤ n3)) then (F_slices_insertionSortCmpFunc_Action l8 a9 b10 cmp4).bind fun l12 => (F_slices_stableCmpFunc_Action_l1 n3 cmp4 m11) l12 b10 (IntKind.i64.wrap (b10 + 20)) else (F_slices_insertionSortCmpFunc_Action l8 a9 n3 cmp4).bind fun l13 => F_slices_stableCmpFunc_Action_l2 n3 cmp4 (((n3 : Int) - 20).toNat + 1) l13 20)
def F_slices_stableCmpFunc_Action (data1 : (List Action)) (n3 : Int) (cmp4 : (Action → Action → Option Int)) : Option (List Action) :=
  F_slices_stableCmpFunc_Action_l1 n3 cmp4 (((n3 : Int) - 20).toNat + 2) data1 0 20
theorem c_slices_stableCmpFunc_Action_o (v2 : Value) (data1 : (List Action)) (n3 : Int) (cmp4 : (Action → Action → Option Int)) (r : (List Action)) (h : F_slices_stableCmpFunc_Action data1 n3 cmp4 = some r) : Con Tryz.prog 274 [raw v2, rd (kint .i64) n3, fn2 Tryz.prog kAction kAction (kint .i64) cmp4] (Row v2 121 kAction data1) (fun _ : Unit => top) (fun _ => Row v2 121 kAction r) := by
  refine Con.intro Tryz.func274 rfl Tryz.ntmps274 rfl fun w H X => ?_
  unfold F_slices_stableCmpFunc_Action at h
  refine SR <| Ak rfl <| Nl <| SR <| Md rfl <| Ak rfl <| As rfl <| Nl <| AW.seq <| AW.block <| AW.loopG (d := []) (ν := Nat × (List Action) × Int × Int) (fun n => True ∧ F_slices_stableCmpFunc_Action_l1 n3 cmp4 n.1 n.2.1 n.2.2.1 n.2.2.2 = some r) (fun n => n.1) (fun n => [(0, raw v2), (1, rd (kint .i64) n3), (2, fn2 Tryz.prog kAction kAction (kint .i64) cmp4), (6, rd (kint .i64) 20), (7, rd (kint .i64) n.2.2.1), (8, rd (kint .i64) n.2.2.2)]) (fun n => [(0, Row v2 121 kAction n.2.1)]) ((((n3 : Int) - 20).toNat + 2), data1, 0, 20) ⟨trivial, h⟩ ⟨rfl, ⟨rfl, rfl, rfl, rfl, rfl, rfl, trivial⟩, ⟨rfl, trivial⟩⟩ ?_
  rintro ⟨m11, l8, a9, b10⟩ ⟨hsf1, h⟩
  change True at hsf1
  change F_slices_stableCmpFunc_Action_l1 n3 cmp4 m11 l8 a9 b10 = some r at h
  change AW _ _ _ ⟨slots [(0, raw v2), (1, rd (kint .i64) n3), (2, fn2 Tryz.prog kAction kAction (kint .i64) cmp4), (6, rd (kint .i64) 20), (7, rd (kint .i64) a9), (8, rd (kint .i64) b10)], ress [(0, Row v2 121 kAction l8)], _⟩
  cases m11 with
  | zero => cases h
  | succ m11 =>
    unfold F_slices_stableCmpFunc_Action_l1 at h
    generalize hgo1 : F_slices_stableCmpFunc_Action_l1 n3 cmp4 m11 = go1 at h
    refine AW.seq <| SR <| Md rfl <| Md rfl <| Ac (op_leq rfl rfl (vt rfl) (vt rfl)) rfl <| Nl <| Cn rfl (fun hc => ?_) (fun hc => ?_)
    · have h := cond_t hc h
      refine AW.skip <| AW.block <| AW.seq ?_
      obtain ⟨l12, hl12, h⟩ := bsome h
      refine Rg <| Mw rfl <| Md rfl <| Md rfl <| Ac (op_move (A := fn2 Tryz.prog kAction kAction (kint .i64) cmp4) rfl rfl (vt rfl)) rfl <| Ct rfl (op_callR 0 (xs := [.tmp 14, .tmp 15, .tmp 16, .tmp 17]) (c_slices_insertionSortCmpFunc_Action_o _ _ _ _ _ _ hl12) e310 rfl rfl ⟨vt rfl, vt rfl, vt rfl, vt rfl, trivial⟩ rfl) ?_
      rintro _ ⟨_u, rfl⟩
      refine Nl <| SR <| Md rfl <| As rfl <| Nl <| Rg <| Md rfl <| Md rfl <| Ac (op_add rfl rfl (vt rfl) (vt rfl)) rfl <| As rfl <| Nl ?_
      subst hgo1
      exact ⟨(m11, l12, b10, (IntKind.i64.wrap (b10 + 20))), Nat.lt_succ_self _, ⟨trivial, h⟩, ⟨rfl, ⟨rfl, rfl, rfl, rfl, rfl, rfl, trivial⟩, ⟨rfl, trivial⟩⟩⟩
    · have h := cond_f hc h
      refine AW.exit <| AW.seq ?_
      obtain ⟨l13, hl13, h⟩ := bsome h
      refine Rg <| Mw rfl <| Md rfl <| Md rfl <| Ac (op_move (A := fn2 Tryz.prog kAction kAction (kint .i64) cmp4) rfl rfl (vt rfl)) rfl <| Ct rfl (op_callR 0 (xs := [.tmp 23, .tmp 24, .tmp 25, .tmp 26]) (c_slices_insertionSortCmpFunc_Action_o _ _ _ _ _ _ hl13) e310 rfl rfl ⟨vt rfl, vt rfl, vt rfl, vt rfl, trivial⟩ rfl) ?_
      rintro _ ⟨_u, rfl⟩
      refine Nl <| AW.block <| AW.loopG (d := []) (ν := Nat × (List Action) × Int) (fun n => True ∧ F_slices_stableCmpFunc_Action_l2 n3 cmp4 n.1 n.2.1 n.2.2 = some r) (fun n => n.1) (fun n => [(0, raw v2), (1, rd (kint .i64) n3), (2, fn2 Tryz.prog kAction kAction (kint .i64) cmp4), (6, rd (kint .i64) n.2.2)]) (fun n => [(0, Row v2 121 kAction n.2.1)]) ((((n3 : Int) - 20).toNat + 1), l13, 20) ⟨trivial, h⟩ ⟨rfl, ⟨rfl, rfl, rfl, rfl, trivial⟩, ⟨rfl, trivial⟩⟩ ?_
      rintro ⟨m18, l16, blockSize17⟩ ⟨hsf2, h⟩
      change True at hsf2
      change F_slices_stableCmpFunc_Action_l2 n3 cmp4 m18 l16 blockSize17 = some r at h
      change AW _ _ _ ⟨slots [(0, raw v2), (1, rd (kint .i64) n3), (2, fn2 Tryz.prog kAction kAction (kint .i64) cmp4), (6, rd (kint .i64) blockSize17)], ress [(0, Row v2 121 kAction l16)], _⟩
      cases m18 with
      | zero => cases h
      | succ m18 =>
        unfold F_slices_stableCmpFunc_Action_l2 at h
        generalize hgo2 : F_slices_stableCmpFunc_Action_l2 n3 cmp4 m18 = go2 at h
        refine AW.seq <| SR <| Md rfl <| Md rfl <| Ac (op_lss rfl rfl (vt rfl) (vt rfl)) rfl <| Nl <| Cn rfl (fun hc => ?_) (fun hc => ?_)
        · have h := cond_t hc h
          refine AW.skip <| AW.block <| SR <| Md rfl <| Ac (op_mul rfl rfl (vk rfl) (vt rfl)) rfl <| Ak rfl <| As rfl <| Nl <| AW.seq <| AW.block <| AW.loopG (d := []) (ν := Nat × (List Action) × Int × Int) (fun n => True ∧ F_slices_stableCmpFunc_Action_l3 n3 blockSize17 cmp4 go2 n.1 n.2.1 n.2.2.1 n.2.2.2 = some r) (fun n => n.1) (fun n => [(0, raw v2), (1, rd (kint .i64) n3), (2, fn2 Tryz.prog kAction kAction (kint .i64) cmp4), (6, rd (kint .i64) blockSize17), (7, rd (kint .i64) n.2.2.1), (8, rd (kint .i64) n.2.2.2)]) (fun n => [(0, Row v2 121 kAction n.2.1)]) ((((n3 : Int) - (IntKind.i64.wrap (2 * blockSize17))).toNat + 2), l16, 0, (IntKind.i64.wrap (2 * blockSize17))) ⟨trivial, h⟩ ⟨rfl, ⟨rfl, rfl, rfl, rfl, rfl, rfl, trivial⟩, ⟨rfl, trivial⟩⟩ ?_
          rintro ⟨m25, l22, a23, b24⟩ ⟨hsf3, h⟩
          change True at hsf3
          change F_slices_stableCmpFunc_Action_l3 n3 blockSize17 cmp4 go2 m25 l22 a23 b24 = some r at h
          change AW _ _ _ ⟨slots [(0, raw v2), (1, rd (kint .i64) n3), (2, fn2 Tryz.prog kAction kAction (kint .i64) cmp4), (6, rd (kint .i64) blockSize17), (7, rd (kint .i64) a23), (8, rd (kint .i64) b24)], ress [(0, Row v2 121 kAction l22)], _⟩
          cases m25 with
          | zero => cases h
          | succ m25 =>
            unfold F_slices_stableCmpFunc_Action_l3 at h
            generalize hgo3 : F_slices_stableCmpFunc_Action_l3 n3 blockSize17 cmp4 go2 m25 = go3 at h
            refine AW.seq <| SR <| Md rfl <| Md rfl <| Ac (op_leq rfl rfl (vt rfl) (vt rfl)) rfl <| Nl <| Cn rfl (fun hc => ?_) (fun hc => ?_)
            · have h := cond_t hc h
              refine AW.skip <| AW.block <| AW.seq ?_
              obtain ⟨l26, hl26, h⟩ := bsome h
              refine Rg <| Mw rfl <| Md rfl <| Md rfl <| Md rfl <| Ac (op_add rfl rfl (vt rfl) (vt rfl)) rfl <| Md rfl <| Ac (op_move (A := fn2 Tryz.prog kAction kAction (kint .i64) cmp4) rfl rfl (vt rfl)) rfl <| Ct rfl (op_callR 0 (xs := [.tmp 36, .tmp 37, .tmp 40, .tmp 41, .tmp 42]) (c_slices_symMergeCmpFunc_Action_o _ _ _ _ _ _ _ hl26) e311 rfl rfl ⟨vt rfl, vt rfl, vt rfl, vt rfl, vt rfl, trivial⟩ rfl) ?_
              rintro _ ⟨_u, rfl⟩
              refine Nl <| SR <| Md rfl <| As rfl <| Nl <| Rg <| Md rfl <| Md rfl <| Ac (op_mul rfl rfl (vk rfl) (vt rfl)) rfl <| Ac (op_add rfl rfl (vt rfl) (vt rfl)) rfl <| As rfl <| Nl ?_
              subst hgo3
              exact ⟨(m25, l26, b24, (IntKind.i64.wrap (b24 + (IntKind.i64.wrap (2 * blockSize17))))), Nat.lt_succ_self _, ⟨trivial, h⟩, ⟨rfl, ⟨rfl, rfl, rfl, rfl, rfl, rfl, trivial⟩, ⟨rfl, trivial⟩⟩⟩
            · have h := cond_f hc h
              refine AW.exit <| AW.seq <| SR <| Md rfl <| Md rfl <| Ac (op_add rfl rfl (vt rfl) (vt rfl)) rfl <| As rfl <| Nl <| SR <| Md rfl <| Md rfl <| Ac (op_lss rfl rfl (vt rfl) (vt rfl)) rfl <| Nl <| Cn rfl (fun hc => ?_) (fun hc => ?_)
              · have h := cond_t hc h
                obtain ⟨l27, hl27, h⟩ := bsome h
                refine Rg <| Mw rfl <| Md rfl <| Md rfl <| Md rfl <| Ac (op_move (A := fn2 Tryz.prog kAction kAction (kint .i64) cmp4) rfl rfl (vt rfl)) rfl <| Ct rfl (op_callR 0 (xs := [.tmp 55, .tmp 56, .tmp 57, .tmp 58, .tmp 59]) (c_slices_symMergeCmpFunc_Action_o _ _ _ _ _ _ _ hl27) e311 rfl rfl ⟨vt rfl, vt rfl, vt rfl, vt rfl, vt rfl, trivial⟩ rfl) ?_
                rintro _ ⟨_u, rfl⟩
                refine Nl <| Rg <| Md rfl <| Ac (op_mul rfl rfl (vt rfl) (vk rfl)) rfl <| As rfl <| Nl ?_
                subst hgo2
                exact ⟨(m18, l27, (IntKind.i64.wrap (blockSize17 * 2))), Nat.lt_succ_self _, ⟨trivial, h⟩, ⟨rfl, ⟨rfl, rfl, rfl, rfl, trivial⟩, ⟨rfl, trivial⟩⟩⟩
              · have h := cond_f hc h
                refine AW.skip <| Rg <| Md rfl <| Ac (op_mul rfl rfl (vt rfl) (vk rfl)) rfl <| As rfl <| Nl ?_
                subst hgo2
                exact ⟨(m18, l22, (IntKind.i64.wrap (blockSize17 * 2))), Nat.lt_succ_self _, ⟨trivial, h⟩, ⟨rfl, ⟨rfl, rfl, rfl, rfl, trivial⟩, ⟨rfl, trivial⟩⟩⟩
        · have h := cond_f hc h
          refine AW.exit ?_
          obtain rfl := si h
          exact ret0Y (i := 0) Tryz.results274 rfl rfl
def F_slices_SortStableFunc_Action (x1 : (List Action)) (cmp3 : (Action → Action → Option Int)) : Option (List Action) :=
  (F_slices_stableCmpFunc_Action x1 (x1.length : Int) cmp3).bind fun l4 => some l4
theorem c_slices_SortStableFunc_Action_o (v2 : Value) (x1 : (List Action)) (cmp3 : (Action → Action → Option Int)) (r : (List Action)) (h : F_slices_SortStableFunc_Action x1 cmp3 = some r) : Con Tryz.prog 219 [raw v2, fn2 Tryz.prog kAction kAction (kint .i64) cmp3] (Row v2 121 kAction x1) (fun _ : Unit => top) (fun _ => Row v2 121 kAction r) := by
  refine Con.intro Tryz.func219 rfl Tryz.ntmps219 rfl fun w H X => ?_
  unfold F_slices_SortStableFunc_Action at h
  obtain ⟨l4, hl4, h⟩ := bsome h
  refine Rg <| Mw rfl <| Mw rfl <| Ac (op_leno 0 rfl rfl sl122 (vt rfl) rfl) rfl <| Ac (op_move (A := fn2 Tryz.prog kAction kAction (kint .i64) cmp3) rfl rfl (vt rfl)) rfl <| Ct rfl (op_callR 0 (xs := [.tmp 4, .tmp 6, .tmp 7]) (c_slices_stableCmpFunc_Action_o _ _ _ _ _ hl4) e274 rfl rfl ⟨vt rfl, vt rfl, vt rfl, trivial⟩ rfl) ?_
  rintro _ ⟨_u, rfl⟩
  refine Nl ?_
  obtain rfl := si h
  exact ret0Y (i := 0) Tryz.results219 rfl rfl
end Go.Proofs.YtknpgojdkobgjaaGreat.W
set_option linter.unusedVariables false
set_option maxRecDepth 4000
set_option linter.unusedSimpArgs false
namespace Go.Proofs.YtknpgojdkobgjaaGreat.W
open Go Go.Wb
theorem e213 : Ent Tryz.prog 213 := Ent.mk Tryz.func213 rfl rfl
theorem e214 : Ent Tryz.prog 214 := Ent.mk Tryz.func214 rfl rfl
theorem e217 : Ent Tryz.prog 217 := Ent.mk Tryz.func217 rfl rfl
theorem e215 : Ent Tryz.prog 215 := Ent.mk Tryz.func215 rfl rfl
theorem e219 : Ent Tryz.prog 219 := Ent.mk Tryz.func219 rfl rfl
theorem e220 : Ent Tryz.prog 220 := Ent.mk Tryz.func220 rfl rfl
theorem e269 : Ent Tryz.prog 269 := Ent.mk Tryz.func269 rfl rfl
theorem e344 : Ent Tryz.prog 344 := Ent.mk Tryz.func344 rfl rfl
theorem e336 : Ent Tryz.prog 336 := Ent.mk Tryz.func336 rfl rfl
def F_aset_List_3 (a1 : Action) (b2 : Action) : Option Int :=
  (F_aset_at a1).bind fun x5 => (F_aset_at b2).bind fun x6 => (F_aset_turn x5.kind).bind fun x9 => (F_aset_turn x6.kind).bind fun x10 => (bif (decide ((IntKind.i64.wrap (x9 - x10)) ≠ 0)) then some (IntKind.i64.wrap (x9 - x10)) else (bif (decide (x5.field < x6.field)) then some (-1) else (bif (decide (x5.field > x6.field)) then some 1 else some 0)))
theorem c_aset_List_3 (a1 : Action) (b2 : Action) (r : Int) (h : F_aset_List_3 a1 b2 = some r) : PCon Tryz.prog 220 [rd kAction a1, rd kAction b2] (rd (kint .i64) r) := by
  refine PCon.of (Con.intro0 Tryz.func220 rfl Tryz.ntmps220 rfl fun w H => ?_)
  unfold F_aset_List_3 at h
  refine SR <| Ct rfl (op_box 3 rfl rfl (vt rfl)) ?_
  rintro _ ⟨g3, rfl⟩
  refine Ct rfl (op_box 4 rfl rfl (vt rfl)) ?_
  rintro _ ⟨g4, rfl⟩
  refine Ak rfl <| Nl <| AW.seq ?_
  obtain ⟨x5, hx5, h⟩ := bsome h
  obtain ⟨x6, hx6, h⟩ := bsome h
  refine AW.regionAny [⟨[2], [8], [3], []⟩, ⟨[8], [9], [], []⟩, ⟨[3], [10], [4], []⟩, ⟨[10], [11], [], []⟩, ⟨[], [5], [], []⟩, ⟨[], [6], [], []⟩, ⟨[5, 9], [5], [], []⟩, ⟨[6, 11], [6], [], []⟩] mixed (by kernel_rfl) <| SLd ty121 3 rfl <| SCl [8] (c_aset_at _ _ hx5) e221 rfl <| SLd ty121 4 rfl <| SCl [10] (c_aset_at _ _ hx6) e221 rfl <| Sc (locs (us := [(5, ownP 275 kaset_spot zaset_spot)]) (ur := []) [] [] rfl fun S hs hr => op_allocO rfl rfl rfl zr275) rfl <| Sc (locs (us := [(6, ownP 275 kaset_spot zaset_spot)]) (ur := []) [] [] rfl fun S hs hr => op_allocO rfl rfl rfl zr275) rfl <| Sc (locs (us := [(5, ownP 275 kaset_spot x5)]) (ur := []) [5, 9] [] rfl fun S hs hr => op_storeO rfl rfl ty275 ((hs 5 rfl).trans rfl) (vh hs 9 rfl rfl)) rfl <| Sc (locs (us := [(6, ownP 275 kaset_spot x6)]) (ur := []) [6, 11] [] rfl fun S hs hr => op_storeO rfl rfl ty275 ((hs 6 rfl).trans rfl) (vh hs 11 rfl rfl)) rfl <| AW.unpackP 5 6 rfl rfl fun g7 => AW.unpackP 6 7 rfl rfl fun g8 => AW.seq <| AW.seq ?_
  obtain ⟨x9, hx9, h⟩ := bsome h
  obtain ⟨x10, hx10, h⟩ := bsome h
  refine AW.regionAny [⟨[5], [12], [], []⟩, ⟨[12], [13], [6], []⟩, ⟨[13], [14], [], []⟩, ⟨[6], [15], [], []⟩, ⟨[15], [16], [7], []⟩, ⟨[16], [17], [], []⟩, ⟨[14, 17], [18], [], []⟩, ⟨[18], [7], [], []⟩] mixed (by kernel_rfl) <| SFd laset_spot_0 fl275_0 rfl <| SLd ty3 6 rfl <| SCl [13] (c_aset_turn _ _ hx9) e218 rfl <| SFd laset_spot_0 fl275_0 rfl <| SLd ty3 7 rfl <| SCl [16] (c_aset_turn _ _ hx10) e218 rfl <| Sc (lo [14, 17] [] rfl fun S hs hr => op_sub rfl rfl (vh hs 14 rfl rfl) (vh hs 17 rfl rfl)) rfl <| SAs rfl <| SR <| Md rfl <| Ac (op_neq rfl rfl (vt rfl) (vk rfl)) rfl <| Nl <| Cn rfl (fun hc => ?_) (fun hc => ?_)
  · have h := cond_t hc h
    refine SR <| Md rfl <| As rfl <| Nl <| AW.ret ?_
    obtain rfl := si h
    exact ret1 Tryz.results220 rfl (out_tmp rfl)
  · have h := cond_f hc h
    refine AW.skip <| AW.seq <| AW.block <| SR <| FdA laset_spot_1 fl275_1 rfl <| Ld ty3 6 rfl <| FdA laset_spot_1 fl275_1 rfl <| Ld ty3 7 rfl <| Ac (op_lss rfl rfl (vt rfl) (vt rfl)) rfl <| As rfl <| Nl <| Cn rfl (fun hc => ?_) (fun hc => ?_)
    · have h := cond_t hc h
      refine SR <| Ak rfl <| Nl <| AW.ret ?_
      obtain rfl := si h
      exact ret1 Tryz.results220 rfl (out_tmp rfl)
    · have h := cond_f hc h
      refine SR <| FdA laset_spot_1 fl275_1 rfl <| Ld ty3 6 rfl <| FdA laset_spot_1 fl275_1 rfl <| Ld ty3 7 rfl <| Ac (op_gtr rfl rfl (vt rfl) (vt rfl)) rfl <| As rfl <| Nl <| Cn rfl (fun hc => ?_) (fun hc => ?_)
      · have h := cond_t hc h
        refine SR <| Ak rfl <| Nl <| AW.ret ?_
        obtain rfl := si h
        exact ret1 Tryz.results220 rfl (out_tmp rfl)
      · have h := cond_f hc h
        refine AW.skip <| SR <| Ak rfl <| Nl <| AW.ret ?_
        obtain rfl := si h
        exact ret1 Tryz.results220 rfl (out_tmp rfl)
def F_aset_List (set1 : (List Action)) : Option (List Action) :=
  (F_slices_ContainsFunc_Action set1 F_aset_List_1).bind fun x2 => (F_slices_Clone_Action set1).bind fun x4 => (F_slices_DeleteFunc_Action x4 (fun x => F_aset_List_2 x x2)).bind fun x6 => (F_slices_SortStableFunc_Action x6 F_aset_List_3).bind fun l8 => some l8
theorem c_aset_List (set1 : (List Action)) (r : (List Action)) (h : F_aset_List set1 = some r) : PCon Tryz.prog 149 [rd (ksl kAction) set1] (rd (ksl kAction) r) := by
  refine PCon.of (Con.intro0 Tryz.func149 rfl Tryz.ntmps149 rfl fun w H => ?_)
  unfold F_aset_List at h
  refine SR <| Ac (op_assign (A := rd (ksl kAction) []) rfl rfl vnil) rfl <| Nl <| AW.seq ?_
  obtain ⟨x2, hx2, h⟩ := bsome h
  refine Rg <| Md rfl <| Ac (op_call (xs := [.tmp 5, .func 214]) (c_slices_ContainsFunc_Action _ _ _ hx2) e213 rfl rfl ⟨vt rfl, vf1 e214 c_aset_List_1, trivial⟩) rfl <| Ct rfl (op_alloc 4 rfl rfl zr4) ?_
  rintro _ ⟨g3, rfl⟩
  refine Sto ty4 4 rfl <| Nl <| AW.seq <| AW.freezeB 3 4 rfl rfl rfl ?_
  obtain ⟨x4, hx4, h⟩ := bsome h
  obtain ⟨x6, hx6, h⟩ := bsome h
  refine Rg <| Md rfl <| Ct rfl (op_callR 1001 (xs := [.tmp 7]) (c_slices_Clone_Action_o _ _ hx4) e216 rfl rfl ⟨vt rfl, trivial⟩ rfl) ?_
  rintro _ ⟨v5, rfl⟩
  refine Ac (op_fn1 (cs := [.tmp 3]) (CAs := [rp kbool x2]) (fun x => F_aset_List_2 x x2) rfl rfl e217 ⟨vt rfl, trivial⟩ (fun x y h => c_aset_List_2 _ _ y h)) rfl <| Ct rfl (op_callR 1001 (xs := [.tmp 8, .tmp 9]) (c_slices_DeleteFunc_Action_o _ _ _ _ hx6) e215 rfl rfl ⟨vt rfl, vt rfl, trivial⟩ rfl) ?_
  rintro _ ⟨v7, rfl⟩
  refine Aw rfl <| Nl <| AW.seq ?_
  obtain ⟨l8, hl8, h⟩ := bsome h
  refine Rg <| Mw rfl <| Ct rfl (op_callR 1001 (xs := [.tmp 11, .func 220]) (c_slices_SortStableFunc_Action_o _ _ _ _ hl8) e219 rfl rfl ⟨vt rfl, vf2 e220 c_aset_List_3, trivial⟩ rfl) ?_
  rintro _ ⟨_u, rfl⟩
  refine Nl <| SR <| Mw rfl <| Aw rfl <| Nl <| AW.freezes [2, 4, 10, 11, 13] 1001 rfl ⟨rfl, rfl, rfl, rfl, rfl, trivial⟩ rfl <| AW.ret ?_
  obtain rfl := si h
  exact ret1 Tryz.results149 rfl (out_tmp rfl)
def F_exec_most (a1 : Action) : Option Int :=
  (bif (decide (a1.Port = 4294967293)) then some a1.Max else some 0)
theorem c_exec_most (a1 : Action) (r : Int) (h : F_exec_most a1 = some r) : PCon Tryz.prog 286 [rd kAction a1] (rd (kint .i64) r) := by
  refine PCon.of (Con.intro0 Tryz.func286 rfl Tryz.ntmps286 rfl fun w H => ?_)
  unfold F_exec_most at h
  refine SR <| Ct rfl (op_box 2 rfl rfl (vt rfl)) ?_
  rintro _ ⟨g2, rfl⟩
  refine Ak rfl <| Nl <| AW.seq <| SR <| FdA lAction_1 fl121_1 rfl <| Ld ty3 2 rfl <| Ac (op_eql rfl rfl (vt rfl) (vk rfl)) rfl <| Nl <| Cn rfl (fun hc => ?_) (fun hc => ?_)
  · have h := cond_t hc h
    refine SR <| FdA lAction_2 fl121_2 rfl <| Ld ty3 2 rfl <| As rfl <| Nl <| AW.ret ?_
    obtain rfl := si h
    exact ret1 Tryz.results286 rfl (out_tmp rfl)
  · have h := cond_f hc h
    refine AW.skip <| SR <| Ak rfl <| Nl <| AW.ret ?_
    obtain rfl := si h
    exact ret1 Tryz.results286 rfl (out_tmp rfl)
def F_rewrite_None : Option (Vector Tern 24) :=
  some (Vector.replicate 24 zTern)
theorem c_rewrite_None (r : (Vector Tern 24)) (h : F_rewrite_None = some r) : PCon Tryz.prog 77 [] (rd (karr 24 kTern) r) := by
  refine PCon.of (Con.intro0 Tryz.func77 rfl Tryz.ntmps77 rfl fun w H => ?_)
  unfold F_rewrite_None at h
  refine SR <| Ct rfl (op_alloc 1 rfl rfl zr101) ?_
  rintro _ ⟨g1, rfl⟩
  refine Nl <| SR <| Ac (op_build (ps := []) (x := (Vector.replicate 24 zTern)) rfl rfl rfl (by kernel_rfl) zr101 rfl) rfl <| Sto ty101 1 rfl <| Nl <| AW.ret ?_
  obtain rfl := si h
  exact ret1 Tryz.results77 rfl (out_cell rfl (i := 1) rfl ty101)
def F_field_Right (f1 : Int) : Option Bool :=
  some ((decide (f1 ≥ 0)) && (decide (f1 < 24)))
theorem c_field_Right (f1 : Int) (r : Bool) (h : F_field_Right f1 = some r) : PCon Tryz.prog 269 [rd (kint .i64) f1] (rd kbool r) := by
  refine PCon.of (Con.intro0 Tryz.func269 rfl Tryz.ntmps269 rfl fun w H => ?_)
  unfold F_field_Right at h
  refine SR <| Ab rfl <| Nl <| SR <| Md rfl <| Ac (op_geq rfl rfl (vt rfl) (vk rfl)) rfl <| Md rfl <| Gd rfl (fun hq => op_move (A := rd (kint .i64) f1) rfl rfl (vt rfl)) <| Gd rfl (fun hq => op_lss rfl rfl (vgt rfl hq) (vk rfl)) <| Ac (op_all rfl rfl (vt rfl) (vt rfl)) rfl <| As rfl <| Nl <| AW.ret ?_
  obtain rfl := si h
  exact ret1 Tryz.results269 rfl (out_tmp rfl)
def F_field_rows : Option (Vector field_row 24) :=
  some (Vector.set (Vector.set (Vector.set (Vector.set (Vector.set (Vector.set (Vector.set (Vector.set (Vector.set (Vector.set (Vector.set (Vector.set (Vector.set (Vector.set (Vector.set (Vector.set (Vector.set (Vector.set (Vector.set (Vector.set (Vector.set (Vector.set (Vector.set (Vector.set (Vector.replicate 24 zfield_row) 0 (⟨{ data := #[105, 110, 95, 112, 111, 114, 116] }, 0, 32, false⟩ : field_row) (by decide)) 1 (⟨{ data := #[109, 101, 116, 97, 100, 97, 116, 97] }, 2, 64, true⟩ : field_row) (by decide)) 2 (⟨{ data := #[101, 116, 104, 95, 100, 115, 116] }, 3, 48, true⟩ : field_row) (by decide)) 3 (⟨{ data := #[101, 116, 104, 95, 115, 114, 99] }, 4, 48, true⟩ : field_row) (by decide)) 4 (⟨{ data := #[101, 116, 104, 95, 116, 121, 112, 101] }, 5, 16, false⟩ : field_row) (by decide)) 5 (⟨{ data := #[118, 108, 97, 110, 95, 118, 105, 100] }, 6, 13, true⟩ : field_row) (by decide)) 6 (⟨{ data := #[118, 108, 97, 110, 95, 112, 99, 112] }, 7, 3, false⟩ : field_row) (by decide)) 7 (⟨{ data := #[105, 112, 95, 100, 115, 99, 112] }, 8, 6, false⟩ : field_row) (by decide)) 8 (⟨{ data := #[105, 112, 95, 101, 99, 110] }, 9, 2, false⟩ : field_row) (by decide)) 9 (⟨{ data := #[105, 112, 95, 112, 114, 111, 116, 111] }, 10, 8, false⟩ : field_row) (by decide)) 10 (⟨{ data := #[105, 112, 118, 52, 95, 115, 114, 99] }, 11, 32, true⟩ : field_row) (by decide)) 11 (⟨{ data := #[105, 112, 118, 52, 95, 100, 115, 116] }, 12, 32, true⟩ : field_row) (by decide)) 12 (⟨{ data := #[116, 99, 112, 95, 115, 114, 99] }, 13, 16, false⟩ : field_row) (by decide)) 13 (⟨{ data := #[116, 99, 112, 95, 100, 115, 116] }, 14, 16, false⟩ : field_row) (by decide)) 14 (⟨{ data := #[117, 100, 112, 95, 115, 114, 99] }, 15, 16, false⟩ : field_row) (by decide)) 15 (⟨{ data := #[117, 100, 112, 95, 100, 115, 116] }, 16, 16, false⟩ : field_row) (by decide)) 16 (⟨{ data := #[105, 99, 109, 112, 118, 52, 95, 116, 121, 112, 101] }, 19, 8, false⟩ : field_row) (by decide)) 17 (⟨{ data := #[105, 99, 109, 112, 118, 52, 95, 99, 111, 100, 101] }, 20, 8, false⟩ : field_row) (by decide)) 18 (⟨{ data := #[97, 114, 112, 95, 111, 112] }, 21, 16, false⟩ : field_row) (by decide)) 19 (⟨{ data := #[97, 114, 112, 95, 115, 112, 97] }, 22, 32, true⟩ : field_row) (by decide)) 20 (⟨{ data := #[97, 114, 112, 95, 116, 112, 97] }, 23, 32, true⟩ : field_row) (by decide)) 21 (⟨{ data := #[105, 112, 118, 54, 95, 115, 114, 99] }, 26, 128, true⟩ : field_row) (by decide)) 22 (⟨{ data := #[105, 112, 118, 54, 95, 100, 115, 116] }, 27, 128, true⟩ : field_row) (by decide)) 23 (⟨{ data := #[109, 112, 108, 115, 95, 108, 97, 98, 101, 108] }, 34, 20, false⟩ : field_row) (by decide))
theorem c_field_rows (r : (Vector field_row 24)) (h : F_field_rows = some r) : PCon Tryz.prog 344 [] (rd (karr 24 kfield_row) r) := by
  refine PCon.of (Con.intro0 Tryz.func344 rfl Tryz.ntmps344 rfl fun w H => ?_)
  unfold F_field_rows at h
  refine SR <| Ct rfl (op_alloc 1 rfl rfl zr369) ?_
  rintro _ ⟨g1, rfl⟩
  refine Nl <| SR <| Ac (op_build (ps := [(0, .const (Value.string { data := #[105, 110, 95, 112, 111, 114, 116] })), (1, .const (Value.int IntKind.i64 0)), (2, .const (Value.int IntKind.i64 32)), (3, .const (Value.bool false))]) (x := (⟨{ data := #[105, 110, 95, 112, 111, 114, 116] }, 0, 32, false⟩ : field_row)) rfl rfl rfl (by kernel_rfl) zr364 ⟨_, _, lfield_row_0, _, by kernel_rfl, (vs (by decide)), _, _, lfield_row_1, _, by kernel_rfl, (vk rfl), _, _, lfield_row_2, _, by kernel_rfl, (vk rfl), _, _, lfield_row_3, _, by kernel_rfl, vb, rfl⟩) rfl <| Ac (op_build (ps := [(0, .const (Value.string { data := #[109, 101, 116, 97, 100, 97, 116, 97] })), (1, .const (Value.int IntKind.i64 2)), (2, .const (Value.int IntKind.i64 64)), (3, .const (Value.bool true))]) (x := (⟨{ data := #[109, 101, 116, 97, 100, 97, 116, 97] }, 2, 64, true⟩ : field_row)) rfl rfl rfl (by kernel_rfl) zr364 ⟨_, _, lfield_row_0, _, by kernel_rfl, (vs (by decide)), _, _, lfield_row_1, _, by kernel_rfl, (vk rfl), _, _, lfield_row_2, _, by kernel_rfl, (vk rfl), _, _, lfield_row_3, _, by kernel_rfl, vb, rfl⟩) rfl <| Ac (op_build (ps := [(0, .const (Value.string { data := #[101, 116, 104, 95, 100, 115, 116] })), (1, .const (Value.int IntKind.i64 3)), (2, .const (Value.int IntKind.i64 48)), (3, .const (Value.bool true))]) (x := (⟨{ data := #[101, 116, 104, 95, 100, 115, 116] }, 3, 48, true⟩ : field_row)) rfl rfl rfl (by kernel_rfl) zr364 ⟨_, _, lfield_row_0, _, by kernel_rfl, (vs (by decide)), _, _, lfield_row_1, _, by kernel_rfl, (vk rfl), _, _, lfield_row_2, _, by kernel_rfl, (vk rfl), _, _, lfield_row_3, _, by kernel_rfl, vb, rfl⟩) rfl <| Ac (op_build (ps := [(0, .const (Value.string { data := #[101, 116, 104, 95, 115, 114, 99] })), (1, .const (Value.int IntKind.i64 4)), (2, .const (Value.int IntKind.i64 48)), (3, .const (Value.bool true))]) (x := (⟨{ data := #[101, 116, 104, 95, 115, 114, 99] }, 4, 48, true⟩ : field_row)) rfl rfl rfl (by kernel_rfl) zr364 ⟨_, _, lfield_row_0, _, by kernel_rfl, (vs (by decide)), _, _, lfield_row_1, _, by kernel_rfl, (vk rfl), _, _, lfield_row_2, _, by kernel_rfl, (vk rfl), _, _, lfield_row_3, _, by kernel_rfl, vb, rfl⟩) rfl <| Ac (op_build (ps := [(0, .const (Value.string { data := #[101, 116, 104, 95, 116, 121, 112, 101] })), (1, .const (Value.int IntKind.i64 5)), (2, .const (Value.int IntKind.i64 16)), (3, .const (Value.bool false))]) (x := (⟨{ data := #[101, 116, 104, 95, 116, 121, 112, 101] }, 5, 16, false⟩ : field_row)) rfl rfl rfl (by kernel_rfl) zr364 ⟨_, _, lfield_row_0, _, by kernel_rfl, (vs (by decide)), _, _, lfield_row_1, _, by kernel_rfl, (vk rfl), _, _, lfield_row_2, _, by kernel_rfl, (vk rfl), _, _, lfield_row_3, _, by kernel_rfl, vb, rfl⟩) rfl <| Ac (op_build (ps := [(0, .const (Value.string { data := #[118, 108, 97, 110, 95, 118, 105, 100] })), (1, .const (Value.int IntKind.i64 6)), (2, .const (Value.int IntKind.i64 13)), (3, .const (Value.bool true))]) (x := (⟨{ data := #[118, 108, 97, 110, 95, 118, 105, 100] }, 6, 13, true⟩ : field_row)) rfl rfl rfl (by kernel_rfl) zr364 ⟨_, _, lfield_row_0, _, by kernel_rfl, (vs (by decide)), _, _, lfield_row_1, _, by kernel_rfl, (vk rfl), _, _, lfield_row_2, _, by kernel_rfl, (vk rfl), _, _, lfield_row_3, _, by kernel_rfl, vb, rfl⟩) rfl ?_
  refine Ac (op_build (ps := [(0, .const (Value.string { data := #[118, 108, 97, 110, 95, 112, 99, 112] })), (1, .const (Value.int IntKind.i64 7)), (2, .const (Value.int IntKind.i64 3)), (3, .const (Value.bool false))]) (x := (⟨{ data := #[118, 108, 97, 110, 95, 112, 99, 112] }, 7, 3, false⟩ : field_row)) rfl rfl rfl (by kernel_rfl) zr364 ⟨_, _, lfield_row_0, _, by kernel_rfl, (vs (by decide)), _, _, lfield_row_1, _, by kernel_rfl, (vk rfl), _, _, lfield_row_2, _, by kernel_rfl, (vk rfl), _, _, lfield_row_3, _, by kernel_rfl, vb, rfl⟩) rfl <| Ac (op_build (ps := [(0, .const (Value.string { data := #[105, 112, 95, 100, 115, 99, 112] })), (1, .const (Value.int IntKind.i64 8)), (2, .const (Value.int IntKind.i64 6)), (3, .const (Value.bool false))]) (x := (⟨{ data := #[105, 112, 95, 100, 115, 99, 112] }, 8, 6, false⟩ : field_row)) rfl rfl rfl (by kernel_rfl) zr364 ⟨_, _, lfield_row_0, _, by kernel_rfl, (vs (by decide)), _, _, lfield_row_1, _, by kernel_rfl, (vk rfl), _, _, lfield_row_2, _, by kernel_rfl, (vk rfl), _, _, lfield_row_3, _, by kernel_rfl, vb, rfl⟩) rfl <| Ac (op_build (ps := [(0, .const (Value.string { data := #[105, 112, 95, 101, 99, 110] })), (1, .const (Value.int IntKind.i64 9)), (2, .const (Value.int IntKind.i64 2)), (3, .const (Value.bool false))]) (x := (⟨{ data := #[105, 112, 95, 101, 99, 110] }, 9, 2, false⟩ : field_row)) rfl rfl rfl (by kernel_rfl) zr364 ⟨_, _, lfield_row_0, _, by kernel_rfl, (vs (by decide)), _, _, lfield_row_1, _, by kernel_rfl, (vk rfl), _, _, lfield_row_2, _, by kernel_rfl, (vk rfl), _, _, lfield_row_3, _, by kernel_rfl, vb, rfl⟩) rfl <| Ac (op_build (ps := [(0, .const (Value.string { data := #[105, 112, 95, 112, 114, 111, 116, 111] })), (1, .const (Value.int IntKind.i64 10)), (2, .const (Value.int IntKind.i64 8)), (3, .const (Value.bool false))]) (x := (⟨{ data := #[105, 112, 95, 112, 114, 111, 116, 111] }, 10, 8, false⟩ : field_row)) rfl rfl rfl (by kernel_rfl) zr364 ⟨_, _, lfield_row_0, _, by kernel_rfl, (vs (by decide)), _, _, lfield_row_1, _, by kernel_rfl, (vk rfl), _, _, lfield_row_2, _, by kernel_rfl, (vk rfl), _, _, lfield_row_3, _, by kernel_rfl, vb, rfl⟩) rfl <| Ac (op_build (ps := [(0, .const (Value.string { data := #[105, 112, 118, 52, 95, 115, 114, 99] })), (1, .const (Value.int IntKind.i64 11)), (2, .const (Value.int IntKind.i64 32)), (3, .const (Value.bool true))]) (x := (⟨{ data := #[105, 112, 118, 52, 95, 115, 114, 99] }, 11, 32, true⟩ : field_row)) rfl rfl rfl (by kernel_rfl) zr364 ⟨_, _, lfield_row_0, _, by kernel_rfl, (vs (by decide)), _, _, lfield_row_1, _, by kernel_rfl, (vk rfl), _, _, lfield_row_2, _, by kernel_rfl, (vk rfl), _, _, lfield_row_3, _, by kernel_rfl, vb, rfl⟩) rfl <| Ac (op_build (ps := [(0, .const (Value.string { data := #[105, 112, 118, 52, 95, 100, 115, 116] })), (1, .const (Value.int IntKind.i64 12)), (2, .const (Value.int IntKind.i64 32)), (3, .const (Value.bool true))]) (x := (⟨{ data := #[105, 112, 118, 52, 95, 100, 115, 116] }, 12, 32, true⟩ : field_row)) rfl rfl rfl (by kernel_rfl) zr364 ⟨_, _, lfield_row_0, _, by kernel_rfl, (vs (by decide)), _, _, lfield_row_1, _, by kernel_rfl, (vk rfl), _, _, lfield_row_2, _, by kernel_rfl, (vk rfl), _, _, lfield_row_3, _, by kernel_rfl, vb, rfl⟩) rfl ?_
  refine Ac (op_build (ps := [(0, .const (Value.string { data := #[116, 99, 112, 95, 115, 114, 99] })), (1, .const (Value.int IntKind.i64 13)), (2, .const (Value.int IntKind.i64 16)), (3, .const (Value.bool false))]) (x := (⟨{ data := #[116, 99, 112, 95, 115, 114, 99] }, 13, 16, false⟩ : field_row)) rfl rfl rfl (by kernel_rfl) zr364 ⟨_, _, lfield_row_0, _, by kernel_rfl, (vs (by decide)), _, _, lfield_row_1, _, by kernel_rfl, (vk rfl), _, _, lfield_row_2, _, by kernel_rfl, (vk rfl), _, _, lfield_row_3, _, by kernel_rfl, vb, rfl⟩) rfl <| Ac (op_build (ps := [(0, .const (Value.string { data := #[116, 99, 112, 95, 100, 115, 116] })), (1, .const (Value.int IntKind.i64 14)), (2, .const (Value.int IntKind.i64 16)), (3, .const (Value.bool false))]) (x := (⟨{ data := #[116, 99, 112, 95, 100, 115, 116] }, 14, 16, false⟩ : field_row)) rfl rfl rfl (by kernel_rfl) zr364 ⟨_, _, lfield_row_0, _, by kernel_rfl, (vs (by decide)), _, _, lfield_row_1, _, by kernel_rfl, (vk rfl), _, _, lfield_row_2, _, by kernel_rfl, (vk rfl), _, _, lfield_row_3, _, by kernel_rfl, vb, rfl⟩) rfl <| Ac (op_build (ps := [(0, .const (Value.string { data := #[117, 100, 112, 95, 115, 114, 99] })), (1, .const (Value.int IntKind.i64 15)), (2, .const (Value.int IntKind.i64 16)), (3, .const (Value.bool false))]) (x := (⟨{ data := #[117, 100, 112, 95, 115, 114, 99] }, 15, 16, false⟩ : field_row)) rfl rfl rfl (by kernel_rfl) zr364 ⟨_, _, lfield_row_0, _, by kernel_rfl, (vs (by decide)), _, _, lfield_row_1, _, by kernel_rfl, (vk rfl), _, _, lfield_row_2, _, by kernel_rfl, (vk rfl), _, _, lfield_row_3, _, by kernel_rfl, vb, rfl⟩) rfl <| Ac (op_build (ps := [(0, .const (Value.string { data := #[117, 100, 112, 95, 100, 115, 116] })), (1, .const (Value.int IntKind.i64 16)), (2, .const (Value.int IntKind.i64 16)), (3, .const (Value.bool false))]) (x := (⟨{ data := #[117, 100, 112, 95, 100, 115, 116] }, 16, 16, false⟩ : field_row)) rfl rfl rfl (by kernel_rfl) zr364 ⟨_, _, lfield_row_0, _, by kernel_rfl, (vs (by decide)), _, _, lfield_row_1, _, by kernel_rfl, (vk rfl), _, _, lfield_row_2, _, by kernel_rfl, (vk rfl), _, _, lfield_row_3, _, by kernel_rfl, vb, rfl⟩) rfl <| Ac (op_build (ps := [(0, .const (Value.string { data := #[105, 99, 109, 112, 118, 52, 95, 116, 121, 112, 101] })), (1, .const (Value.int IntKind.i64 19)), (2, .const (Value.int IntKind.i64 8)), (3, .const (Value.bool false))]) (x := (⟨{ data := #[105, 99, 109, 112, 118, 52, 95, 116, 121, 112, 101] }, 19, 8, false⟩ : field_row)) rfl rfl rfl (by kernel_rfl) zr364 ⟨_, _, lfield_row_0, _, by kernel_rfl, (vs (by decide)), _, _, lfield_row_1, _, by kernel_rfl, (vk rfl), _, _, lfield_row_2, _, by kernel_rfl, (vk rfl), _, _, lfield_row_3, _, by kernel_rfl, vb, rfl⟩) rfl <| Ac (op_build (ps := [(0, .const (Value.string { data := #[105, 99, 109, 112, 118, 52, 95, 99, 111, 100, 101] })), (1, .const (Value.int IntKind.i64 20)), (2, .const (Value.int IntKind.i64 8)), (3, .const (Value.bool false))]) (x := (⟨{ data := #[105, 99, 109, 112, 118, 52, 95, 99, 111, 100, 101] }, 20, 8, false⟩ : field_row)) rfl rfl rfl (by kernel_rfl) zr364 ⟨_, _, lfield_row_0, _, by kernel_rfl, (vs (by decide)), _, _, lfield_row_1, _, by kernel_rfl, (vk rfl), _, _, lfield_row_2, _, by kernel_rfl, (vk rfl), _, _, lfield_row_3, _, by kernel_rfl, vb, rfl⟩) rfl ?_
  refine Ac (op_build (ps := [(0, .const (Value.string { data := #[97, 114, 112, 95, 111, 112] })), (1, .const (Value.int IntKind.i64 21)), (2, .const (Value.int IntKind.i64 16)), (3, .const (Value.bool false))]) (x := (⟨{ data := #[97, 114, 112, 95, 111, 112] }, 21, 16, false⟩ : field_row)) rfl rfl rfl (by kernel_rfl) zr364 ⟨_, _, lfield_row_0, _, by kernel_rfl, (vs (by decide)), _, _, lfield_row_1, _, by kernel_rfl, (vk rfl), _, _, lfield_row_2, _, by kernel_rfl, (vk rfl), _, _, lfield_row_3, _, by kernel_rfl, vb, rfl⟩) rfl <| Ac (op_build (ps := [(0, .const (Value.string { data := #[97, 114, 112, 95, 115, 112, 97] })), (1, .const (Value.int IntKind.i64 22)), (2, .const (Value.int IntKind.i64 32)), (3, .const (Value.bool true))]) (x := (⟨{ data := #[97, 114, 112, 95, 115, 112, 97] }, 22, 32, true⟩ : field_row)) rfl rfl rfl (by kernel_rfl) zr364 ⟨_, _, lfield_row_0, _, by kernel_rfl, (vs (by decide)), _, _, lfield_row_1, _, by kernel_rfl, (vk rfl), _, _, lfield_row_2, _, by kernel_rfl, (vk rfl), _, _, lfield_row_3, _, by kernel_rfl, vb, rfl⟩) rfl <| Ac (op_build (ps := [(0, .const (Value.string { data := #[97, 114, 112, 95, 116, 112, 97] })), (1, .const (Value.int IntKind.i64 23)), (2, .const (Value.int IntKind.i64 32)), (3, .const (Value.bool true))]) (x := (⟨{ data := #[97, 114, 112, 95, 116, 112, 97] }, 23, 32, true⟩ : field_row)) rfl rfl rfl (by kernel_rfl) zr364 ⟨_, _, lfield_row_0, _, by kernel_rfl, (vs (by decide)), _, _, lfield_row_1, _, by kernel_rfl, (vk rfl), _, _, lfield_row_2, _, by kernel_rfl, (vk rfl), _, _, lfield_row_3, _, by kernel_rfl, vb, rfl⟩) rfl <| Ac (op_build (ps := [(0, .const (Value.string { data := #[105, 112, 118, 54, 95, 115, 114, 99] })), (1, .const (Value.int IntKind.i64 26)), (2, .const (Value.int IntKind.i64 128)), (3, .const (Value.bool true))]) (x := (⟨{ data := #[105, 112, 118, 54, 95, 115, 114, 99] }, 26, 128, true⟩ : field_row)) rfl rfl rfl (by kernel_rfl) zr364 ⟨_, _, lfield_row_0, _, by kernel_rfl, (vs (by decide)), _, _, lfield_row_1, _, by kernel_rfl, (vk rfl), _, _, lfield_row_2, _, by kernel_rfl, (vk rfl), _, _, lfield_row_3, _, by kernel_rfl, vb, rfl⟩) rfl <| Ac (op_build (ps := [(0, .const (Value.string { data := #[105, 112, 118, 54, 95, 100, 115, 116] })), (1, .const (Value.int IntKind.i64 27)), (2, .const (Value.int IntKind.i64 128)), (3, .const (Value.bool true))]) (x := (⟨{ data := #[105, 112, 118, 54, 95, 100, 115, 116] }, 27, 128, true⟩ : field_row)) rfl rfl rfl (by kernel_rfl) zr364 ⟨_, _, lfield_row_0, _, by kernel_rfl, (vs (by decide)), _, _, lfield_row_1, _, by kernel_rfl, (vk rfl), _, _, lfield_row_2, _, by kernel_rfl, (vk rfl), _, _, lfield_row_3, _, by kernel_rfl, vb, rfl⟩) rfl <| Ac (op_build (ps := [(0, .const (Value.string { data := #[109, 112, 108, 115, 95, 108, 97, 98, 101, 108] })), (1, .const (Value.int IntKind.i64 34)), (2, .const (Value.int IntKind.i64 20)), (3, .const (Value.bool false))]) (x := (⟨{ data := #[109, 112, 108, 115, 95, 108, 97, 98, 101, 108] }, 34, 20, false⟩ : field_row)) rfl rfl rfl (by kernel_rfl) zr364 ⟨_, _, lfield_row_0, _, by kernel_rfl, (vs (by decide)), _, _, lfield_row_1, _, by kernel_rfl, (vk rfl), _, _, lfield_row_2, _, by kernel_rfl, (vk rfl), _, _, lfield_row_3, _, by kernel_rfl, vb, rfl⟩) rfl ?_
  refine Ac (op_build (ps := [(0, .tmp 1), (1, .tmp 2), (2, .tmp 3), (3, .tmp 4), (4, .tmp 5), (5, .tmp 6), (6, .tmp 7), (7, .tmp 8), (8, .tmp 9), (9, .tmp 10), (10, .tmp 11), (11, .tmp 12), (12, .tmp 13), (13, .tmp 14), (14, .tmp 15), (15, .tmp 16), (16, .tmp 17), (17, .tmp 18), (18, .tmp 19), (19, .tmp 20), (20, .tmp 21), (21, .tmp 22), (22, .tmp 23), (23, .tmp 24)]) (x := (Vector.set (Vector.set (Vector.set (Vector.set (Vector.set (Vector.set (Vector.set (Vector.set (Vector.set (Vector.set (Vector.set (Vector.set (Vector.set (Vector.set (Vector.set (Vector.set (Vector.set (Vector.set (Vector.set (Vector.set (Vector.set (Vector.set (Vector.set (Vector.set (Vector.replicate 24 zfield_row) 0 (⟨{ data := #[105, 110, 95, 112, 111, 114, 116] }, 0, 32, false⟩ : field_row) (by decide)) 1 (⟨{ data := #[109, 101, 116, 97, 100, 97, 116, 97] }, 2, 64, true⟩ : field_row) (by decide)) 2 (⟨{ data := #[101, 116, 104, 95, 100, 115, 116] }, 3, 48, true⟩ : field_row) (by decide)) 3 (⟨{ data := #[101, 116, 104, 95, 115, 114, 99] }, 4, 48, true⟩ : field_row) (by decide)) 4 (⟨{ data := #[101, 116, 104, 95, 116, 121, 112, 101] }, 5, 16, false⟩ : field_row) (by decide)) 5 (⟨{ data := #[118, 108, 97, 110, 95, 118, 105, 100] }, 6, 13, true⟩ : field_row) (by decide)) 6 (⟨{ data := #[118, 108, 97, 110, 95, 112, 99, 112] }, 7, 3, false⟩ : field_row) (by decide)) 7 (⟨{ data := #[105, 112, 95, 100, 115, 99, 112] }, 8, 6, false⟩ : field_row) (by decide)) 8 (⟨{ data := #[105, 112, 95, 101, 99, 110] }, 9, 2, false⟩ : field_row) (by decide)) 9 (⟨{ data := #[105, 112, 95, 112, 114, 111, 116, 111] }, 10, 8, false⟩ : field_row) (by decide)) 10 (⟨{ data := #[105, 112, 118, 52, 95, 115, 114, 99] }, 11, 32, true⟩ : field_row) (by decide)) 11 (⟨{ data := #[105, 112, 118, 52, 95, 100, 115, 116] }, 12, 32, true⟩ : field_row) (by decide)) 12 (⟨{ data := #[116, 99, 112, 95, 115, 114, 99] }, 13, 16, false⟩ : field_row) (by decide)) 13 (⟨{ data := #[116, 99, 112, 95, 100, 115, 116] }, 14, 16, false⟩ : field_row) (by decide)) 14 (⟨{ data := #[117, 100, 112, 95, 115, 114, 99] }, 15, 16, false⟩ : field_row) (by decide)) 15 (⟨{ data := #[117, 100, 112, 95, 100, 115, 116] }, 16, 16, false⟩ : field_row) (by decide)) 16 (⟨{ data := #[105, 99, 109, 112, 118, 52, 95, 116, 121, 112, 101] }, 19, 8, false⟩ : field_row) (by decide)) 17 (⟨{ data := #[105, 99, 109, 112, 118, 52, 95, 99, 111, 100, 101] }, 20, 8, false⟩ : field_row) (by decide)) 18 (⟨{ data := #[97, 114, 112, 95, 111, 112] }, 21, 16, false⟩ : field_row) (by decide)) 19 (⟨{ data := #[97, 114, 112, 95, 115, 112, 97] }, 22, 32, true⟩ : field_row) (by decide)) 20 (⟨{ data := #[97, 114, 112, 95, 116, 112, 97] }, 23, 32, true⟩ : field_row) (by decide)) 21 (⟨{ data := #[105, 112, 118, 54, 95, 115, 114, 99] }, 26, 128, true⟩ : field_row) (by decide)) 22 (⟨{ data := #[105, 112, 118, 54, 95, 100, 115, 116] }, 27, 128, true⟩ : field_row) (by decide)) 23 (⟨{ data := #[109, 112, 108, 115, 95, 108, 97, 98, 101, 108] }, 34, 20, false⟩ : field_row) (by decide))) rfl rfl rfl (by kernel_rfl) zr369 ⟨_, _, Lens.idx 24 kfield_row 0 (by decide), _, by kernel_rfl, (vt rfl), _, _, Lens.idx 24 kfield_row 1 (by decide), _, by kernel_rfl, (vt rfl), _, _, Lens.idx 24 kfield_row 2 (by decide), _, by kernel_rfl, (vt rfl), _, _, Lens.idx 24 kfield_row 3 (by decide), _, by kernel_rfl, (vt rfl), _, _, Lens.idx 24 kfield_row 4 (by decide), _, by kernel_rfl, (vt rfl), _, _, Lens.idx 24 kfield_row 5 (by decide), _, by kernel_rfl, (vt rfl), _, _, Lens.idx 24 kfield_row 6 (by decide), _, by kernel_rfl, (vt rfl), _, _, Lens.idx 24 kfield_row 7 (by decide), _, by kernel_rfl, (vt rfl), _, _, Lens.idx 24 kfield_row 8 (by decide), _, by kernel_rfl, (vt rfl), _, _, Lens.idx 24 kfield_row 9 (by decide), _, by kernel_rfl, (vt rfl), _, _, Lens.idx 24 kfield_row 10 (by decide), _, by kernel_rfl, (vt rfl), _, _, Lens.idx 24 kfield_row 11 (by decide), _, by kernel_rfl, (vt rfl), _, _, Lens.idx 24 kfield_row 12 (by decide), _, by kernel_rfl, (vt rfl), _, _, Lens.idx 24 kfield_row 13 (by decide), _, by kernel_rfl, (vt rfl), _, _, Lens.idx 24 kfield_row 14 (by decide), _, by kernel_rfl, (vt rfl), _, _, Lens.idx 24 kfield_row 15 (by decide), _, by kernel_rfl, (vt rfl), _, _, Lens.idx 24 kfield_row 16 (by decide), _, by kernel_rfl, (vt rfl), _, _, Lens.idx 24 kfield_row 17 (by decide), _, by kernel_rfl, (vt rfl), _, _, Lens.idx 24 kfield_row 18 (by decide), _, by kernel_rfl, (vt rfl), _, _, Lens.idx 24 kfield_row 19 (by decide), _, by kernel_rfl, (vt rfl), _, _, Lens.idx 24 kfield_row 20 (by decide), _, by kernel_rfl, (vt rfl), _, _, Lens.idx 24 kfield_row 21 (by decide), _, by kernel_rfl, (vt rfl), _, _, Lens.idx 24 kfield_row 22 (by decide), _, by kernel_rfl, (vt rfl), _, _, Lens.idx 24 kfield_row 23 (by decide), _, by kernel_rfl, (vt rfl), rfl⟩) rfl ?_
  refine Sto ty369 1 rfl <| Nl <| AW.ret ?_
  obtain rfl := si h
  exact ret1 Tryz.results344 rfl (out_cell rfl (i := 1) rfl ty369)
def F_field_at (f1 : Int) : Option field_row :=
  (F_field_Right f1).bind fun x3 => (bif (!x3) then some (⟨(⟨#[]⟩ : ByteArray), (-1), 0, false⟩ : field_row) else (F_field_rows).bind fun x4 => (lget (Vector.toList x4) f1).bind fun e5 => some e5)
theorem c_field_at (f1 : Int) (r : field_row) (h : F_field_at f1 = some r) : PCon Tryz.prog 336 [rd (kint .i64) f1] (rd kfield_row r) := by
  refine PCon.of (Con.intro0 Tryz.func336 rfl Tryz.ntmps336 rfl fun w H => ?_)
  unfold F_field_at at h
  refine SR <| Ct rfl (op_alloc 3 rfl rfl zr364) ?_
  rintro _ ⟨g2, rfl⟩
  refine Nl <| AW.seq <| AW.seq ?_
  obtain ⟨x3, hx3, h⟩ := bsome h
  refine Rg <| Md rfl <| Cl [3] (c_field_Right _ _ hx3) e269 rfl <| Ac (op_not rfl rfl (vt rfl)) rfl <| Nl <| Cn rfl (fun hc => ?_) (fun hc => ?_)
  · have h := cond_t hc h
    refine SR <| Ac (op_build (ps := [(1, .const (Value.int IntKind.i64 (-1)))]) (x := (⟨(⟨#[]⟩ : ByteArray), (-1), 0, false⟩ : field_row)) rfl rfl rfl (by kernel_rfl) zr364 ⟨_, _, lfield_row_1, _, by kernel_rfl, (vk rfl), rfl⟩) rfl <| Sto ty364 3 rfl <| Nl <| AW.ret ?_
    obtain rfl := si h
    exact ret1 Tryz.results336 rfl (out_cell rfl (i := 3) rfl ty364)
  · have h := cond_f hc h
    refine AW.skip <| AW.seq ?_
    obtain ⟨x4, hx4, h⟩ := bsome h
    obtain ⟨e5, he5, h⟩ := bsome h
    refine Rg <| Cl [] (c_field_rows _ hx4) e344 rfl <| Md rfl <| Ac (op_indexv rfl rfl ar369 ty364 (vt rfl) (vt rfl) he5) rfl <| Sto ty364 3 rfl <| Nl <| AW.ret ?_
    obtain rfl := si h
    exact ret1 Tryz.results336 rfl (out_cell rfl (i := 3) rfl ty364)
def F_field_Bits (f1 : Int) : Option Int :=
  (F_field_at f1).bind fun x2 => some x2.bits
theorem c_field_Bits (f1 : Int) (r : Int) (h : F_field_Bits f1 = some r) : PCon Tryz.prog 312 [rd (kint .i64) f1] (rd (kint .i64) r) := by
  refine PCon.of (Con.intro0 Tryz.func312 rfl Tryz.ntmps312 rfl fun w H => ?_)
  unfold F_field_Bits at h
  refine SR <| Ak rfl <| Nl <| AW.seq ?_
  obtain ⟨x2, hx2, h⟩ := bsome h
  refine Rg <| Md rfl <| Cl [3] (c_field_at _ _ hx2) e336 rfl <| Ac (op_fieldv lfield_row_2 rfl rfl fl364_2 ft364_2 ty3 rfl (vt rfl)) rfl <| As rfl <| Nl <| AW.ret ?_
  obtain rfl := si h
  exact ret1 Tryz.results312 rfl (out_tmp rfl)
def F_wide_low (n1 : Int) : Option (BitVec 64) :=
  (bif (decide (n1 ≥ 64)) then some (18446744073709551615 : BitVec 64) else (oushl (1 : BitVec 64) (imax n1 0)).bind fun q2 => some (q2 - (1 : BitVec 64)))
theorem c_wide_low (n1 : Int) (r : (BitVec 64)) (h : F_wide_low n1 = some r) : PCon Tryz.prog 299 [rd (kint .i64) n1] (rd ku64 r) := by
  refine PCon.of (Con.intro0 Tryz.func299 rfl Tryz.ntmps299 rfl fun w H => ?_)
  unfold F_wide_low at h
  refine SR <| Ac (op_assign (A := rd ku64 (0 : BitVec 64)) rfl rfl (vku (0 : BitVec 64) rfl)) rfl <| Nl <| AW.seq <| SR <| Md rfl <| Ac (op_geq rfl rfl (vt rfl) (vk rfl)) rfl <| Nl <| Cn rfl (fun hc => ?_) (fun hc => ?_)
  · have h := cond_t hc h
    refine SR <| Ac (op_assign (A := rd ku64 (18446744073709551615 : BitVec 64)) rfl rfl (vku (18446744073709551615 : BitVec 64) rfl)) rfl <| Nl <| AW.ret ?_
    obtain rfl := si h
    exact ret1 Tryz.results299 rfl (out_tmp rfl)
  · have h := cond_f hc h
    refine AW.skip <| AW.seq ?_
    obtain ⟨q2, hq2, h⟩ := bsome h
    refine Rg <| Md rfl <| Ac (op_max rfl rfl (vt rfl) (vk rfl)) rfl <| Ac (op_ushl rfl rfl (vku (1 : BitVec 64) rfl) (vt rfl) hq2) rfl <| Ac (op_usub rfl rfl (vt rfl) (vku (1 : BitVec 64) rfl)) rfl <| As rfl <| Nl <| AW.ret ?_
    obtain rfl := si h
    exact ret1 Tryz.results299 rfl (out_tmp rfl)
end Go.Proofs.YtknpgojdkobgjaaGreat.W
set_option linter.unusedVariables false
set_option maxRecDepth 4000
set_option linter.unusedSimpArgs false
namespace Go.Proofs.YtknpgojdkobgjaaGreat.W
open Go Go.Wb
theorem e299 : Ent Tryz.prog 299 := Ent.mk Tryz.func299 rfl rfl
theorem e312 : Ent Tryz.prog 312 := Ent.mk Tryz.func312 rfl rfl
theorem e254 : Ent Tryz.prog 254 := Ent.mk Tryz.func254 rfl rfl
theorem e306 : Ent Tryz.prog 306 := Ent.mk Tryz.func306 rfl rfl
theorem e305 : Ent Tryz.prog 305 := Ent.mk Tryz.func305 rfl rfl
theorem e268 : Ent Tryz.prog 268 := Ent.mk Tryz.func268 rfl rfl
theorem e270 : Ent Tryz.prog 270 := Ent.mk Tryz.func270 rfl rfl
theorem e77 : Ent Tryz.prog 77 := Ent.mk Tryz.func77 rfl rfl
theorem e275 : Ent Tryz.prog 275 := Ent.mk Tryz.func275 rfl rfl
theorem e207 : Ent Tryz.prog 207 := Ent.mk Tryz.func207 rfl rfl
theorem e180 : Ent Tryz.prog 180 := Ent.mk Tryz.func180 rfl rfl
theorem e238 : Ent Tryz.prog 238 := Ent.mk Tryz.func238 rfl rfl
theorem e206 : Ent Tryz.prog 206 := Ent.mk Tryz.func206 rfl rfl
theorem e149 : Ent Tryz.prog 149 := Ent.mk Tryz.func149 rfl rfl
theorem e239 : Ent Tryz.prog 239 := Ent.mk Tryz.func239 rfl rfl
def F_wide_Low (n1 : Int) : Option Wide :=
  (F_wide_low (IntKind.i64.wrap ((imin (imax n1 0) 128) - 64))).bind fun x3 => (F_wide_low (imin (imax n1 0) 128)).bind fun x4 => some (⟨x3, x4⟩ : Wide)
theorem c_wide_Low (n1 : Int) (r : Wide) (h : F_wide_Low n1 = some r) : PCon Tryz.prog 254 [rd (kint .i64) n1] (rd kWide r) := by
  refine PCon.of (Con.intro0 Tryz.func254 rfl Tryz.ntmps254 rfl fun w H => ?_)
  unfold F_wide_Low at h
  refine SR <| Ct rfl (op_alloc 3 rfl rfl zr42) ?_
  rintro _ ⟨g2, rfl⟩
  refine Nl <| SR <| Md rfl <| Ac (op_max rfl rfl (vt rfl) (vk rfl)) rfl <| Ac (op_min rfl rfl (vt rfl) (vk rfl)) rfl <| As rfl <| Nl <| AW.seq ?_
  obtain ⟨x3, hx3, h⟩ := bsome h
  obtain ⟨x4, hx4, h⟩ := bsome h
  refine Rg <| Md rfl <| Ac (op_sub rfl rfl (vt rfl) (vk rfl)) rfl <| Cl [7] (c_wide_low _ _ hx3) e299 rfl <| Md rfl <| Cl [9] (c_wide_low _ _ hx4) e299 rfl <| Ac (op_build (ps := [(0, .tmp 8), (1, .tmp 10)]) (x := (⟨x3, x4⟩ : Wide)) rfl rfl rfl (by kernel_rfl) zr42 ⟨_, _, lWide_0, _, by kernel_rfl, (vt rfl), _, _, lWide_1, _, by kernel_rfl, (vt rfl), rfl⟩) rfl <| Sto ty42 3 rfl <| Nl <| AW.ret ?_
  obtain rfl := si h
  exact ret1 Tryz.results254 rfl (out_cell rfl (i := 3) rfl ty42)
def F_oxm_Tern (o1 : Oxm) : Option Tern :=
  (F_field_Right o1.Field).bind fun x4 => (bif (!x4) then some (⟨zWide, zWide⟩ : Tern) else (bif o1.Masked then some (⟨o1.Value, o1.Mask⟩ : Tern) else (F_field_Bits o1.Field).bind fun x5 => (F_wide_Low x5).bind fun x6 => some (⟨o1.Value, x6⟩ : Tern)))
theorem c_oxm_Tern (o1 : Oxm) (r : Tern) (h : F_oxm_Tern o1 = some r) : PCon Tryz.prog 275 [rd kOxm o1] (rd kTern r) := by
  refine PCon.of (Con.intro0 Tryz.func275 rfl Tryz.ntmps275 rfl fun w H => ?_)
  unfold F_oxm_Tern at h
  refine SR <| Ct rfl (op_box 2 rfl rfl (vt rfl)) ?_
  rintro _ ⟨g2, rfl⟩
  refine Ct rfl (op_alloc 3 rfl rfl zr85) ?_
  rintro _ ⟨g3, rfl⟩
  refine Nl <| AW.seq <| AW.block <| AW.seq ?_
  obtain ⟨x4, hx4, h⟩ := bsome h
  refine Rg <| FdA lOxm_0 fl119_0 rfl <| Ld ty3 2 rfl <| Cl [5] (c_field_Right _ _ hx4) e269 rfl <| Ac (op_not rfl rfl (vt rfl)) rfl <| As rfl <| Nl <| Cn rfl (fun hc => ?_) (fun hc => ?_)
  · have h := cond_t hc h
    refine SR <| Ac (op_build (ps := []) (x := (⟨zWide, zWide⟩ : Tern)) rfl rfl rfl (by kernel_rfl) zr85 rfl) rfl <| Sto ty85 3 rfl <| Nl <| AW.ret ?_
    obtain rfl := si h
    exact ret1 Tryz.results275 rfl (out_cell rfl (i := 3) rfl ty85)
  · have h := cond_f hc h
    refine SR <| FdA lOxm_1 fl119_1 rfl <| Ld ty4 2 rfl <| As rfl <| Nl <| Cn rfl (fun hc => ?_) (fun hc => ?_)
    · have h := cond_t hc h
      refine SR <| FdA lOxm_2 fl119_2 rfl <| Ld ty42 2 rfl <| FdA lOxm_3 fl119_3 rfl <| Ld ty42 2 rfl <| Ac (op_build (ps := [(0, .tmp 13), (1, .tmp 15)]) (x := (⟨o1.Value, o1.Mask⟩ : Tern)) rfl rfl rfl (by kernel_rfl) zr85 ⟨_, _, lTern_0, _, by kernel_rfl, (vt rfl), _, _, lTern_1, _, by kernel_rfl, (vt rfl), rfl⟩) rfl <| Sto ty85 3 rfl <| Nl <| AW.ret ?_
      obtain rfl := si h
      exact ret1 Tryz.results275 rfl (out_cell rfl (i := 3) rfl ty85)
    · have h := cond_f hc h
      refine AW.skip <| AW.seq ?_
      obtain ⟨x5, hx5, h⟩ := bsome h
      obtain ⟨x6, hx6, h⟩ := bsome h
      refine AW.regionAny [⟨[1], [17], [], []⟩, ⟨[17], [18], [2], []⟩, ⟨[1], [19], [], []⟩, ⟨[19], [20], [2], []⟩, ⟨[20], [21], [], []⟩, ⟨[21], [22], [], []⟩, ⟨[18, 22], [23], [], []⟩, ⟨[2, 23], [], [3], [3]⟩] mixed (by kernel_rfl) <| SFd lOxm_2 fl119_2 rfl <| SLd ty42 2 rfl <| SFd lOxm_0 fl119_0 rfl <| SLd ty3 2 rfl <| SCl [20] (c_field_Bits _ _ hx5) e312 rfl <| SCl [21] (c_wide_Low _ _ hx6) e254 rfl <| Sc (lo [18, 22] [] rfl fun S hs hr => op_build (ps := [(0, .tmp 18), (1, .tmp 22)]) (x := (⟨o1.Value, x6⟩ : Tern)) rfl rfl rfl (by kernel_rfl) zr85 ⟨_, _, lTern_0, _, by kernel_rfl, (vh hs 18 rfl rfl), _, _, lTern_1, _, by kernel_rfl, (vh hs 22 rfl rfl), rfl⟩) rfl <| SSt ty85 3 rfl <| AW.ret ?_
      obtain rfl := si h
      exact ret1 Tryz.results275 rfl (out_cell rfl (i := 3) rfl ty85)
def F_rewrite_Clean_1 (i1 : Int) (cp2 : (Vector Tern 24)) : Option Tern :=
  (chk 24 i1).bind fun j4 => (F_tern_Clean (Vector.get cp2 j4)).bind fun x5 => some x5
theorem c_rewrite_Clean_1 (i1 : Int) (cp2 : (Vector Tern 24)) (r : Tern) (h : F_rewrite_Clean_1 i1 cp2 = some r) : PCon Tryz.prog 306 [rd (kint .i64) i1, rp (karr 24 kTern) cp2] (rd kTern r) := by
  refine PCon.of (Con.intro0 Tryz.func306 rfl Tryz.ntmps306 rfl fun w H => ?_)
  unfold F_rewrite_Clean_1 at h
  refine SR <| Ct rfl (op_alloc 4 rfl rfl zr85) ?_
  rintro _ ⟨g3, rfl⟩
  refine Nl <| AW.seq ?_
  obtain ⟨j4, hj4, h⟩ := bsome h
  obtain ⟨x5, hx5, h⟩ := bsome h
  refine Rg <| Md rfl <| Ac (op_indexp' rfl rfl ar101 (vt rfl) (vt rfl) hj4) rfl <| Lp1 ty85 rfl <| Cl [6] (c_tern_Clean _ _ hx5) e127 rfl <| Sto ty85 4 rfl <| Nl <| AW.ret ?_
  obtain rfl := si h
  exact ret1 Tryz.results306 rfl (out_cell rfl (i := 4) rfl ty85)
def F_rewrite_each_Rewrite_l1 (f1 : (Int → Option Tern)) : Nat → Nat → (Vector Tern 24) → Option (Vector Tern 24)
  | 0, i6, b5 => some b5
  | m7 + 1, i6, b5 => (f1 (i6 : Int)).bind fun x8 => (chk 24 (i6 : Int)).bind fun j9 => (F_rewrite_each_Rewrite_l1 f1 m7) (i6 + 1) (Vector.set b5 j9.1 x8 j9.2)
def F_rewrite_each_Rewrite (f1 : (Int → Option Tern)) : Option (Vector Tern 24) :=
  F_rewrite_each_Rewrite_l1 f1 (24 : Int).toNat 0 (Vector.replicate 24 zTern)
theorem c_rewrite_each_Rewrite (f1 : (Int → Option Tern)) (r : (Vector Tern 24)) (h : F_rewrite_each_Rewrite f1 = some r) : PCon Tryz.prog 305 [fn1 Tryz.prog (kint .i64) kTern f1] (rd (karr 24 kTern) r) := by
  refine PCon.of (Con.intro0 Tryz.func305 rfl Tryz.ntmps305 rfl fun w H => ?_)
  unfold F_rewrite_each_Rewrite at h
  refine SR <| Ct rfl (op_alloc 3 rfl rfl zr101) ?_
  rintro _ ⟨g2, rfl⟩
  refine Nl <| SR <| Ct rfl (op_alloc 4 rfl rfl zr101) ?_
  rintro _ ⟨g3, rfl⟩
  refine Nl <| AW.seq <| SR <| Mk rfl <| Nl <| AW.block <| AW.loopG (d := []) (ν := Nat × Nat × (Vector Tern 24)) (fun n => Cnt 24 n.2.1 n.1 ∧ F_rewrite_each_Rewrite_l1 f1 n.1 n.2.1 n.2.2 = some r) (fun n => n.1) (fun n => [(0, fn1 Tryz.prog (kint .i64) kTern f1), (2, ptrL g2 (Lens.id (karr 24 kTern))), (3, ptrL g3 (Lens.id (karr 24 kTern))), (5, rd (kint .i64) (n.2.1 : Int))]) (fun n => [(3, Blk g2 101 (karr 24 kTern) (Vector.replicate 24 zTern)), (4, Blk g3 101 (karr 24 kTern) n.2.2)]) ((24 : Int).toNat, 0, (Vector.replicate 24 zTern)) ⟨Cnt.start _, h⟩ ⟨rfl, ⟨rfl, rfl, rfl, rfl, trivial⟩, ⟨rfl, rfl, trivial⟩⟩ ?_
  rintro ⟨m7, i6, b5⟩ ⟨hsf1, h⟩
  change Cnt 24 i6 m7 at hsf1
  change F_rewrite_each_Rewrite_l1 f1 m7 i6 b5 = some r at h
  change AW _ _ _ ⟨slots [(0, fn1 Tryz.prog (kint .i64) kTern f1), (2, ptrL g2 (Lens.id (karr 24 kTern))), (3, ptrL g3 (Lens.id (karr 24 kTern))), (5, rd (kint .i64) (i6 : Int))], ress [(3, Blk g2 101 (karr 24 kTern) (Vector.replicate 24 zTern)), (4, Blk g3 101 (karr 24 kTern) b5)], _⟩
  cases m7 with
  | zero =>
    unfold F_rewrite_each_Rewrite_l1 at h
    refine SR <| Ac (op_lss rfl rfl (vt rfl) (vk rfl)) rfl <| Nl <| AW.seq <| Cn rfl (fun hc => absurd (of_decide_eq_true hc) hsf1.zero) (fun hc => ?_)
    refine AW.exit <| SR <| Ld ty101 4 rfl <| Sto ty101 3 rfl <| Nl <| AW.ret ?_
    obtain rfl := si h
    exact ret1 Tryz.results305 rfl (out_cell rfl (i := 3) rfl ty101)
  | succ m7 =>
    unfold F_rewrite_each_Rewrite_l1 at h
    generalize hgo1 : F_rewrite_each_Rewrite_l1 f1 m7 = go1 at h
    refine SR <| Ac (op_lss rfl rfl (vt rfl) (vk rfl)) rfl <| Nl <| AW.seq <| Cn rfl (fun hc => ?_) (fun hc => absurd hsf1.succ (of_decide_eq_false hc))
    have hlti6 := of_decide_eq_true hc
    refine AW.skip <| AW.seq <| AW.block <| SR <| Md rfl <| As rfl <| Nl ?_
    obtain ⟨x8, hx8, h⟩ := bsome h
    obtain ⟨j9, hj9, h⟩ := bsome h
    refine Rg <| Md rfl <| Ac (op_move (A := fn1 Tryz.prog (kint .i64) kTern f1) rfl rfl (vt rfl)) rfl <| Md rfl <| Ac (op_call1 hx8 rfl rfl (vt rfl) (vt rfl)) rfl <| Ac (op_index' rfl rfl ar101 (vt rfl) (vt rfl) hj9) rfl <| Sto ty85 4 rfl <| Nl <| Rg <| Ac (op_incrc rfl rfl (vt rfl) (vk rfl) rfl hlti6) rfl <| Md rfl <| Nl ?_
    subst hgo1
    exact ⟨(m7, i6 + 1, (Vector.set b5 j9.1 x8 j9.2)), Nat.lt_succ_self _, ⟨hsf1.next, h⟩, ⟨rfl, ⟨rfl, rfl, rfl, rfl, trivial⟩, ⟨rfl, rfl, trivial⟩⟩⟩
def F_rewrite_Clean (r1 : (Vector Tern 24)) : Option (Vector Tern 24) :=
  (F_rewrite_each_Rewrite (fun x => F_rewrite_Clean_1 x r1)).bind fun x4 => some x4
theorem c_rewrite_Clean (r1 : (Vector Tern 24)) (r : (Vector Tern 24)) (h : F_rewrite_Clean r1 = some r) : PCon Tryz.prog 268 [rd (karr 24 kTern) r1] (rd (karr 24 kTern) r) := by
  refine PCon.of (Con.intro0 Tryz.func268 rfl Tryz.ntmps268 rfl fun w H => ?_)
  unfold F_rewrite_Clean at h
  refine SR <| Ct rfl (op_box 2 rfl rfl (vt rfl)) ?_
  rintro _ ⟨g2, rfl⟩
  refine Ct rfl (op_alloc 3 rfl rfl zr101) ?_
  rintro _ ⟨g3, rfl⟩
  refine Nl <| AW.seq <| AW.freezeB 1 2 rfl rfl rfl ?_
  obtain ⟨x4, hx4, h⟩ := bsome h
  refine Rg <| Ac (op_fn1 (cs := [.tmp 1]) (CAs := [rp (karr 24 kTern) r1]) (fun x => F_rewrite_Clean_1 x r1) rfl rfl e306 ⟨vt rfl, trivial⟩ (fun x y h => c_rewrite_Clean_1 _ _ y h)) rfl <| Cl [3] (c_rewrite_each_Rewrite _ _ hx4) e305 rfl <| Sto ty101 3 rfl <| Nl <| AW.ret ?_
  obtain rfl := si h
  exact ret1 Tryz.results268 rfl (out_cell rfl (i := 3) rfl ty101)
def F_rewrite_over (a1 : Tern) (b2 : Tern) : Option Tern :=
  (F_tern_Clean a1).bind fun x6 => (F_tern_Clean b2).bind fun x7 => (F_wide_Less x6.Value x7.Mask).bind fun x8 => (F_wide_Or x8 x7.Value).bind fun x9 => (F_wide_Or x6.Mask x7.Mask).bind fun x10 => some (⟨x9, x10⟩ : Tern)
theorem c_rewrite_over (a1 : Tern) (b2 : Tern) (r : Tern) (h : F_rewrite_over a1 b2 = some r) : PCon Tryz.prog 270 [rd kTern a1, rd kTern b2] (rd kTern r) := by
  refine PCon.of (Con.intro0 Tryz.func270 rfl Tryz.ntmps270 rfl fun w H => ?_)
  unfold F_rewrite_over at h
  refine SR <| Ct rfl (op_box 3 rfl rfl (vt rfl)) ?_
  rintro _ ⟨g3, rfl⟩
  refine Ct rfl (op_box 4 rfl rfl (vt rfl)) ?_
  rintro _ ⟨g4, rfl⟩
  refine Ct rfl (op_alloc 5 rfl rfl zr85) ?_
  rintro _ ⟨g5, rfl⟩
  refine Nl <| AW.seq ?_
  obtain ⟨x6, hx6, h⟩ := bsome h
  obtain ⟨x7, hx7, h⟩ := bsome h
  refine AW.regionAny [⟨[2], [5], [3], []⟩, ⟨[5], [6], [], []⟩, ⟨[3], [7], [4], []⟩, ⟨[7], [8], [], []⟩, ⟨[2, 6], [], [3], [3]⟩, ⟨[3, 8], [], [4], [4]⟩] mixed (by kernel_rfl) <| SLd ty85 3 rfl <| SCl [5] (c_tern_Clean _ _ hx6) e127 rfl <| SLd ty85 4 rfl <| SCl [7] (c_tern_Clean _ _ hx7) e127 rfl <| SSt ty85 3 rfl <| SSt ty85 4 rfl <| AW.seq ?_
  obtain ⟨x8, hx8, h⟩ := bsome h
  obtain ⟨x9, hx9, h⟩ := bsome h
  obtain ⟨x10, hx10, h⟩ := bsome h
  refine AW.regionAny [⟨[2], [9], [], []⟩, ⟨[9], [10], [3], []⟩, ⟨[3], [11], [], []⟩, ⟨[11], [12], [4], []⟩, ⟨[10, 12], [13], [], []⟩, ⟨[3], [14], [], []⟩, ⟨[14], [15], [4], []⟩, ⟨[13, 15], [16], [], []⟩, ⟨[2], [17], [], []⟩, ⟨[17], [18], [3], []⟩, ⟨[3], [19], [], []⟩, ⟨[19], [20], [4], []⟩, ⟨[18, 20], [21], [], []⟩, ⟨[16, 21], [22], [], []⟩, ⟨[4, 22], [], [5], [5]⟩] mixed (by kernel_rfl) <| SFd lTern_0 fl85_0 rfl <| SLd ty42 3 rfl <| SFd lTern_1 fl85_1 rfl <| SLd ty42 4 rfl <| SCl [10, 12] (c_wide_Less _ _ _ hx8) e176 rfl <| SFd lTern_0 fl85_0 rfl <| SLd ty42 4 rfl <| SCl [13, 15] (c_wide_Or _ _ _ hx9) e175 rfl <| SFd lTern_1 fl85_1 rfl <| SLd ty42 3 rfl <| SFd lTern_1 fl85_1 rfl <| SLd ty42 4 rfl <| SCl [18, 20] (c_wide_Or _ _ _ hx10) e175 rfl <| Sc (lo [16, 21] [] rfl fun S hs hr => op_build (ps := [(0, .tmp 16), (1, .tmp 21)]) (x := (⟨x9, x10⟩ : Tern)) rfl rfl rfl (by kernel_rfl) zr85 ⟨_, _, lTern_0, _, by kernel_rfl, (vh hs 16 rfl rfl), _, _, lTern_1, _, by kernel_rfl, (vh hs 21 rfl rfl), rfl⟩) rfl <| SSt ty85 5 rfl <| AW.ret ?_
  obtain rfl := si h
  exact ret1 Tryz.results270 rfl (out_cell rfl (i := 5) rfl ty85)
def F_rewrite_Set (r1 : (Vector Tern 24)) (f2 : Int) (value3 : Wide) (mask4 : Wide) : Option (Vector Tern 24) :=
  (F_rewrite_Clean r1).bind fun x9 => (F_field_Right f2).bind fun x10 => (bif x10 then (chk 24 f2).bind fun j11 => (F_rewrite_over (Vector.get x9 j11) (⟨value3, mask4⟩ : Tern)).bind fun x12 => (chk 24 f2).bind fun j13 => some (Vector.set x9 j13.1 x12 j13.2) else some x9)
theorem c_rewrite_Set (r1 : (Vector Tern 24)) (f2 : Int) (value3 : Wide) (mask4 : Wide) (r : (Vector Tern 24)) (h : F_rewrite_Set r1 f2 value3 mask4 = some r) : PCon Tryz.prog 207 [rd (karr 24 kTern) r1, rd (kint .i64) f2, rd kWide value3, rd kWide mask4] (rd (karr 24 kTern) r) := by
  refine PCon.of (Con.intro0 Tryz.func207 rfl Tryz.ntmps207 rfl fun w H => ?_)
  unfold F_rewrite_Set at h
  refine SR <| Ct rfl (op_box 5 rfl rfl (vt rfl)) ?_
  rintro _ ⟨g5, rfl⟩
  refine Ct rfl (op_box 7 rfl rfl (vt rfl)) ?_
  rintro _ ⟨g6, rfl⟩
  refine Ct rfl (op_box 8 rfl rfl (vt rfl)) ?_
  rintro _ ⟨g7, rfl⟩
  refine Ct rfl (op_alloc 9 rfl rfl zr101) ?_
  rintro _ ⟨g8, rfl⟩
  refine Nl <| AW.seq ?_
  obtain ⟨x9, hx9, h⟩ := bsome h
  refine Rg <| Ld ty101 5 rfl <| Cl [9] (c_rewrite_Clean _ _ hx9) e268 rfl <| Sto ty101 5 rfl <| Nl <| AW.seq <| AW.seq ?_
  obtain ⟨x10, hx10, h⟩ := bsome h
  refine Rg <| Md rfl <| Cl [11] (c_field_Right _ _ hx10) e269 rfl <| Nl <| Cn rfl (fun hc => ?_) (fun hc => ?_)
  · have h := cond_t hc h
    obtain ⟨j11, hj11, h⟩ := bsome h
    obtain ⟨x12, hx12, h⟩ := bsome h
    obtain ⟨j13, hj13, h⟩ := bsome h
    refine AW.regionAny [⟨[1], [13], [], []⟩, ⟨[1], [14], [], []⟩, ⟨[4, 14], [15], [], []⟩, ⟨[15], [16], [5], []⟩, ⟨[6], [17], [7], []⟩, ⟨[7], [18], [8], []⟩, ⟨[17, 18], [19], [], []⟩, ⟨[16, 19], [20], [], []⟩, ⟨[4, 13], [21], [], []⟩, ⟨[21, 20], [], [5], [5]⟩] mixed (by kernel_rfl) <| SMd rfl <| SMd rfl <| Sc (lo [4, 14] [] rfl fun S hs hr => op_index' rfl rfl ar101 (vh hs 4 rfl rfl) (vh hs 14 rfl rfl) hj11) rfl <| SLd ty85 5 rfl <| SLd ty42 7 rfl <| SLd ty42 8 rfl <| Sc (lo [17, 18] [] rfl fun S hs hr => op_build (ps := [(0, .tmp 17), (1, .tmp 18)]) (x := (⟨value3, mask4⟩ : Tern)) rfl rfl rfl (by kernel_rfl) zr85 ⟨_, _, lTern_0, _, by kernel_rfl, (vh hs 17 rfl rfl), _, _, lTern_1, _, by kernel_rfl, (vh hs 18 rfl rfl), rfl⟩) rfl <| SCl [16, 19] (c_rewrite_over _ _ _ hx12) e270 rfl <| Sc (lo [4, 13] [] rfl fun S hs hr => op_index' rfl rfl ar101 (vh hs 4 rfl rfl) (vh hs 13 rfl rfl) hj13) rfl <| SSt ty85 5 rfl <| SR <| Ld ty101 5 rfl <| Sto ty101 9 rfl <| Nl <| AW.ret ?_
    obtain rfl := si h
    exact ret1 Tryz.results207 rfl (out_cell rfl (i := 9) rfl ty101)
  · have h := cond_f hc h
    refine AW.skip <| SR <| Ld ty101 5 rfl <| Sto ty101 9 rfl <| Nl <| AW.ret ?_
    obtain rfl := si h
    exact ret1 Tryz.results207 rfl (out_cell rfl (i := 9) rfl ty101)
def F_aset_Rewrite (a1 : Action) : Option (Vector Tern 24) :=
  (F_rewrite_None).bind fun x4 => (bif (decide (a1.Kind = 25)) then (F_oxm_Tern a1.Oxm).bind fun x6 => (F_rewrite_Set x4 a1.Oxm.Field x6.Value x6.Mask).bind fun x8 => some x8 else (bif (decide (a1.Kind = 17)) then (F_wide_Bit 12).bind fun x9 => (F_wide_Bit 12).bind fun x10 => (F_rewrite_Set x4 5 x9 x10).bind fun x11 => some x11 else (bif (decide (a1.Kind = 18)) then (F_wide_Low 13).bind fun x12 => (F_rewrite_Set x4 5 (⟨0, 0⟩ : Wide) x12).bind fun x13 => (F_wide_Low 3).bind fun x14 => (F_rewrite_Set x13 6 (⟨0, 0⟩ : Wide) x14).bind fun x15 => some x15 else some x4)))
theorem c_aset_Rewrite (a1 : Action) (r : (Vector Tern 24)) (h : F_aset_Rewrite a1 = some r) : PCon Tryz.prog 287 [rd kAction a1] (rd (karr 24 kTern) r) := by
  refine PCon.of (Con.intro0 Tryz.func287 rfl Tryz.ntmps287 rfl fun w H => ?_)
  unfold F_aset_Rewrite at h
  refine SR <| Ct rfl (op_box 2 rfl rfl (vt rfl)) ?_
  rintro _ ⟨g2, rfl⟩
  refine Ct rfl (op_alloc 3 rfl rfl zr101) ?_
  rintro _ ⟨g3, rfl⟩
  refine Nl <| AW.seq ?_
  obtain ⟨x4, hx4, h⟩ := bsome h
  refine Rg <| Cl [] (c_rewrite_None _ hx4) e77 rfl <| Ct rfl (op_alloc 4 rfl rfl zr101) ?_
  rintro _ ⟨g5, rfl⟩
  refine Sto ty101 4 rfl <| Nl <| AW.seq <| SR <| FdA lAction_0 fl121_0 rfl <| Ld ty3 2 rfl <| Nl <| AW.block <| SR <| Ac (op_eql rfl rfl (vt rfl) (vk rfl)) rfl <| As rfl <| Nl <| Cn rfl (fun hc => ?_) (fun hc => ?_)
  · have h := cond_t hc h
    refine AW.seq ?_
    obtain ⟨x6, hx6, h⟩ := bsome h
    refine Rg <| FdA lAction_5 fl121_5 rfl <| Ld ty119 2 rfl <| Cl [11] (c_oxm_Tern _ _ hx6) e275 rfl <| Ct rfl (op_alloc 5 rfl rfl zr85) ?_
    rintro _ ⟨g7, rfl⟩
    refine Sto ty85 5 rfl <| Nl ?_
    obtain ⟨x8, hx8, h⟩ := bsome h
    refine Rg <| Ld ty101 4 rfl <| FdA lAction_5 fl121_5 rfl <| FdA lOxm_0 fl119_0 rfl <| Ld ty3 2 rfl <| FdA lTern_0 fl85_0 rfl <| Ld ty42 5 rfl <| FdA lTern_1 fl85_1 rfl <| Ld ty42 5 rfl <| Cl [13, 16, 18, 20] (c_rewrite_Set _ _ _ _ _ hx8) e207 rfl <| Sto ty101 4 rfl <| Nl <| SR <| Ld ty101 4 rfl <| Sto ty101 3 rfl <| Nl <| AW.ret ?_
    obtain rfl := si h
    exact ret1 Tryz.results287 rfl (out_cell rfl (i := 3) rfl ty101)
  · have h := cond_f hc h
    refine SR <| Ac (op_eql rfl rfl (vt rfl) (vk rfl)) rfl <| As rfl <| Nl <| Cn rfl (fun hc => ?_) (fun hc => ?_)
    · have h := cond_t hc h
      obtain ⟨x9, hx9, h⟩ := bsome h
      obtain ⟨x10, hx10, h⟩ := bsome h
      obtain ⟨x11, hx11, h⟩ := bsome h
      refine AW.regionAny [⟨[3], [24], [4], []⟩, ⟨[], [25], [], []⟩, ⟨[], [26], [], []⟩, ⟨[24, 25, 26], [27], [], []⟩, ⟨[3, 27], [], [4], [4]⟩] mixed (by kernel_rfl) <| SLd ty101 4 rfl <| Sc (lo [] [] rfl fun S hs hr => op_call (xs := [.const (Value.int IntKind.i64 12)]) (c_wide_Bit _ _ hx9) e327 rfl rfl ⟨vk rfl, trivial⟩) rfl <| Sc (lo [] [] rfl fun S hs hr => op_call (xs := [.const (Value.int IntKind.i64 12)]) (c_wide_Bit _ _ hx10) e327 rfl rfl ⟨vk rfl, trivial⟩) rfl <| Sc (lo [24, 25, 26] [] rfl fun S hs hr => op_call (xs := [.tmp 24, .const (Value.int IntKind.i64 5), .tmp 25, .tmp 26]) (c_rewrite_Set _ _ _ _ _ hx11) e207 rfl rfl ⟨vt ((hs 24 rfl).trans rfl), vk rfl, vt ((hs 25 rfl).trans rfl), vt ((hs 26 rfl).trans rfl), trivial⟩) rfl <| SSt ty101 4 rfl <| SR <| Ld ty101 4 rfl <| Sto ty101 3 rfl <| Nl <| AW.ret ?_
      obtain rfl := si h
      exact ret1 Tryz.results287 rfl (out_cell rfl (i := 3) rfl ty101)
    · have h := cond_f hc h
      refine SR <| Ac (op_eql rfl rfl (vt rfl) (vk rfl)) rfl <| As rfl <| Nl <| Cn rfl (fun hc => ?_) (fun hc => ?_)
      · have h := cond_t hc h
        refine AW.seq ?_
        obtain ⟨x12, hx12, h⟩ := bsome h
        obtain ⟨x13, hx13, h⟩ := bsome h
        refine AW.regionAny [⟨[3], [30], [4], []⟩, ⟨[], [31], [], []⟩, ⟨[], [32], [], []⟩, ⟨[30, 31, 32], [33], [], []⟩, ⟨[3, 33], [], [4], [4]⟩] mixed (by kernel_rfl) <| SLd ty101 4 rfl <| Sc (lo [] [] rfl fun S hs hr => op_build (ps := []) (x := (⟨0, 0⟩ : Wide)) rfl rfl rfl (by kernel_rfl) zr42 rfl) rfl <| Sc (lo [] [] rfl fun S hs hr => op_call (xs := [.const (Value.int IntKind.i64 13)]) (c_wide_Low _ _ hx12) e254 rfl rfl ⟨vk rfl, trivial⟩) rfl <| Sc (lo [30, 31, 32] [] rfl fun S hs hr => op_call (xs := [.tmp 30, .const (Value.int IntKind.i64 5), .tmp 31, .tmp 32]) (c_rewrite_Set _ _ _ _ _ hx13) e207 rfl rfl ⟨vt ((hs 30 rfl).trans rfl), vk rfl, vt ((hs 31 rfl).trans rfl), vt ((hs 32 rfl).trans rfl), trivial⟩) rfl <| SSt ty101 4 rfl ?_
        obtain ⟨x14, hx14, h⟩ := bsome h
        obtain ⟨x15, hx15, h⟩ := bsome h
        refine AW.regionAny [⟨[3], [34], [4], []⟩, ⟨[], [35], [], []⟩, ⟨[], [36], [], []⟩, ⟨[34, 35, 36], [37], [], []⟩, ⟨[3, 37], [], [4], [4]⟩] mixed (by kernel_rfl) <| SLd ty101 4 rfl <| Sc (lo [] [] rfl fun S hs hr => op_build (ps := []) (x := (⟨0, 0⟩ : Wide)) rfl rfl rfl (by kernel_rfl) zr42 rfl) rfl <| Sc (lo [] [] rfl fun S hs hr => op_call (xs := [.const (Value.int IntKind.i64 3)]) (c_wide_Low _ _ hx14) e254 rfl rfl ⟨vk rfl, trivial⟩) rfl <| Sc (lo [34, 35, 36] [] rfl fun S hs hr => op_call (xs := [.tmp 34, .const (Value.int IntKind.i64 6), .tmp 35, .tmp 36]) (c_rewrite_Set _ _ _ _ _ hx15) e207 rfl rfl ⟨vt ((hs 34 rfl).trans rfl), vk rfl, vt ((hs 35 rfl).trans rfl), vt ((hs 36 rfl).trans rfl), trivial⟩) rfl <| SSt ty101 4 rfl <| SR <| Ld ty101 4 rfl <| Sto ty101 3 rfl <| Nl <| AW.ret ?_
        obtain rfl := si h
        exact ret1 Tryz.results287 rfl (out_cell rfl (i := 3) rfl ty101)
      · have h := cond_f hc h
        refine AW.skip <| SR <| Ld ty101 4 rfl <| Sto ty101 3 rfl <| Nl <| AW.ret ?_
        obtain rfl := si h
        exact ret1 Tryz.results287 rfl (out_cell rfl (i := 3) rfl ty101)
def F_exec_run_group_s_l1 (x5 : (Group × Bool)) (R_exec_run_do : (exec_run → (List Action) → Option exec_run)) (r1 : exec_run) : (List Int) → Nat → (List Out) → Env → (List Group) → (Vector Wide 24) → Int → Option exec_run
  | [], i21, l15, b17, b18, b19, b20 => some (⟨b17, b18, l15, b19, (IntKind.i64.wrap (b20 - 1))⟩ : exec_run)
  | x23 :: l22, i21, l15, b17, b18, b19, b20 => (lget x5.1.Buckets x23).bind fun e24 => (F_aset_Write [] e24.Acts).bind fun x25 => (F_aset_List x25).bind fun x26 => (R_exec_run_do (⟨b17, b18, l15, b19, b20⟩ : exec_run) x26).bind fun b27 => (F_exec_run_group_s_l1 x5 R_exec_run_do r1 l22) (i21 + 1) b27.out b27.Env b27.groups r1.header b27.depth
def F_exec_run_group_s (R_exec_run_do : (exec_run → (List Action) → Option exec_run)) (R_exec_run_group : (exec_run → Int → Option exec_run)) (r1 : exec_run) (id4 : Int) : Option exec_run :=
  (F_group_Find r1.groups id4).bind fun x5 => (bif ((!x5.2) || (decide (r1.depth ≥ 8))) then some (⟨r1.Env, r1.groups, r1.out, r1.header, r1.depth⟩ : exec_run) else (F_env_Takes r1.Env x5.1).bind fun x8 => F_exec_run_group_s_l1 x5 R_exec_run_do r1 x8 0 r1.out r1.Env r1.groups r1.header (IntKind.i64.wrap (r1.depth + 1)))
theorem c_exec_run_group_s (R_exec_run_do : (exec_run → (List Action) → Option exec_run)) (hR_exec_run_do : ∀ (g2 gT : Nat) (r1 : exec_run) (acts4 : (List Action)) (r : exec_run), R_exec_run_do r1 acts4 = some r → Con Tryz.prog 239 [ptrL g2 (Lens.id kexec_run_o2), rd (ksl kAction) acts4] (BoxF g2 gT kexec_run_o2 (fun v => (⟨r1.Env, r1.groups, v, r1.header, r1.depth⟩ : exec_run_o2)) 71 kOut r1.out) (fun _ : Unit => top) (fun _ => BoxF g2 gT kexec_run_o2 (fun v => (⟨r.Env, r.groups, v, r.header, r.depth⟩ : exec_run_o2)) 71 kOut r.out)) (R_exec_run_group : (exec_run → Int → Option exec_run)) (hR_exec_run_group : ∀ (g2 gT : Nat) (r1 : exec_run) (id4 : Int) (r : exec_run), R_exec_run_group r1 id4 = some r → Con Tryz.prog 178 [ptrL g2 (Lens.id kexec_run_o2), rd (kint .i64) id4] (BoxF g2 gT kexec_run_o2 (fun v => (⟨r1.Env, r1.groups, v, r1.header, r1.depth⟩ : exec_run_o2)) 71 kOut r1.out) (fun _ : Unit => top) (fun _ => BoxF g2 gT kexec_run_o2 (fun v => (⟨r.Env, r.groups, v, r.header, r.depth⟩ : exec_run_o2)) 71 kOut r.out)) (g2 gT : Nat) (r1 : exec_run) (id4 : Int) (r : exec_run) (h : F_exec_run_group_s R_exec_run_do R_exec_run_group r1 id4 = some r) : Con Tryz.prog 178 [ptrL g2 (Lens.id kexec_run_o2), rd (kint .i64) id4] (BoxF g2 gT kexec_run_o2 (fun v => (⟨r1.Env, r1.groups, v, r1.header, r1.depth⟩ : exec_run_o2)) 71 kOut r1.out) (fun _ : Unit => top) (fun _ => BoxF g2 gT kexec_run_o2 (fun v => (⟨r.Env, r.groups, v, r.header, r.depth⟩ : exec_run_o2)) 71 kOut r.out) := by
  refine Con.intro Tryz.func178 rfl Tryz.ntmps178 rfl fun w H X => ?_
  unfold F_exec_run_group_s at h
  refine AW.unboxF 0 2002 (by decide) rfl rfl fun v3 => AW.seq ?_
  obtain ⟨x5, hx5, h⟩ := bsome h
  refine Rg <| Mp rfl <| Nc rfl <| FdA lexec_run_o2_1 flv237_1_2 rfl <| Ld ty24 0 rfl <| Md rfl <| Cl [13, 14] (c_group_Find _ _ _ hx5) e180 rfl <| Mt2 rfl <| Ac (op_fst rfl rfl (vt rfl)) rfl <| Ac (op_snd rfl rfl (vt rfl)) rfl <| Ct rfl (op_alloc 5 rfl rfl zr164) ?_
  rintro _ ⟨g6, rfl⟩
  refine Sto ty164 5 rfl <| As rfl <| Nl <| AW.seq <| SR <| Md rfl <| Ac (op_not rfl rfl (vt rfl)) rfl <| Md rfl <| Gd rfl (fun hq => op_move (A := ptrL g2 (Lens.id kexec_run_o2)) rfl rfl (vt rfl)) <| Gd rfl (fun hq => op_nilCheck rfl rfl (vgt rfl hq)) <| Gd rfl (fun hq => op_field lexec_run_o2_4 rfl rfl flv237_4_2 (vgt rfl hq)) <| Gd rfl (fun hq => op_load rfl rfl ty3 (vgt rfl hq) (i := 0) rfl) <| Gd rfl (fun hq => op_geq rfl rfl (vgt rfl hq) (vk rfl)) <| Ac (op_any rfl rfl (vt rfl) (vt rfl)) rfl <| Nl <| Cn rfl (fun hc => ?_) (fun hc => ?_)
  · have h := cond_t hc h
    refine AW.ret ?_
    obtain rfl := si h
    exact RetOK.turn (Turn.packF 0 2002 (fun v => (⟨r1.Env, r1.groups, v, r1.header, r1.depth⟩ : exec_run_o2)) (by decide) rfl rfl) (ret0Y (i := 0) Tryz.results178 rfl rfl)
  · have h := cond_f hc h
    refine AW.skip <| SR <| Mp rfl <| Nc rfl <| FdA lexec_run_o2_3 flv237_3_2 rfl <| Ld ty44 0 rfl <| Ct rfl (op_alloc 7 rfl rfl zr44) ?_
    rintro _ ⟨g7, rfl⟩
    refine Sto ty44 7 rfl <| Nl <| SR <| Mp rfl <| Nc rfl <| FdA lexec_run_o2_4 flv237_4_2 rfl <| Ld ty3 0 rfl <| Ac (op_add rfl rfl (vt rfl) (vk rfl)) rfl <| Nc rfl <| FdA lexec_run_o2_4 flv237_4_2 rfl <| Sto ty3 0 rfl <| Nl <| AW.seq <| AW.seq ?_
    obtain ⟨x8, hx8, h⟩ := bsome h
    refine AW.regionAny [⟨[0], [38], [], []⟩, ⟨[38], [39], [], []⟩, ⟨[39], [40], [], []⟩, ⟨[40], [41], [0], []⟩, ⟨[4], [42], [5], []⟩, ⟨[41, 42], [43], [], []⟩, ⟨[43], [44], [], []⟩, ⟨[], [45], [], []⟩] mixed (by kernel_rfl) <| SMp rfl <| SNc rfl <| SFd lexec_run_o2_0 flv237_0_2 rfl <| SLd ty39 0 rfl <| SLd ty164 5 rfl <| SCl [41, 42] (c_env_Takes _ _ _ hx8) e238 rfl <| Sc (lo [43] [] rfl fun S hs hr => op_len' rfl rfl sl37 (vh hs 43 rfl rfl)) rfl <| Sc (lo [] [] rfl fun S hs hr => op_move (A := rd (kint .i64) 0) rfl rfl (vk rfl)) rfl <| AW.block <| AW.loopG (d := []) (ν := (List Int) × Nat × (List Out) × Env × (List Group) × (Vector Wide 24) × Int × Value) (fun n => Sfx x8 n.2.1 n.1 ∧ F_exec_run_group_s_l1 x5 R_exec_run_do r1 n.1 n.2.1 n.2.2.1 n.2.2.2.1 n.2.2.2.2.1 n.2.2.2.2.2.1 n.2.2.2.2.2.2.1 = some r) (fun n => n.1.length) (fun n => [(0, ptrL g2 (Lens.id kexec_run_o2)), (4, ptrL g6 (Lens.id kGroup)), (6, ptrL g7 (Lens.id (karr 24 kWide))), (43, rd (ksl (kint .i64)) x8), (44, rd (kint .i64) (x8.length : Int)), (45, rd (kint .i64) (n.2.1 : Int))]) (fun n => [(0, Blk g2 gT kexec_run_o2 (⟨n.2.2.2.1, n.2.2.2.2.1, n.2.2.2.2.2.2.2, n.2.2.2.2.2.1, n.2.2.2.2.2.2.1⟩ : exec_run_o2)), (5, Blk g6 164 kGroup x5.1), (7, Blk g7 44 (karr 24 kWide) r1.header), (2002, Row n.2.2.2.2.2.2.2 71 kOut n.2.2.1)]) (x8, 0, r1.out, r1.Env, r1.groups, r1.header, (IntKind.i64.wrap (r1.depth + 1)), v3) ⟨Sfx.start _, h⟩ ⟨rfl, ⟨rfl, rfl, rfl, rfl, rfl, rfl, trivial⟩, ⟨rfl, rfl, rfl, rfl, trivial⟩⟩ ?_
    rintro ⟨l22, i21, l15, b17, b18, b19, b20, v16⟩ ⟨hsf1, h⟩
    change Sfx x8 i21 l22 at hsf1
    change F_exec_run_group_s_l1 x5 R_exec_run_do r1 l22 i21 l15 b17 b18 b19 b20 = some r at h
    change AW _ _ _ ⟨slots [(0, ptrL g2 (Lens.id kexec_run_o2)), (4, ptrL g6 (Lens.id kGroup)), (6, ptrL g7 (Lens.id (karr 24 kWide))), (43, rd (ksl (kint .i64)) x8), (44, rd (kint .i64) (x8.length : Int)), (45, rd (kint .i64) (i21 : Int))], ress [(0, Blk g2 gT kexec_run_o2 (⟨b17, b18, v16, b19, b20⟩ : exec_run_o2)), (5, Blk g6 164 kGroup x5.1), (7, Blk g7 44 (karr 24 kWide) r1.header), (2002, Row v16 71 kOut l15)], _⟩
    cases l22 with
    | nil =>
      unfold F_exec_run_group_s_l1 at h
      refine SR <| Ac (op_lss rfl rfl (vt rfl) (vt rfl)) rfl <| Nl <| AW.seq <| Cn rfl (fun hc => absurd (of_decide_eq_true hc) hsf1.nil) (fun hc => ?_)
      refine AW.exit <| Rg <| Mp rfl <| Nc rfl <| FdA lexec_run_o2_4 flv237_4_2 rfl <| Ld ty3 0 rfl <| Ac (op_sub rfl rfl (vt rfl) (vk rfl)) rfl <| Nc rfl <| FdA lexec_run_o2_4 flv237_4_2 rfl <| Sto ty3 0 rfl <| Nl ?_
      obtain rfl := si h
      exact RetOK.turn (Turn.packF 0 2002 (fun v => (⟨b17, b18, v, b19, (IntKind.i64.wrap (b20 - 1))⟩ : exec_run_o2)) (by decide) rfl rfl) (ret0Y (i := 0) Tryz.results178 rfl rfl)
    | cons x23 l22 =>
      unfold F_exec_run_group_s_l1 at h
      generalize hgo1 : F_exec_run_group_s_l1 x5 R_exec_run_do r1 l22 = go1 at h
      refine SR <| Ac (op_lss rfl rfl (vt rfl) (vt rfl)) rfl <| Nl <| AW.seq <| Cn rfl (fun hc => ?_) (fun hc => absurd hsf1.cons (of_decide_eq_false hc))
      have hlti21 := of_decide_eq_true hc
      refine AW.skip <| AW.seq <| AW.block <| SR <| Ac (op_indexs' rfl rfl sl37 (vt rfl) (vt rfl) hsf1.lget) rfl <| Lp1 ty3 rfl <| As rfl <| Nl <| AW.seq ?_
      obtain ⟨e24, he24, h⟩ := bsome h
      obtain ⟨x25, hx25, h⟩ := bsome h
      obtain ⟨x26, hx26, h⟩ := bsome h
      obtain ⟨b27, hb27, h⟩ := bsome h
      refine Rg <| Mp rfl <| FdA lGroup_2 fl164_2 rfl <| Ld ty162 5 rfl <| Md rfl <| Ac (op_indexs' rfl rfl sl162 (vt rfl) (vt rfl) he24) rfl <| Fp lBucket_3 fl226_3 rfl <| Lp1 ty122 rfl <| Ac (op_call (xs := [.const (Value.slice none 0 0), .tmp 55]) (c_aset_Write _ _ _ hx25) e206 rfl rfl ⟨vnil, vt rfl, trivial⟩) rfl <| Cl [56] (c_aset_List _ _ hx26) e149 rfl <| AOps.packF 0 2002 (fun v => (⟨b17, b18, v, b19, b20⟩ : exec_run_o2)) (by decide) rfl rfl <| Ct rfl (op_callR 0 (xs := [.tmp 49, .tmp 57]) (hR_exec_run_do _ _ _ _ _ hb27) e239 rfl rfl ⟨vt rfl, vt rfl, trivial⟩ rfl) ?_
      rintro _ ⟨_u, rfl⟩
      refine AOps.unboxF 0 2002 (by decide) rfl rfl fun v28 => Nl <| Rg <| Mp rfl <| Ld ty44 7 rfl <| Nc rfl <| FdA lexec_run_o2_3 flv237_3_2 rfl <| Sto ty44 0 rfl <| Nl <| Rg <| Ac (op_incr (t := 44) rfl rfl (vt rfl) (vk rfl) (vt rfl) hlti21) rfl <| Md rfl <| Nl ?_
      subst hgo1
      exact ⟨(l22, i21 + 1, b27.out, b27.Env, b27.groups, r1.header, b27.depth, v28), Nat.lt_succ_self _, ⟨hsf1.next, h⟩, ⟨rfl, ⟨rfl, rfl, rfl, rfl, rfl, rfl, trivial⟩, ⟨rfl, rfl, rfl, rfl, trivial⟩⟩⟩
end Go.Proofs.YtknpgojdkobgjaaGreat.W
set_option linter.unusedVariables false
set_option maxRecDepth 4000
set_option linter.unusedSimpArgs false
namespace Go.Proofs.YtknpgojdkobgjaaGreat.W
open Go Go.Wb
theorem e286 : Ent Tryz.prog 286 := Ent.mk Tryz.func286 rfl rfl
theorem e178 : Ent Tryz.prog 178 := Ent.mk Tryz.func178 rfl rfl
theorem e287 : Ent Tryz.prog 287 := Ent.mk Tryz.func287 rfl rfl
theorem e109 : Ent Tryz.prog 109 := Ent.mk Tryz.func109 rfl rfl
theorem e110 : Ent Tryz.prog 110 := Ent.mk Tryz.func110 rfl rfl
theorem e108 : Ent Tryz.prog 108 := Ent.mk Tryz.func108 rfl rfl
theorem e107 : Ent Tryz.prog 107 := Ent.mk Tryz.func107 rfl rfl
theorem e42 : Ent Tryz.prog 42 := Ent.mk Tryz.func42 rfl rfl
theorem e51 : Ent Tryz.prog 51 := Ent.mk Tryz.func51 rfl rfl
theorem e46 : Ent Tryz.prog 46 := Ent.mk Tryz.func46 rfl rfl
theorem e44 : Ent Tryz.prog 44 := Ent.mk Tryz.func44 rfl rfl
def F_exec_run_do_s_l1 (R_exec_run_group : (exec_run → Int → Option exec_run)) : (List Action) → Nat → (List Out) → Env → (List Group) → (Vector Wide 24) → Int → Option exec_run
  | [], i17, l11, b13, b14, b15, b16 => some (⟨b13, b14, l11, b15, b16⟩ : exec_run)
  | x19 :: l18, i17, l11, b13, b14, b15, b16 => (bif (decide (x19.Kind = 0)) then (F_exec_most x19).bind fun x21 => (appd l11 [(⟨x19.Port, x21, b15⟩ : Out)]).bind fun l22 => (F_exec_run_do_s_l1 R_exec_run_group l18) (i17 + 1) l22 b13 b14 b15 b16 else (bif (decide (x19.Kind = 22)) then (R_exec_run_group (⟨b13, b14, l11, b15, b16⟩ : exec_run) x19.Group).bind fun b24 => (F_exec_run_do_s_l1 R_exec_run_group l18) (i17 + 1) b24.out b24.Env b24.groups b24.header b24.depth else (F_aset_Rewrite x19).bind fun x26 => (F_rewrite_Apply x26 b15).bind fun x27 => (F_exec_run_do_s_l1 R_exec_run_group l18) (i17 + 1) l11 b13 b14 x27 b16))
def F_exec_run_do_s (R_exec_run_do : (exec_run → (List Action) → Option exec_run)) (R_exec_run_group : (exec_run → Int → Option exec_run)) (r1 : exec_run) (acts4 : (List Action)) : Option exec_run :=
  F_exec_run_do_s_l1 R_exec_run_group acts4 0 r1.out r1.Env r1.groups r1.header r1.depth
theorem c_exec_run_do_s (R_exec_run_do : (exec_run → (List Action) → Option exec_run)) (hR_exec_run_do : ∀ (g2 gT : Nat) (r1 : exec_run) (acts4 : (List Action)) (r : exec_run), R_exec_run_do r1 acts4 = some r → Con Tryz.prog 239 [ptrL g2 (Lens.id kexec_run_o2), rd (ksl kAction) acts4] (BoxF g2 gT kexec_run_o2 (fun v => (⟨r1.Env, r1.groups, v, r1.header, r1.depth⟩ : exec_run_o2)) 71 kOut r1.out) (fun _ : Unit => top) (fun _ => BoxF g2 gT kexec_run_o2 (fun v => (⟨r.Env, r.groups, v, r.header, r.depth⟩ : exec_run_o2)) 71 kOut r.out)) (R_exec_run_group : (exec_run → Int → Option exec_run)) (hR_exec_run_group : ∀ (g2 gT : Nat) (r1 : exec_run) (id4 : Int) (r : exec_run), R_exec_run_group r1 id4 = some r → Con Tryz.prog 178 [ptrL g2 (Lens.id kexec_run_o2), rd (kint .i64) id4] (BoxF g2 gT kexec_run_o2 (fun v => (⟨r1.Env, r1.groups, v, r1.header, r1.depth⟩ : exec_run_o2)) 71 kOut r1.out) (fun _ : Unit => top) (fun _ => BoxF g2 gT kexec_run_o2 (fun v => (⟨r.Env, r.groups, v, r.header, r.depth⟩ : exec_run_o2)) 71 kOut r.out)) (g2 gT : Nat) (r1 : exec_run) (acts4 : (List Action)) (r : exec_run) (h : F_exec_run_do_s R_exec_run_do R_exec_run_group r1 acts4 = some r) : Con Tryz.prog 239 [ptrL g2 (Lens.id kexec_run_o2), rd (ksl kAction) acts4] (BoxF g2 gT kexec_run_o2 (fun v => (⟨r1.Env, r1.groups, v, r1.header, r1.depth⟩ : exec_run_o2)) 71 kOut r1.out) (fun _ : Unit => top) (fun _ => BoxF g2 gT kexec_run_o2 (fun v => (⟨r.Env, r.groups, v, r.header, r.depth⟩ : exec_run_o2)) 71 kOut r.out) := by
  refine Con.intro Tryz.func239 rfl Tryz.ntmps239 rfl fun w H X => ?_
  unfold F_exec_run_do_s at h
  refine AW.unboxF 0 2002 (by decide) rfl rfl fun v3 => SR <| Md rfl <| Ac (op_len' rfl rfl sl122 (vt rfl)) rfl <| Mk rfl <| Nl <| AW.block <| AW.loopG (d := []) (ν := (List Action) × Nat × (List Out) × Env × (List Group) × (Vector Wide 24) × Int × Value) (fun n => Sfx acts4 n.2.1 n.1 ∧ F_exec_run_do_s_l1 R_exec_run_group n.1 n.2.1 n.2.2.1 n.2.2.2.1 n.2.2.2.2.1 n.2.2.2.2.2.1 n.2.2.2.2.2.2.1 = some r) (fun n => n.1.length) (fun n => [(0, ptrL g2 (Lens.id kexec_run_o2)), (6, rd (ksl kAction) acts4), (7, rd (kint .i64) (acts4.length : Int)), (8, rd (kint .i64) (n.2.1 : Int))]) (fun n => [(0, Blk g2 gT kexec_run_o2 (⟨n.2.2.2.1, n.2.2.2.2.1, n.2.2.2.2.2.2.2, n.2.2.2.2.2.1, n.2.2.2.2.2.2.1⟩ : exec_run_o2)), (2002, Row n.2.2.2.2.2.2.2 71 kOut n.2.2.1)]) (acts4, 0, r1.out, r1.Env, r1.groups, r1.header, r1.depth, v3) ⟨Sfx.start _, h⟩ ⟨rfl, ⟨rfl, rfl, rfl, rfl, trivial⟩, ⟨rfl, rfl, trivial⟩⟩ ?_
  rintro ⟨l18, i17, l11, b13, b14, b15, b16, v12⟩ ⟨hsf1, h⟩
  change Sfx acts4 i17 l18 at hsf1
  change F_exec_run_do_s_l1 R_exec_run_group l18 i17 l11 b13 b14 b15 b16 = some r at h
  change AW _ _ _ ⟨slots [(0, ptrL g2 (Lens.id kexec_run_o2)), (6, rd (ksl kAction) acts4), (7, rd (kint .i64) (acts4.length : Int)), (8, rd (kint .i64) (i17 : Int))], ress [(0, Blk g2 gT kexec_run_o2 (⟨b13, b14, v12, b15, b16⟩ : exec_run_o2)), (2002, Row v12 71 kOut l11)], _⟩
  cases l18 with
  | nil =>
    unfold F_exec_run_do_s_l1 at h
    refine SR <| Ac (op_lss rfl rfl (vt rfl) (vt rfl)) rfl <| Nl <| AW.seq <| Cn rfl (fun hc => absurd (of_decide_eq_true hc) hsf1.nil) (fun hc => ?_)
    refine AW.exit ?_
    obtain rfl := si h
    exact RetOK.turn (Turn.packF 0 2002 (fun v => (⟨b13, b14, v, b15, b16⟩ : exec_run_o2)) (by decide) rfl rfl) (ret0Y (i := 0) Tryz.results239 rfl rfl)
  | cons x19 l18 =>
    unfold F_exec_run_do_s_l1 at h
    generalize hgo1 : F_exec_run_do_s_l1 R_exec_run_group l18 = go1 at h
    refine SR <| Ac (op_lss rfl rfl (vt rfl) (vt rfl)) rfl <| Nl <| AW.seq <| Cn rfl (fun hc => ?_) (fun hc => absurd hsf1.cons (of_decide_eq_false hc))
    have hlti17 := of_decide_eq_true hc
    refine AW.skip <| AW.seq <| AW.block <| SR <| Ac (op_indexs' rfl rfl sl122 (vt rfl) (vt rfl) hsf1.lget) rfl <| Lp1 ty121 rfl <| Ct rfl (op_alloc 6 rfl rfl zr121) ?_
    rintro _ ⟨g20, rfl⟩
    refine Sto ty121 6 rfl <| Nl <| SR <| FdA lAction_0 fl121_0 rfl <| Ld ty3 6 rfl <| Nl <| AW.block <| SR <| Ac (op_eql rfl rfl (vt rfl) (vk rfl)) rfl <| As rfl <| Nl <| Cn rfl (fun hc => ?_) (fun hc => ?_)
    · have h := cond_t hc h
      obtain ⟨x21, hx21, h⟩ := bsome h
      obtain ⟨l22, hl22, h⟩ := bsome h
      refine AW.regionAny [⟨[0], [26], [], []⟩, ⟨[0], [27], [], []⟩, ⟨[27], [28], [], []⟩, ⟨[28], [29], [], []⟩, ⟨[29], [30], [0], []⟩, ⟨[5], [31], [], []⟩, ⟨[31], [32], [6], []⟩, ⟨[5], [33], [6], []⟩, ⟨[33], [34], [], []⟩, ⟨[0], [35], [], []⟩, ⟨[35], [36], [], []⟩, ⟨[36], [37], [], []⟩, ⟨[37], [38], [0], []⟩, ⟨[32, 34, 38], [39], [], []⟩, ⟨[39], [40], [], []⟩, ⟨[30, 40], [41], [2002], [2002]⟩, ⟨[26], [42], [], []⟩, ⟨[42], [43], [], []⟩, ⟨[43, 41], [41], [0], [0]⟩] mixed (by kernel_rfl) <| SMp rfl <| SMp rfl <| SNc rfl <| SFd lexec_run_o2_2 flv237_2_2 rfl <| Sc (lo [29] [0] rfl fun S hs hr => op_loadv v12 rfl rfl tyr46 (vh hs 29 rfl rfl) (i := 0) ((hr 0 rfl).trans rfl) rfl) rfl <| SFd lAction_1 fl121_1 rfl <| SLd ty3 6 rfl <| SLd ty121 6 rfl <| SCl [33] (c_exec_most _ _ hx21) e286 rfl <| SMp rfl <| SNc rfl <| SFd lexec_run_o2_3 flv237_3_2 rfl <| SLd ty44 0 rfl <| Sc (lo [32, 34, 38] [] rfl fun S hs hr => op_build (ps := [(0, .tmp 32), (1, .tmp 34), (2, .tmp 38)]) (x := (⟨x19.Port, x21, b15⟩ : Out)) rfl rfl rfl (by kernel_rfl) zr71 ⟨_, _, lOut_0, _, by kernel_rfl, (vh hs 32 rfl rfl), _, _, lOut_1, _, by kernel_rfl, (vh hs 34 rfl rfl), _, _, lOut_2, _, by kernel_rfl, (vh hs 38 rfl rfl), rfl⟩) rfl <| Sc (lo [39] [] rfl fun S hs hr => op_buildSliceR (ps := [(0, .tmp 39)]) (l := [(⟨x19.Port, x21, b15⟩ : Out)]) rfl rfl sl46 zr71 rfl rfl ⟨_, _, Lens.idx 1 kOut 0 (by decide), _, rfl, (vh hs 39 rfl rfl), rfl⟩ rfl) rfl <| Sc (locs (us := [(41, ownR 71 kOut l22)]) (ur := [(2002, emp)]) [30, 40] [2002] rfl fun S hs hr => op_appendO 2002 hl22 rfl rfl rfl el46 (vh hs 30 rfl rfl) ((hr 2002 rfl).trans rfl) (vh hs 40 rfl rfl)) rfl <| SNc rfl <| SFd lexec_run_o2_2 flv237_2_2 rfl <| Sc (locs (us := [(41, top)]) (ur := [(0, BoxF g2 gT kexec_run_o2 (fun v => ((Lens.comp (Lens.id kexec_run_o2) lexec_run_o2_2)).set (⟨b13, b14, v12, b15, b16⟩ : exec_run_o2) v) 71 kOut l22)]) [43, 41] [0] rfl fun S hs hr => op_storeR rfl rfl tyr46 (vh hs 43 rfl rfl) ((hr 0 rfl).trans rfl) ((hs 41 rfl).trans rfl)) rfl <| AW.unboxF 0 2002 (by decide) rfl rfl fun v23 => Rg <| Ac (op_incr (t := 7) rfl rfl (vt rfl) (vk rfl) (vt rfl) hlti17) rfl <| Md rfl <| Nl ?_
      subst hgo1
      exact ⟨(l18, i17 + 1, l22, b13, b14, b15, b16, v23), Nat.lt_succ_self _, ⟨hsf1.next, h⟩, ⟨rfl, ⟨rfl, rfl, rfl, rfl, trivial⟩, ⟨rfl, rfl, trivial⟩⟩⟩
    · have h := cond_f hc h
      refine SR <| Ac (op_eql rfl rfl (vt rfl) (vk rfl)) rfl <| As rfl <| Nl <| Cn rfl (fun hc => ?_) (fun hc => ?_)
      · have h := cond_t hc h
        obtain ⟨b24, hb24, h⟩ := bsome h
        refine Rg <| Mp rfl <| FdA lAction_3 fl121_3 rfl <| Ld ty3 6 rfl <| AOps.packF 0 2002 (fun v => (⟨b13, b14, v, b15, b16⟩ : exec_run_o2)) (by decide) rfl rfl <| Ct rfl (op_callR 0 (xs := [.tmp 46, .tmp 48]) (hR_exec_run_group _ _ _ _ _ hb24) e178 rfl rfl ⟨vt rfl, vt rfl, trivial⟩ rfl) ?_
        rintro _ ⟨_u, rfl⟩
        refine AOps.unboxF 0 2002 (by decide) rfl rfl fun v25 => Nl <| Rg <| Ac (op_incr (t := 7) rfl rfl (vt rfl) (vk rfl) (vt rfl) hlti17) rfl <| Md rfl <| Nl ?_
        subst hgo1
        exact ⟨(l18, i17 + 1, b24.out, b24.Env, b24.groups, b24.header, b24.depth, v25), Nat.lt_succ_self _, ⟨hsf1.next, h⟩, ⟨rfl, ⟨rfl, rfl, rfl, rfl, trivial⟩, ⟨rfl, rfl, trivial⟩⟩⟩
      · have h := cond_f hc h
        obtain ⟨x26, hx26, h⟩ := bsome h
        obtain ⟨x27, hx27, h⟩ := bsome h
        refine AW.regionAny [⟨[0], [14], [], []⟩, ⟨[5], [15], [6], []⟩, ⟨[15], [16], [], []⟩, ⟨[0], [17], [], []⟩, ⟨[17], [18], [], []⟩, ⟨[18], [19], [], []⟩, ⟨[19], [20], [0], []⟩, ⟨[16, 20], [21], [], []⟩, ⟨[14], [22], [], []⟩, ⟨[22], [23], [], []⟩, ⟨[23, 21], [], [0], [0]⟩] mixed (by kernel_rfl) <| SMp rfl <| SLd ty121 6 rfl <| SCl [15] (c_aset_Rewrite _ _ hx26) e287 rfl <| SMp rfl <| SNc rfl <| SFd lexec_run_o2_3 flv237_3_2 rfl <| SLd ty44 0 rfl <| SCl [16, 20] (c_rewrite_Apply _ _ _ hx27) e109 rfl <| SNc rfl <| SFd lexec_run_o2_3 flv237_3_2 rfl <| SSt ty44 0 rfl <| Rg <| Ac (op_incr (t := 7) rfl rfl (vt rfl) (vk rfl) (vt rfl) hlti17) rfl <| Md rfl <| Nl ?_
        subst hgo1
        exact ⟨(l18, i17 + 1, l11, b13, b14, x27, b16, v12), Nat.lt_succ_self _, ⟨hsf1.next, h⟩, ⟨rfl, ⟨rfl, rfl, rfl, rfl, trivial⟩, ⟨rfl, rfl, trivial⟩⟩⟩
def FR_exec_run_do__exec_run_group : Nat → (exec_run → (List Action) → Option exec_run) × (exec_run → Int → Option exec_run)
  | 0 => ((fun _ _ => none), (fun _ _ => none))
  | n + 1 => ((F_exec_run_do_s (FR_exec_run_do__exec_run_group n).1 (FR_exec_run_do__exec_run_group n).2), (F_exec_run_group_s (FR_exec_run_do__exec_run_group n).1 (FR_exec_run_do__exec_run_group n).2))
theorem cR_exec_run_do__exec_run_group : ∀ n : Nat, (∀ (g2 gT : Nat) (r1 : exec_run) (acts4 : (List Action)) (r : exec_run), (FR_exec_run_do__exec_run_group n).1 r1 acts4 = some r → Con Tryz.prog 239 [ptrL g2 (Lens.id kexec_run_o2), rd (ksl kAction) acts4] (BoxF g2 gT kexec_run_o2 (fun v => (⟨r1.Env, r1.groups, v, r1.header, r1.depth⟩ : exec_run_o2)) 71 kOut r1.out) (fun _ : Unit => top) (fun _ => BoxF g2 gT kexec_run_o2 (fun v => (⟨r.Env, r.groups, v, r.header, r.depth⟩ : exec_run_o2)) 71 kOut r.out)) ∧ (∀ (g2 gT : Nat) (r1 : exec_run) (id4 : Int) (r : exec_run), (FR_exec_run_do__exec_run_group n).2 r1 id4 = some r → Con Tryz.prog 178 [ptrL g2 (Lens.id kexec_run_o2), rd (kint .i64) id4] (BoxF g2 gT kexec_run_o2 (fun v => (⟨r1.Env, r1.groups, v, r1.header, r1.depth⟩ : exec_run_o2)) 71 kOut r1.out) (fun _ : Unit => top) (fun _ => BoxF g2 gT kexec_run_o2 (fun v => (⟨r.Env, r.groups, v, r.header, r.depth⟩ : exec_run_o2)) 71 kOut r.out))
  | 0 => ⟨(by intros; rename_i h; cases h), (by intros; rename_i h; cases h)⟩
  | n + 1 => by
    have ih := cR_exec_run_do__exec_run_group n
    exact ⟨(c_exec_run_do_s (FR_exec_run_do__exec_run_group n).1 ih.1 (FR_exec_run_do__exec_run_group n).2 ih.2), (c_exec_run_group_s (FR_exec_run_do__exec_run_group n).1 ih.1 (FR_exec_run_do__exec_run_group n).2 ih.2)⟩
def F_exec_run_group (r1 : exec_run) (id4 : Int) : Option exec_run := (FR_exec_run_do__exec_run_group fuel0).2 r1 id4
theorem c_exec_run_group : ∀ (g2 gT : Nat) (r1 : exec_run) (id4 : Int) (r : exec_run), F_exec_run_group r1 id4 = some r → Con Tryz.prog 178 [ptrL g2 (Lens.id kexec_run_o2), rd (kint .i64) id4] (BoxF g2 gT kexec_run_o2 (fun v => (⟨r1.Env, r1.groups, v, r1.header, r1.depth⟩ : exec_run_o2)) 71 kOut r1.out) (fun _ : Unit => top) (fun _ => BoxF g2 gT kexec_run_o2 (fun v => (⟨r.Env, r.groups, v, r.header, r.depth⟩ : exec_run_o2)) 71 kOut r.out) := (cR_exec_run_do__exec_run_group fuel0).2
def F_exec_Group (l1 : (List Group)) (e2 : Env) (id3 : Int) (h4 : (Vector Wide 24)) : Option (List Out) :=
  (F_exec_run_group (⟨e2, l1, [], h4, 0⟩ : exec_run) id3).bind fun b8 => some b8.out
theorem c_exec_Group (l1 : (List Group)) (e2 : Env) (id3 : Int) (h4 : (Vector Wide 24)) (r : (List Out)) (h : F_exec_Group l1 e2 id3 h4 = some r) : PCon Tryz.prog 110 [rd (ksl kGroup) l1, rd kEnv e2, rd (kint .i64) id3, rd (karr 24 kWide) h4] (rd (ksl kOut) r) := by
  refine PCon.of (Con.intro0 Tryz.func110 rfl Tryz.ntmps110 rfl fun w H => ?_)
  unfold F_exec_Group at h
  refine SR <| Ct rfl (op_box 6 rfl rfl (vt rfl)) ?_
  rintro _ ⟨g5, rfl⟩
  refine Ct rfl (op_box 8 rfl rfl (vt rfl)) ?_
  rintro _ ⟨g6, rfl⟩
  refine Ac (op_assign (A := rd (ksl kOut) []) rfl rfl vnil) rfl <| Nl <| AW.seq <| AW.newnil 2302 71 kOut <| Rg <| Ld ty39 6 rfl <| Md rfl <| Ld ty44 8 rfl <| Ac (op_build (ps := [(0, .tmp 10), (1, .tmp 11), (3, .tmp 12)]) (x := (⟨e2, l1, (.slice none 0 0), h4, 0⟩ : exec_run_o2)) rfl rfl rfl (by kernel_rfl) zrv237_2 ⟨_, _, lexec_run_o2_0, _, by kernel_rfl, (vt rfl), _, _, lexec_run_o2_1, _, by kernel_rfl, (vt rfl), _, _, lexec_run_o2_3, _, by kernel_rfl, (vt rfl), rfl⟩) rfl <| Ct rfl (op_box 15 rfl rfl (vt rfl)) ?_
  rintro _ ⟨g7, rfl⟩
  refine Ac (op_assign (A := ptrL g7 (Lens.id kexec_run_o2)) rfl rfl (vt rfl)) rfl <| Nl <| AW.seq ?_
  obtain ⟨b8, hb8, h⟩ := bsome h
  refine Rg <| Mp rfl <| Md rfl <| AOps.packF 15 2302 (fun v => (⟨e2, l1, v, h4, 0⟩ : exec_run_o2)) (by decide) rfl rfl <| Ct rfl (op_callR 15 (xs := [.tmp 15, .tmp 16]) (c_exec_run_group _ _ _ _ _ hb8) e178 rfl rfl ⟨vt rfl, vt rfl, trivial⟩ rfl) ?_
  rintro _ ⟨_u, rfl⟩
  refine AOps.unboxF 15 2302 (by decide) rfl rfl fun v9 => Nl <| SR <| Mp rfl <| Nc rfl <| FdA lexec_run_o2_2 flv237_2_2 rfl <| Ac (op_loadv v9 rfl rfl tyr46 (vt rfl) (i := 15) rfl rfl) rfl <| Aw rfl <| Nl <| AW.freezes [8, 21] 2302 rfl ⟨rfl, rfl, trivial⟩ rfl <| AW.ret ?_
  obtain rfl := si h
  exact ret1 Tryz.results110 rfl (out_tmp rfl)
def F_atom_Out_1 (x1 : Atom) (cp2 : (Vector Wide 24)) (cu3 : (List Out)) (cp6 : (List Group)) (cp7 : Env) : Option (List Out) :=
  (F_rewrite_Apply x1.Rewrite cp2).bind fun x9 => (bif x1.Group then (F_exec_Group cp6 cp7 x1.Port x9).bind fun x11 => (appd cu3 x11).bind fun l12 => some l12 else (appd cu3 [(⟨x1.Port, x1.Max, x9⟩ : Out)]).bind fun l14 => some l14)
theorem c_atom_Out_1 (g4 gT : Nat) (x1 : Atom) (cp2 : (Vector Wide 24)) (cu3 : (List Out)) (cp6 : (List Group)) (cp7 : Env) (r : (List Out)) (h : F_atom_Out_1 x1 cp2 cu3 cp6 cp7 = some r) : Con Tryz.prog 108 [rd kAtom x1, rp (karr 24 kWide) cp2, ptrL g4 (Lens.id kraw), rp (ksl kGroup) cp6, rp kEnv cp7] (BoxF g4 gT kraw (fun v => v) 71 kOut cu3) (fun _ : Unit => top) (fun _ => BoxF g4 gT kraw (fun v => v) 71 kOut r) := by
  refine Con.intro Tryz.func108 rfl Tryz.ntmps108 rfl fun w H X => ?_
  unfold F_atom_Out_1 at h
  refine AW.unboxF 0 2019 (by decide) rfl rfl fun v5 => SR <| Ct rfl (op_box 6 rfl rfl (vt rfl)) ?_
  rintro _ ⟨g8, rfl⟩
  refine Nl <| AW.seq ?_
  obtain ⟨x9, hx9, h⟩ := bsome h
  refine Rg <| FdA lAtom_0 fl126_0 rfl <| Ld ty101 6 rfl <| Lp1 ty44 rfl <| Cl [8, 9] (c_rewrite_Apply _ _ _ hx9) e109 rfl <| Ct rfl (op_alloc 7 rfl rfl zr44) ?_
  rintro _ ⟨g10, rfl⟩
  refine Sto ty44 7 rfl <| Nl <| AW.seq <| SR <| FdA lAtom_1 fl126_1 rfl <| Ld ty4 6 rfl <| Nl <| Cn rfl (fun hc => ?_) (fun hc => ?_)
  · have h := cond_t hc h
    refine AW.seq ?_
    obtain ⟨x11, hx11, h⟩ := bsome h
    obtain ⟨l12, hl12, h⟩ := bsome h
    refine AW.regionAny [⟨[2], [13], [0], []⟩, ⟨[3], [14], [], []⟩, ⟨[4], [15], [], []⟩, ⟨[5], [16], [], []⟩, ⟨[16], [17], [6], []⟩, ⟨[6], [18], [7], []⟩, ⟨[14, 15, 17, 18], [19], [], []⟩, ⟨[13, 19], [20], [2019], [2019]⟩, ⟨[2, 20], [20], [0], [0]⟩] mixed (by kernel_rfl) <| Sc (lo [2] [0] rfl fun S hs hr => op_loadv v5 rfl rfl tyr46 (vh hs 2 rfl rfl) (i := 0) ((hr 0 rfl).trans rfl) rfl) rfl <| SLp ty24 rfl <| SLp ty39 rfl <| SFd lAtom_2 fl126_2 rfl <| SLd ty3 6 rfl <| SLd ty44 7 rfl <| SCl [14, 15, 17, 18] (c_exec_Group _ _ _ _ _ hx11) e110 rfl <| Sc (locs (us := [(20, ownR 71 kOut l12)]) (ur := [(2019, emp)]) [13, 19] [2019] rfl fun S hs hr => op_appendO 2019 hl12 rfl rfl rfl el46 (vh hs 13 rfl rfl) ((hr 2019 rfl).trans rfl) (vh hs 19 rfl rfl)) rfl <| Sc (locs (us := [(20, top)]) (ur := [(0, BoxF g4 gT kraw (fun v => ((Lens.id kraw)).set v5 v) 71 kOut l12)]) [2, 20] [0] rfl fun S hs hr => op_storeR rfl rfl tyr46 (vh hs 2 rfl rfl) ((hr 0 rfl).trans rfl) ((hs 20 rfl).trans rfl)) rfl <| AW.unboxF 0 2019 (by decide) rfl rfl fun v13 => AW.ret ?_
    obtain rfl := si h
    exact RetOK.turn (Turn.packF 0 2019 (fun v => v) (by decide) rfl rfl) (ret0Y (i := 0) Tryz.results108 rfl rfl)
  · have h := cond_f hc h
    refine AW.skip ?_
    obtain ⟨l14, hl14, h⟩ := bsome h
    refine Rg <| Ac (op_loadv v5 rfl rfl tyr46 (vt rfl) (i := 0) rfl rfl) rfl <| FdA lAtom_2 fl126_2 rfl <| Ld ty3 6 rfl <| FdA lAtom_3 fl126_3 rfl <| Ld ty3 6 rfl <| Ld ty44 7 rfl <| Ac (op_build (ps := [(0, .tmp 23), (1, .tmp 25), (2, .tmp 26)]) (x := (⟨x1.Port, x1.Max, x9⟩ : Out)) rfl rfl rfl (by kernel_rfl) zr71 ⟨_, _, lOut_0, _, by kernel_rfl, (vt rfl), _, _, lOut_1, _, by kernel_rfl, (vt rfl), _, _, lOut_2, _, by kernel_rfl, (vt rfl), rfl⟩) rfl <| Ac (op_buildSliceR (ps := [(0, .tmp 27)]) (l := [(⟨x1.Port, x1.Max, x9⟩ : Out)]) rfl rfl sl46 zr71 rfl rfl ⟨_, _, Lens.idx 1 kOut 0 (by decide), _, rfl, (vt rfl), rfl⟩ rfl) rfl <| Ct rfl (op_append' 2019 hl14 rfl rfl el46 (vt rfl) rfl (vt rfl)) ?_
    rintro _ ⟨v15, rfl⟩
    refine Ac (op_store rfl rfl tyr46 (vt rfl) (i := 0) rfl (vrow (i := 2019) rfl rfl)) rfl <| Nl ?_
    obtain rfl := si h
    exact RetOK.turn (Turn.packF 0 2019 (fun v => v) (by decide) rfl rfl) (ret0Y (i := 0) Tryz.results108 rfl rfl)
def F_atom_each_Atom_l1 (sg : Type) (do2 : (sg → Atom → Option sg)) : (List Atom) → Nat → sg → Option sg
  | [], i6, s5 => some s5
  | x8 :: l7, i6, s5 => (do2 s5 x8).bind fun s10 => (F_atom_each_Atom_l1 sg do2 l7) (i6 + 1) s10
def F_atom_each_Atom (l1 : (List Atom)) (sg : Type) (do2 : (sg → Atom → Option sg)) (s3 : sg) : Option sg :=
  F_atom_each_Atom_l1 sg do2 l1 0 s3
theorem c_atom_each_Atom (l1 : (List Atom)) (sg : Type) (do2 : (sg → Atom → Option sg)) (L : sg → Res) (s3 : sg) (r : sg) (h : F_atom_each_Atom l1 sg do2 s3 = some r) : Con Tryz.prog 107 [rd (ksl kAtom) l1, stA Tryz.prog kAtom do2 L] (L s3) (fun _ : Unit => top) (fun _ => L r) := by
  refine Con.intro Tryz.func107 rfl Tryz.ntmps107 rfl fun w H X => ?_
  unfold F_atom_each_Atom at h
  refine SR <| Md rfl <| Ac (op_len' rfl rfl sl88 (vt rfl)) rfl <| Mk rfl <| Nl <| AW.block <| AW.loopG (d := []) (ν := (List Atom) × Nat × sg) (fun n => Sfx l1 n.2.1 n.1 ∧ F_atom_each_Atom_l1 sg do2 n.1 n.2.1 n.2.2 = some r) (fun n => n.1.length) (fun n => [(1, stA Tryz.prog kAtom do2 L), (6, rd (ksl kAtom) l1), (7, rd (kint .i64) (l1.length : Int)), (8, rd (kint .i64) (n.2.1 : Int))]) (fun n => [(0, L n.2.2)]) (l1, 0, s3) ⟨Sfx.start _, h⟩ ⟨rfl, ⟨rfl, rfl, rfl, rfl, trivial⟩, ⟨rfl, trivial⟩⟩ ?_
  rintro ⟨l7, i6, s5⟩ ⟨hsf1, h⟩
  change Sfx l1 i6 l7 at hsf1
  change F_atom_each_Atom_l1 sg do2 l7 i6 s5 = some r at h
  change AW _ _ _ ⟨slots [(1, stA Tryz.prog kAtom do2 L), (6, rd (ksl kAtom) l1), (7, rd (kint .i64) (l1.length : Int)), (8, rd (kint .i64) (i6 : Int))], ress [(0, L s5)], _⟩
  cases l7 with
  | nil =>
    unfold F_atom_each_Atom_l1 at h
    refine SR <| Ac (op_lss rfl rfl (vt rfl) (vt rfl)) rfl <| Nl <| AW.seq <| Cn rfl (fun hc => absurd (of_decide_eq_true hc) hsf1.nil) (fun hc => ?_)
    refine AW.exit ?_
    obtain rfl := si h
    exact ret0Y (i := 0) Tryz.results107 rfl rfl
  | cons x8 l7 =>
    unfold F_atom_each_Atom_l1 at h
    generalize hgo1 : F_atom_each_Atom_l1 sg do2 l7 = go1 at h
    refine SR <| Ac (op_lss rfl rfl (vt rfl) (vt rfl)) rfl <| Nl <| AW.seq <| Cn rfl (fun hc => ?_) (fun hc => absurd hsf1.cons (of_decide_eq_false hc))
    have hlti6 := of_decide_eq_true hc
    refine AW.skip <| AW.seq <| AW.block <| SR <| Ac (op_indexs' rfl rfl sl88 (vt rfl) (vt rfl) hsf1.lget) rfl <| Lp1 ty126 rfl <| Ct rfl (op_alloc 6 rfl rfl zr126) ?_
    rintro _ ⟨g9, rfl⟩
    refine Sto ty126 6 rfl <| Nl ?_
    obtain ⟨s10, hs10, h⟩ := bsome h
    refine Rg <| Ac (op_move (A := stA Tryz.prog kAtom do2 L) rfl rfl (vt rfl)) rfl <| Ld ty126 6 rfl <| Ac (op_callst 0 hs10 rfl rfl (vt rfl) (vt rfl) rfl) rfl <| Nl <| Rg <| Ac (op_incr (t := 7) rfl rfl (vt rfl) (vk rfl) (vt rfl) hlti6) rfl <| Md rfl <| Nl ?_
    subst hgo1
    exact ⟨(l7, i6 + 1, s10), Nat.lt_succ_self _, ⟨hsf1.next, h⟩, ⟨rfl, ⟨rfl, rfl, rfl, rfl, trivial⟩, ⟨rfl, trivial⟩⟩⟩
def F_atom_Out (l1 : (List Group)) (e2 : Env) (a3 : (List Atom)) (h4 : (Vector Wide 24)) : Option (List Out) :=
  (F_atom_each_Atom a3 (List Out) (fun s x => F_atom_Out_1 x h4 s l1 e2) []).bind fun b9 => some b9
theorem c_atom_Out (l1 : (List Group)) (e2 : Env) (a3 : (List Atom)) (h4 : (Vector Wide 24)) (r : (List Out)) (h : F_atom_Out l1 e2 a3 h4 = some r) : PCon Tryz.prog 51 [rd (ksl kGroup) l1, rd kEnv e2, rd (ksl kAtom) a3, rd (karr 24 kWide) h4] (rd (ksl kOut) r) := by
  refine PCon.of (Con.intro0 Tryz.func51 rfl Tryz.ntmps51 rfl fun w H => ?_)
  unfold F_atom_Out at h
  refine SR <| Ct rfl (op_box 5 rfl rfl (vt rfl)) ?_
  rintro _ ⟨g5, rfl⟩
  refine Ct rfl (op_box 6 rfl rfl (vt rfl)) ?_
  rintro _ ⟨g6, rfl⟩
  refine Ct rfl (op_box 8 rfl rfl (vt rfl)) ?_
  rintro _ ⟨g7, rfl⟩
  refine Ac (op_assign (A := rd (ksl kOut) []) rfl rfl vnil) rfl <| Nl <| AW.seq <| AW.newnil 2219 71 kOut <| Rg <| Ct rfl (op_alloc 10 rfl rfl zrr46) ?_
  rintro _ ⟨g8, rfl⟩
  refine Nl <| AW.seq <| AW.freezeB 7 8 rfl rfl rfl <| AW.freezeB 4 5 rfl rfl rfl <| AW.freezeB 5 6 rfl rfl rfl ?_
  obtain ⟨b9, hb9, h⟩ := bsome h
  refine Rg <| Md rfl <| Ac (op_st (fs := []) (cs := [.tmp 7, .tmp 9, .tmp 4, .tmp 5]) (FAs := []) (CAs := [rp (karr 24 kWide) h4, ptrL g8 (Lens.id kraw), rp (ksl kGroup) l1, rp kEnv e2]) (k := kAtom) (fun s x => F_atom_Out_1 x h4 s l1 e2) (fun (s : (List Out)) => BoxF g8 46 kraw (fun v => v) 71 kOut s) rfl rfl e108 trivial ⟨vt rfl, vt rfl, vt rfl, vt rfl, trivial⟩ (fun s x s2 h => c_atom_Out_1 _ _ x h4 s l1 e2 s2 h)) rfl <| AOps.packF 10 2219 (fun v => v) (by decide) rfl rfl <| Ct rfl (op_callR 10 (xs := [.tmp 10, .tmp 11]) (c_atom_each_Atom _ (List Out) _ (fun (s : (List Out)) => BoxF g8 46 kraw (fun v => v) 71 kOut s) _ _ hb9) e107 rfl rfl ⟨vt rfl, vt rfl, trivial⟩ rfl) ?_
  rintro _ ⟨_u, rfl⟩
  refine AOps.unboxF 10 2219 (by decide) rfl rfl fun v10 => Nl <| SR <| Ac (op_loadv v10 rfl rfl tyr46 (vt rfl) (i := 10) rfl rfl) rfl <| Aw rfl <| Nl <| AW.freezes [8, 13] 2219 rfl ⟨rfl, rfl, trivial⟩ rfl <| AW.ret ?_
  obtain rfl := si h
  exact ret1 Tryz.results51 rfl (out_tmp rfl)
def F_find_Out (f1 : Flat) (e2 : Env) (h3 : (Vector Wide 24)) : Option (List Out) :=
  (F_find_Find f1 h3).bind fun x7 => (bif (!x7.2) then some [] else (lget f1.Rules x7.1).bind fun e8 => (F_atom_Out f1.Groups e2 e8.Atoms h3).bind fun x9 => some x9)
theorem c_find_Out (f1 : Flat) (e2 : Env) (h3 : (Vector Wide 24)) (r : (List Out)) (h : F_find_Out f1 e2 h3 = some r) : PCon Tryz.prog 44 [rd kFlat f1, rd kEnv e2, rd (karr 24 kWide) h3] (rd (ksl kOut) r) := by
  refine PCon.of (Con.intro0 Tryz.func44 rfl Tryz.ntmps44 rfl fun w H => ?_)
  unfold F_find_Out at h
  refine SR <| Ct rfl (op_box 4 rfl rfl (vt rfl)) ?_
  rintro _ ⟨g4, rfl⟩
  refine Ct rfl (op_box 5 rfl rfl (vt rfl)) ?_
  rintro _ ⟨g5, rfl⟩
  refine Ct rfl (op_box 6 rfl rfl (vt rfl)) ?_
  rintro _ ⟨g6, rfl⟩
  refine Ac (op_assign (A := rd (ksl kOut) []) rfl rfl vnil) rfl <| Nl <| AW.seq ?_
  obtain ⟨x7, hx7, h⟩ := bsome h
  refine Rg <| Ld ty73 4 rfl <| Ld ty44 6 rfl <| Cl [10, 11] (c_find_Find _ _ _ hx7) e42 rfl <| Mt2 rfl <| Ac (op_fst rfl rfl (vt rfl)) rfl <| Ac (op_snd rfl rfl (vt rfl)) rfl <| As rfl <| As rfl <| Nl <| AW.seq <| SR <| Md rfl <| Ac (op_not rfl rfl (vt rfl)) rfl <| Nl <| Cn rfl (fun hc => ?_) (fun hc => ?_)
  · have h := cond_t hc h
    refine SR <| Ac (op_assign (A := rd (ksl kOut) []) rfl rfl vnil) rfl <| Nl <| AW.ret ?_
    obtain rfl := si h
    exact ret1 Tryz.results44 rfl (out_tmp rfl)
  · have h := cond_f hc h
    refine AW.skip <| AW.seq ?_
    obtain ⟨e8, he8, h⟩ := bsome h
    obtain ⟨x9, hx9, h⟩ := bsome h
    refine AW.regionAny [⟨[3], [17], [], []⟩, ⟨[17], [18], [4], []⟩, ⟨[4], [19], [5], []⟩, ⟨[3], [20], [], []⟩, ⟨[20], [21], [4], []⟩, ⟨[7], [22], [], []⟩, ⟨[21, 22], [23], [], []⟩, ⟨[23], [24], [], []⟩, ⟨[24], [25], [], []⟩, ⟨[5], [26], [6], []⟩, ⟨[18, 19, 25, 26], [27], [], []⟩, ⟨[27], [6], [], []⟩] mixed (by kernel_rfl) <| SFd lFlat_1 fl73_1 rfl <| SLd ty24 4 rfl <| SLd ty39 5 rfl <| SFd lFlat_0 fl73_0 rfl <| SLd ty32 4 rfl <| SMd rfl <| Sc (lo [21, 22] [] rfl fun S hs hr => op_indexs' rfl rfl sl32 (vh hs 21 rfl rfl) (vh hs 22 rfl rfl) he8) rfl <| SFp lRule_1 fl90_1 rfl <| SLp ty88 rfl <| SLd ty44 6 rfl <| SCl [18, 19, 25, 26] (c_atom_Out _ _ _ _ _ hx9) e51 rfl <| SAs rfl <| AW.ret ?_
    obtain rfl := si h
    exact ret1 Tryz.results44 rfl (out_tmp rfl)
def F_l36_awake : Option Bool :=
  (F_find_Find (⟨[(⟨(Vector.set (Vector.replicate 24 zTern) 0 (⟨zWide, (⟨0, (1 : BitVec 64)⟩ : Wide)⟩ : Tern) (by decide)), [(⟨(Vector.replicate 24 zTern), false, 4, 0⟩ : Atom)]⟩ : Rule), (⟨(Vector.replicate 24 zTern), []⟩ : Rule)], []⟩ : Flat) (Vector.set (Vector.replicate 24 zWide) 0 (⟨0, (1 : BitVec 64)⟩ : Wide) (by decide))).bind fun x2 => (F_find_Witness (⟨[(⟨(Vector.set (Vector.replicate 24 zTern) 0 (⟨zWide, (⟨0, (1 : BitVec 64)⟩ : Wide)⟩ : Tern) (by decide)), [(⟨(Vector.replicate 24 zTern), false, 4, 0⟩ : Atom)]⟩ : Rule), (⟨(Vector.replicate 24 zTern), []⟩ : Rule)], []⟩ : Flat) 1 9).bind fun x3 => (opt ((decide (x2.1 = 1)) && x2.2) (F_find_Out (⟨[(⟨(Vector.set (Vector.replicate 24 zTern) 0 (⟨zWide, (⟨0, (1 : BitVec 64)⟩ : Wide)⟩ : Tern) (by decide)), [(⟨(Vector.replicate 24 zTern), false, 4, 0⟩ : Atom)]⟩ : Rule), (⟨(Vector.replicate 24 zTern), []⟩ : Rule)], []⟩ : Flat) (⟨0, []⟩ : Env) (Vector.replicate 24 zWide))).bind fun x5 => some ((((((decide (x2.1 = 1)) && x2.2) && (decide ((x5.length : Int) = 1))) && x3.2.1) && (decide (x3.2.2 = 0))) && (decide (((Vector.get x3.1 (⟨0, by decide⟩ : _root_.Fin 24)).Lo) = (1 : BitVec 64))))
theorem c_l36_awake (r : Bool) (h : F_l36_awake = some r) : PCon Tryz.prog 41 [] (rd kbool r) := by
  refine PCon.of (Con.intro0 Tryz.func41 rfl Tryz.ntmps41 rfl fun w H => ?_)
  unfold F_l36_awake at h
  refine SR <| Ab rfl <| Nl <| SR <| Ac (op_build (ps := [(1, .const (Value.int IntKind.u64 1))]) (x := (⟨0, (1 : BitVec 64)⟩ : Wide)) rfl rfl rfl (by kernel_rfl) zr42 ⟨_, _, lWide_1, _, by kernel_rfl, (vku (1 : BitVec 64) rfl), rfl⟩) rfl <| Ac (op_build (ps := [(1, .tmp 7)]) (x := (⟨zWide, (⟨0, (1 : BitVec 64)⟩ : Wide)⟩ : Tern)) rfl rfl rfl (by kernel_rfl) zr85 ⟨_, _, lTern_1, _, by kernel_rfl, (vt rfl), rfl⟩) rfl <| Ac (op_build (ps := [(0, .tmp 8)]) (x := (Vector.set (Vector.replicate 24 zTern) 0 (⟨zWide, (⟨0, (1 : BitVec 64)⟩ : Wide)⟩ : Tern) (by decide))) rfl rfl rfl (by kernel_rfl) zr87 ⟨_, _, Lens.idx 24 kTern 0 (by decide), _, by kernel_rfl, (vt rfl), rfl⟩) rfl <| Ac (op_build (ps := [(2, .const (Value.int IntKind.i64 4))]) (x := (⟨(Vector.replicate 24 zTern), false, 4, 0⟩ : Atom)) rfl rfl rfl (by kernel_rfl) zr126 ⟨_, _, lAtom_2, _, by kernel_rfl, (vk rfl), rfl⟩) rfl <| Ac (op_buildSliceR (ps := [(0, .tmp 10)]) (l := [(⟨(Vector.replicate 24 zTern), false, 4, 0⟩ : Atom)]) rfl rfl sl88 zr126 rfl rfl ⟨_, _, Lens.idx 1 kAtom 0 (by decide), _, rfl, (vt rfl), rfl⟩ rfl) rfl <| Ac (op_build (ps := [(0, .tmp 9), (1, .tmp 11)]) (x := (⟨(Vector.set (Vector.replicate 24 zTern) 0 (⟨zWide, (⟨0, (1 : BitVec 64)⟩ : Wide)⟩ : Tern) (by decide)), [(⟨(Vector.replicate 24 zTern), false, 4, 0⟩ : Atom)]⟩ : Rule)) rfl rfl rfl (by kernel_rfl) zr90 ⟨_, _, lRule_0, _, by kernel_rfl, (vt rfl), _, _, lRule_1, _, by kernel_rfl, (vt rfl), rfl⟩) rfl <| Ac (op_build (ps := []) (x := (⟨(Vector.replicate 24 zTern), []⟩ : Rule)) rfl rfl rfl (by kernel_rfl) zr90 rfl) rfl <| Ac (op_buildSliceR (ps := [(0, .tmp 12), (1, .tmp 13)]) (l := [(⟨(Vector.set (Vector.replicate 24 zTern) 0 (⟨zWide, (⟨0, (1 : BitVec 64)⟩ : Wide)⟩ : Tern) (by decide)), [(⟨(Vector.replicate 24 zTern), false, 4, 0⟩ : Atom)]⟩ : Rule), (⟨(Vector.replicate 24 zTern), []⟩ : Rule)]) rfl rfl sl32 zr90 rfl rfl ⟨_, _, Lens.idx 2 kRule 0 (by decide), _, rfl, (vt rfl), _, _, Lens.idx 2 kRule 1 (by decide), _, rfl, (vt rfl), rfl⟩ rfl) rfl <| Ac (op_build (ps := [(0, .tmp 14)]) (x := (⟨[(⟨(Vector.set (Vector.replicate 24 zTern) 0 (⟨zWide, (⟨0, (1 : BitVec 64)⟩ : Wide)⟩ : Tern) (by decide)), [(⟨(Vector.replicate 24 zTern), false, 4, 0⟩ : Atom)]⟩ : Rule), (⟨(Vector.replicate 24 zTern), []⟩ : Rule)], []⟩ : Flat)) rfl rfl rfl (by kernel_rfl) zr73 ⟨_, _, lFlat_0, _, by kernel_rfl, (vt rfl), rfl⟩) rfl <| Ct rfl (op_alloc 2 rfl rfl zr73) ?_
  rintro _ ⟨g1, rfl⟩
  refine Sto ty73 2 rfl <| Nl <| AW.seq ?_
  obtain ⟨x2, hx2, h⟩ := bsome h
  refine Rg <| Ld ty73 2 rfl <| Ac (op_build (ps := [(1, .const (Value.int IntKind.u64 1))]) (x := (⟨0, (1 : BitVec 64)⟩ : Wide)) rfl rfl rfl (by kernel_rfl) zr42 ⟨_, _, lWide_1, _, by kernel_rfl, (vku (1 : BitVec 64) rfl), rfl⟩) rfl <| Ac (op_build (ps := [(0, .tmp 18)]) (x := (Vector.set (Vector.replicate 24 zWide) 0 (⟨0, (1 : BitVec 64)⟩ : Wide) (by decide))) rfl rfl rfl (by kernel_rfl) zr44 ⟨_, _, Lens.idx 24 kWide 0 (by decide), _, by kernel_rfl, (vt rfl), rfl⟩) rfl <| Cl [17, 19] (c_find_Find _ _ _ hx2) e42 rfl <| Mt2 rfl <| Ac (op_fst rfl rfl (vt rfl)) rfl <| Ac (op_snd rfl rfl (vt rfl)) rfl <| As rfl <| As rfl <| Nl <| AW.seq ?_
  obtain ⟨x3, hx3, h⟩ := bsome h
  refine Rg <| Ld ty73 2 rfl <| Ac (op_call (xs := [.tmp 24, .const (Value.int IntKind.i64 1), .const (Value.int IntKind.i64 9)]) (c_find_Witness _ _ _ _ hx3) e46 rfl rfl ⟨vt rfl, vk rfl, vk rfl, trivial⟩) rfl <| Ac (op_move (A := tup3 (rd (karr 24 kWide) x3.1) (rd kbool x3.2.1) (rd (kint .i64) x3.2.2)) rfl rfl (vt rfl)) rfl <| Ac (op_ext3_0 rfl rfl (vt rfl)) rfl <| Ac (op_ext3_1 rfl rfl (vt rfl)) rfl <| Ac (op_ext3_2 rfl rfl (vt rfl)) rfl <| Ct rfl (op_alloc 5 rfl rfl zr44) ?_
  rintro _ ⟨g4, rfl⟩
  refine Sto ty44 5 rfl <| As rfl <| As rfl <| Nl <| AW.seq ?_
  obtain ⟨x5, hx5, h⟩ := bsome h
  refine Rg <| Md rfl <| Ac (op_eql rfl rfl (vt rfl) (vk rfl)) rfl <| Md rfl <| Gd rfl (fun hq => op_move (A := rd kbool x2.2) rfl rfl (vt rfl)) <| Ac (op_all rfl rfl (vt rfl) (vt rfl)) rfl <| Md rfl <| Gd rfl (fun hq => op_load rfl rfl ty73 (vt rfl) (i := 2) rfl) <| Gd rfl (fun hq => op_build (ps := []) (x := (⟨0, []⟩ : Env)) rfl rfl rfl (by kernel_rfl) zr39 rfl) <| Gd rfl (fun hq => op_build (ps := []) (x := (Vector.replicate 24 zWide)) rfl rfl rfl (by kernel_rfl) zr44 rfl) <| Gd rfl (fun hq => op_call (xs := [.tmp 35, .tmp 36, .tmp 37]) (c_find_Out _ _ _ _ (opt_t hx5 hq)) e44 rfl rfl ⟨vgt rfl hq, vgt rfl hq, vgt rfl hq, trivial⟩) <| Gd rfl (fun hq => op_len' rfl rfl sl46 (vgt rfl hq)) <| Gd rfl (fun hq => op_eql rfl rfl (vgt rfl hq) (vk rfl)) <| Ac (op_all rfl rfl (vt rfl) (vt rfl)) rfl <| Md rfl <| Gd rfl (fun hq => op_move (A := rd kbool x3.2.1) rfl rfl (vt rfl)) <| Ac (op_all rfl rfl (vt rfl) (vt rfl)) rfl <| Md rfl <| Gd rfl (fun hq => op_move (A := rd (kint .i64) x3.2.2) rfl rfl (vt rfl)) <| Gd rfl (fun hq => op_eql rfl rfl (vgt rfl hq) (vk rfl)) <| Ac (op_all rfl rfl (vt rfl) (vt rfl)) rfl <| Md rfl <| Gd rfl (fun hq => op_index' rfl rfl ar44 (vt rfl) (vk rfl) rfl) <| Gd rfl (fun hq => op_field lWide_1 rfl rfl fl42_1 (vgt rfl hq)) <| Gd rfl (fun hq => op_load rfl rfl ty40 (vgt rfl hq) (i := 5) rfl) <| Gd rfl (fun hq => op_eqlu rfl rfl (vgt rfl hq) (vku (1 : BitVec 64) rfl)) <| Ac (op_all rfl rfl (vt rfl) (vt rfl)) rfl <| As rfl <| Nl <| AW.ret ?_
  obtain rfl := si h
  exact ret1 Tryz.results41 rfl (out_tmp rfl)
def F_r02_Xor (a1 : Wide) (b2 : Wide) : Option Wide :=
  some (⟨(a1.Hi ^^^ b2.Hi), (a1.Lo ^^^ b2.Lo)⟩ : Wide)
theorem c_r02_Xor (a1 : Wide) (b2 : Wide) (r : Wide) (h : F_r02_Xor a1 b2 = some r) : PCon Tryz.prog 233 [rd kWide a1, rd kWide b2] (rd kWide r) := by
  refine PCon.of (Con.intro0 Tryz.func233 rfl Tryz.ntmps233 rfl fun w H => ?_)
  unfold F_r02_Xor at h
  refine SR <| Ct rfl (op_box 3 rfl rfl (vt rfl)) ?_
  rintro _ ⟨g3, rfl⟩
  refine Ct rfl (op_box 4 rfl rfl (vt rfl)) ?_
  rintro _ ⟨g4, rfl⟩
  refine Ct rfl (op_alloc 5 rfl rfl zr42) ?_
  rintro _ ⟨g5, rfl⟩
  refine Nl <| SR <| FdA lWide_0 fl42_0 rfl <| Ld ty40 3 rfl <| FdA lWide_0 fl42_0 rfl <| Ld ty40 4 rfl <| Ac (op_xor rfl rfl (vt rfl) (vt rfl)) rfl <| FdA lWide_1 fl42_1 rfl <| Ld ty40 3 rfl <| FdA lWide_1 fl42_1 rfl <| Ld ty40 4 rfl <| Ac (op_xor rfl rfl (vt rfl) (vt rfl)) rfl <| Ac (op_build (ps := [(0, .tmp 9), (1, .tmp 14)]) (x := (⟨(a1.Hi ^^^ b2.Hi), (a1.Lo ^^^ b2.Lo)⟩ : Wide)) rfl rfl rfl (by kernel_rfl) zr42 ⟨_, _, lWide_0, _, by kernel_rfl, (vt rfl), _, _, lWide_1, _, by kernel_rfl, (vt rfl), rfl⟩) rfl <| Sto ty42 5 rfl <| Nl <| AW.ret ?_
  obtain rfl := si h
  exact ret1 Tryz.results233 rfl (out_cell rfl (i := 5) rfl ty42)
def F_r02_And (a1 : Wide) (b2 : Wide) : Option Wide :=
  some (⟨(a1.Hi &&& b2.Hi), (a1.Lo &&& b2.Lo)⟩ : Wide)
theorem c_r02_And (a1 : Wide) (b2 : Wide) (r : Wide) (h : F_r02_And a1 b2 = some r) : PCon Tryz.prog 189 [rd kWide a1, rd kWide b2] (rd kWide r) := by
  refine PCon.of (Con.intro0 Tryz.func189 rfl Tryz.ntmps189 rfl fun w H => ?_)
  unfold F_r02_And at h
  refine SR <| Ct rfl (op_box 3 rfl rfl (vt rfl)) ?_
  rintro _ ⟨g3, rfl⟩
  refine Ct rfl (op_box 4 rfl rfl (vt rfl)) ?_
  rintro _ ⟨g4, rfl⟩
  refine Ct rfl (op_alloc 5 rfl rfl zr42) ?_
  rintro _ ⟨g5, rfl⟩
  refine Nl <| SR <| FdA lWide_0 fl42_0 rfl <| Ld ty40 3 rfl <| FdA lWide_0 fl42_0 rfl <| Ld ty40 4 rfl <| Ac (op_and rfl rfl (vt rfl) (vt rfl)) rfl <| FdA lWide_1 fl42_1 rfl <| Ld ty40 3 rfl <| FdA lWide_1 fl42_1 rfl <| Ld ty40 4 rfl <| Ac (op_and rfl rfl (vt rfl) (vt rfl)) rfl <| Ac (op_build (ps := [(0, .tmp 9), (1, .tmp 14)]) (x := (⟨(a1.Hi &&& b2.Hi), (a1.Lo &&& b2.Lo)⟩ : Wide)) rfl rfl rfl (by kernel_rfl) zr42 ⟨_, _, lWide_0, _, by kernel_rfl, (vt rfl), _, _, lWide_1, _, by kernel_rfl, (vt rfl), rfl⟩) rfl <| Sto ty42 5 rfl <| Nl <| AW.ret ?_
  obtain rfl := si h
  exact ret1 Tryz.results189 rfl (out_cell rfl (i := 5) rfl ty42)
end Go.Proofs.YtknpgojdkobgjaaGreat.W
set_option linter.unusedVariables false
set_option maxRecDepth 4000
set_option linter.unusedSimpArgs false
namespace Go.Proofs.YtknpgojdkobgjaaGreat.W
open Go Go.Wb
theorem e233 : Ent Tryz.prog 233 := Ent.mk Tryz.func233 rfl rfl
theorem e189 : Ent Tryz.prog 189 := Ent.mk Tryz.func189 rfl rfl
theorem e232 : Ent Tryz.prog 232 := Ent.mk Tryz.func232 rfl rfl
theorem e188 : Ent Tryz.prog 188 := Ent.mk Tryz.func188 rfl rfl
theorem e187 : Ent Tryz.prog 187 := Ent.mk Tryz.func187 rfl rfl
def F_r02_Zero (a1 : Wide) : Option Bool :=
  some ((decide (a1.Hi = (0 : BitVec 64))) && (decide (a1.Lo = (0 : BitVec 64))))
theorem c_r02_Zero (a1 : Wide) (r : Bool) (h : F_r02_Zero a1 = some r) : PCon Tryz.prog 232 [rd kWide a1] (rd kbool r) := by
  refine PCon.of (Con.intro0 Tryz.func232 rfl Tryz.ntmps232 rfl fun w H => ?_)
  unfold F_r02_Zero at h
  refine SR <| Ct rfl (op_box 2 rfl rfl (vt rfl)) ?_
  rintro _ ⟨g2, rfl⟩
  refine Ab rfl <| Nl <| SR <| FdA lWide_0 fl42_0 rfl <| Ld ty40 2 rfl <| Ac (op_eqlu rfl rfl (vt rfl) (vku (0 : BitVec 64) rfl)) rfl <| Md rfl <| Gd rfl (fun hq => op_field lWide_1 rfl rfl fl42_1 (vt rfl)) <| Gd rfl (fun hq => op_load rfl rfl ty40 (vgt rfl hq) (i := 2) rfl) <| Gd rfl (fun hq => op_eqlu rfl rfl (vgt rfl hq) (vku (0 : BitVec 64) rfl)) <| Ac (op_all rfl rfl (vt rfl) (vt rfl)) rfl <| As rfl <| Nl <| AW.ret ?_
  obtain rfl := si h
  exact ret1 Tryz.results232 rfl (out_tmp rfl)
def F_r02_Less (a1 : Wide) (b2 : Wide) : Option Wide :=
  some (⟨(a1.Hi &&& ~~~b2.Hi), (a1.Lo &&& ~~~b2.Lo)⟩ : Wide)
theorem c_r02_Less (a1 : Wide) (b2 : Wide) (r : Wide) (h : F_r02_Less a1 b2 = some r) : PCon Tryz.prog 188 [rd kWide a1, rd kWide b2] (rd kWide r) := by
  refine PCon.of (Con.intro0 Tryz.func188 rfl Tryz.ntmps188 rfl fun w H => ?_)
  unfold F_r02_Less at h
  refine SR <| Ct rfl (op_box 3 rfl rfl (vt rfl)) ?_
  rintro _ ⟨g3, rfl⟩
  refine Ct rfl (op_box 4 rfl rfl (vt rfl)) ?_
  rintro _ ⟨g4, rfl⟩
  refine Ct rfl (op_alloc 5 rfl rfl zr42) ?_
  rintro _ ⟨g5, rfl⟩
  refine Nl <| SR <| FdA lWide_0 fl42_0 rfl <| Ld ty40 3 rfl <| FdA lWide_0 fl42_0 rfl <| Ld ty40 4 rfl <| Ac (op_andNot rfl rfl (vt rfl) (vt rfl)) rfl <| FdA lWide_1 fl42_1 rfl <| Ld ty40 3 rfl <| FdA lWide_1 fl42_1 rfl <| Ld ty40 4 rfl <| Ac (op_andNot rfl rfl (vt rfl) (vt rfl)) rfl <| Ac (op_build (ps := [(0, .tmp 9), (1, .tmp 14)]) (x := (⟨(a1.Hi &&& ~~~b2.Hi), (a1.Lo &&& ~~~b2.Lo)⟩ : Wide)) rfl rfl rfl (by kernel_rfl) zr42 ⟨_, _, lWide_0, _, by kernel_rfl, (vt rfl), _, _, lWide_1, _, by kernel_rfl, (vt rfl), rfl⟩) rfl <| Sto ty42 5 rfl <| Nl <| AW.ret ?_
  obtain rfl := si h
  exact ret1 Tryz.results188 rfl (out_cell rfl (i := 5) rfl ty42)
def F_r02_Or (a1 : Wide) (b2 : Wide) : Option Wide :=
  some (⟨(a1.Hi ||| b2.Hi), (a1.Lo ||| b2.Lo)⟩ : Wide)
theorem c_r02_Or (a1 : Wide) (b2 : Wide) (r : Wide) (h : F_r02_Or a1 b2 = some r) : PCon Tryz.prog 187 [rd kWide a1, rd kWide b2] (rd kWide r) := by
  refine PCon.of (Con.intro0 Tryz.func187 rfl Tryz.ntmps187 rfl fun w H => ?_)
  unfold F_r02_Or at h
  refine SR <| Ct rfl (op_box 3 rfl rfl (vt rfl)) ?_
  rintro _ ⟨g3, rfl⟩
  refine Ct rfl (op_box 4 rfl rfl (vt rfl)) ?_
  rintro _ ⟨g4, rfl⟩
  refine Ct rfl (op_alloc 5 rfl rfl zr42) ?_
  rintro _ ⟨g5, rfl⟩
  refine Nl <| SR <| FdA lWide_0 fl42_0 rfl <| Ld ty40 3 rfl <| FdA lWide_0 fl42_0 rfl <| Ld ty40 4 rfl <| Ac (op_or rfl rfl (vt rfl) (vt rfl)) rfl <| FdA lWide_1 fl42_1 rfl <| Ld ty40 3 rfl <| FdA lWide_1 fl42_1 rfl <| Ld ty40 4 rfl <| Ac (op_or rfl rfl (vt rfl) (vt rfl)) rfl <| Ac (op_build (ps := [(0, .tmp 9), (1, .tmp 14)]) (x := (⟨(a1.Hi ||| b2.Hi), (a1.Lo ||| b2.Lo)⟩ : Wide)) rfl rfl rfl (by kernel_rfl) zr42 ⟨_, _, lWide_0, _, by kernel_rfl, (vt rfl), _, _, lWide_1, _, by kernel_rfl, (vt rfl), rfl⟩) rfl <| Sto ty42 5 rfl <| Nl <| AW.ret ?_
  obtain rfl := si h
  exact ret1 Tryz.results187 rfl (out_cell rfl (i := 5) rfl ty42)
end Go.Proofs.YtknpgojdkobgjaaGreat.W
set_option linter.unusedVariables false
set_option maxRecDepth 4000
set_option linter.unusedSimpArgs false
namespace Go.Proofs.YtknpgojdkobgjaaGreat.W
open Go Go.Wb
end Go.Proofs.YtknpgojdkobgjaaGreat.W
set_option linter.unusedVariables false
set_option maxRecDepth 4000
set_option linter.unusedSimpArgs false
namespace Go.Proofs.YtknpgojdkobgjaaGreat.W
open Go Go.Wb
theorem e309 : Ent Tryz.prog 309 := Ent.mk Tryz.func309 rfl rfl
theorem e144 : Ent Tryz.prog 144 := Ent.mk Tryz.func144 rfl rfl
def F_r02_Bit (i1 : Int) : Option Wide :=
  (bif ((decide (i1 < 0)) || (decide (i1 > 127))) then some (⟨0, 0⟩ : Wide) else (bif (decide (i1 < 64)) then (oushl (1 : BitVec 64) ((BitVec.ofInt 64 i1).toNat : Int)).bind fun q3 => some (⟨0, q3⟩ : Wide) else (oushl (1 : BitVec 64) ((BitVec.ofInt 64 (IntKind.i64.wrap (i1 - 64))).toNat : Int)).bind fun q4 => some (⟨q4, 0⟩ : Wide)))
theorem c_r02_Bit (i1 : Int) (r : Wide) (h : F_r02_Bit i1 = some r) : PCon Tryz.prog 309 [rd (kint .i64) i1] (rd kWide r) := by
  refine PCon.of (Con.intro0 Tryz.func309 rfl Tryz.ntmps309 rfl fun w H => ?_)
  unfold F_r02_Bit at h
  refine SR <| Ct rfl (op_alloc 3 rfl rfl zr42) ?_
  rintro _ ⟨g2, rfl⟩
  refine Nl <| AW.seq <| AW.block <| SR <| Md rfl <| Ac (op_lss rfl rfl (vt rfl) (vk rfl)) rfl <| Md rfl <| Gd rfl (fun hq => op_move (A := rd (kint .i64) i1) rfl rfl (vt rfl)) <| Gd rfl (fun hq => op_gtr rfl rfl (vgt rfl hq) (vk rfl)) <| Ac (op_any rfl rfl (vt rfl) (vt rfl)) rfl <| As rfl <| Nl <| Cn rfl (fun hc => ?_) (fun hc => ?_)
  · have h := cond_t hc h
    refine SR <| Ac (op_build (ps := []) (x := (⟨0, 0⟩ : Wide)) rfl rfl rfl (by kernel_rfl) zr42 rfl) rfl <| Sto ty42 3 rfl <| Nl <| AW.ret ?_
    obtain rfl := si h
    exact ret1 Tryz.results309 rfl (out_cell rfl (i := 3) rfl ty42)
  · have h := cond_f hc h
    refine SR <| Md rfl <| Ac (op_lss rfl rfl (vt rfl) (vk rfl)) rfl <| As rfl <| Nl <| Cn rfl (fun hc => ?_) (fun hc => ?_)
    · have h := cond_t hc h
      refine AW.seq ?_
      obtain ⟨q3, hq3, h⟩ := bsome h
      refine Rg <| Md rfl <| Ac (op_convu rfl rfl us3 un360 (vt rfl)) rfl <| Ac (op_ushl rfl rfl (vku (1 : BitVec 64) rfl) (vu64 (vt rfl)) hq3) rfl <| Ac (op_build (ps := [(1, .tmp 16)]) (x := (⟨0, q3⟩ : Wide)) rfl rfl rfl (by kernel_rfl) zr42 ⟨_, _, lWide_1, _, by kernel_rfl, (vt rfl), rfl⟩) rfl <| Sto ty42 3 rfl <| Nl <| AW.ret ?_
      obtain rfl := si h
      exact ret1 Tryz.results309 rfl (out_cell rfl (i := 3) rfl ty42)
    · have h := cond_f hc h
      refine AW.skip <| AW.seq ?_
      obtain ⟨q4, hq4, h⟩ := bsome h
      refine Rg <| Md rfl <| Ac (op_sub rfl rfl (vt rfl) (vk rfl)) rfl <| Ac (op_convu rfl rfl us3 un360 (vt rfl)) rfl <| Ac (op_ushl rfl rfl (vku (1 : BitVec 64) rfl) (vu64 (vt rfl)) hq4) rfl <| Ac (op_build (ps := [(0, .tmp 21)]) (x := (⟨q4, 0⟩ : Wide)) rfl rfl rfl (by kernel_rfl) zr42 ⟨_, _, lWide_0, _, by kernel_rfl, (vt rfl), rfl⟩) rfl <| Sto ty42 3 rfl <| Nl <| AW.ret ?_
      obtain rfl := si h
      exact ret1 Tryz.results309 rfl (out_cell rfl (i := 3) rfl ty42)
def F_r05_Clean (t1 : Tern) : Option Tern :=
  (F_r02_And t1.Value t1.Mask).bind fun x4 => some (⟨x4, t1.Mask⟩ : Tern)
theorem c_r05_Clean (t1 : Tern) (r : Tern) (h : F_r05_Clean t1 = some r) : PCon Tryz.prog 144 [rd kTern t1] (rd kTern r) := by
  refine PCon.of (Con.intro0 Tryz.func144 rfl Tryz.ntmps144 rfl fun w H => ?_)
  unfold F_r05_Clean at h
  refine SR <| Ct rfl (op_box 2 rfl rfl (vt rfl)) ?_
  rintro _ ⟨g2, rfl⟩
  refine Ct rfl (op_alloc 3 rfl rfl zr85) ?_
  rintro _ ⟨g3, rfl⟩
  refine Nl <| AW.seq ?_
  obtain ⟨x4, hx4, h⟩ := bsome h
  refine AW.regionAny [⟨[1], [3], [], []⟩, ⟨[3], [4], [2], []⟩, ⟨[1], [5], [], []⟩, ⟨[5], [6], [2], []⟩, ⟨[4, 6], [7], [], []⟩, ⟨[1], [8], [], []⟩, ⟨[8], [9], [2], []⟩, ⟨[7, 9], [10], [], []⟩, ⟨[2, 10], [], [3], [3]⟩] mixed (by kernel_rfl) <| SFd lTern_0 fl85_0 rfl <| SLd ty42 2 rfl <| SFd lTern_1 fl85_1 rfl <| SLd ty42 2 rfl <| SCl [4, 6] (c_r02_And _ _ _ hx4) e189 rfl <| SFd lTern_1 fl85_1 rfl <| SLd ty42 2 rfl <| Sc (lo [7, 9] [] rfl fun S hs hr => op_build (ps := [(0, .tmp 7), (1, .tmp 9)]) (x := (⟨x4, t1.Mask⟩ : Tern)) rfl rfl rfl (by kernel_rfl) zr85 ⟨_, _, lTern_0, _, by kernel_rfl, (vh hs 7 rfl rfl), _, _, lTern_1, _, by kernel_rfl, (vh hs 9 rfl rfl), rfl⟩) rfl <| SSt ty85 3 rfl <| AW.ret ?_
  obtain rfl := si h
  exact ret1 Tryz.results144 rfl (out_cell rfl (i := 3) rfl ty85)
end Go.Proofs.YtknpgojdkobgjaaGreat.W
set_option linter.unusedVariables false
set_option maxRecDepth 4000
set_option linter.unusedSimpArgs false
namespace Go.Proofs.YtknpgojdkobgjaaGreat.W
open Go Go.Wb
end Go.Proofs.YtknpgojdkobgjaaGreat.W
set_option linter.unusedVariables false
set_option maxRecDepth 4000
set_option linter.unusedSimpArgs false
namespace Go.Proofs.YtknpgojdkobgjaaGreat.W
open Go Go.Wb
theorem e39 : Ent Tryz.prog 39 := Ent.mk Tryz.func39 rfl rfl
theorem e40 : Ent Tryz.prog 40 := Ent.mk Tryz.func40 rfl rfl
theorem e41 : Ent Tryz.prog 41 := Ent.mk Tryz.func41 rfl rfl
theorem e321 : Ent Tryz.prog 321 := Ent.mk Tryz.func321 rfl rfl
theorem e209 : Ent Tryz.prog 209 := Ent.mk Tryz.func209 rfl rfl
def F_r34_Cubes_l1 (l1 : (List Rule)) : Nat → (List (Vector Tern 24)) → Int → Option (List (Vector Tern 24))
  | 0, _, _ => none
  | m9 + 1, l6, i8 => (bif (decide (i8 < (l1.length : Int))) then (lget l1 i8).bind fun e10 => (appd l6 [e10.Cube]).bind fun l11 => (F_r34_Cubes_l1 l1 m9) l11 (IntKind.i64.wrap (i8 + 1)) else some l6)
def F_r34_Cubes (l1 : (List Rule)) : Option (List (Vector Tern 24)) :=
  F_r34_Cubes_l1 l1 ((((l1.length : Int) : Int) - 0).toNat + 1) [] 0
theorem c_r34_Cubes_o (l1 : (List Rule)) (r : (List (Vector Tern 24))) (h : F_r34_Cubes l1 = some r) : Con Tryz.prog 172 [rd (ksl kRule) l1] emp (fun v => raw v) (fun v => Row v 87 (karr 24 kTern) r) := by
  refine Con.intro0 Tryz.func172 rfl Tryz.ntmps172 rfl fun w H => ?_
  unfold F_r34_Cubes at h
  refine AW.seq <| AW.newnil 1001 87 (karr 24 kTern) <| Rg <| Ac (op_assign rfl rfl vc) rfl <| Nl <| SR <| Ct rfl (op_buildSlice 1002 (ps := []) (l := []) rfl rfl sl229 zr87 rfl rfl rfl rfl) ?_
  rintro _ ⟨v2, rfl⟩
  refine Aw rfl <| Nl <| AW.seq <| SR <| Ak rfl <| Nl <| AW.block <| AW.loopG (d := []) (ν := Nat × (List (Vector Tern 24)) × Int × Value) (fun n => True ∧ F_r34_Cubes_l1 l1 n.1 n.2.1 n.2.2.1 = some r) (fun n => n.1) (fun n => [(0, rd (ksl kRule) l1), (3, raw n.2.2.2), (4, rd (kint .i64) n.2.2.1)]) (fun n => [(1002, Row n.2.2.2 87 (karr 24 kTern) n.2.1)]) (((((l1.length : Int) : Int) - 0).toNat + 1), [], 0, v2) ⟨trivial, h⟩ ⟨rfl, ⟨rfl, rfl, rfl, trivial⟩, ⟨rfl, trivial⟩⟩ ?_
  rintro ⟨m9, l6, i8, v7⟩ ⟨hsf1, h⟩
  change True at hsf1
  change F_r34_Cubes_l1 l1 m9 l6 i8 = some r at h
  change AW _ _ _ ⟨slots [(0, rd (ksl kRule) l1), (3, raw v7), (4, rd (kint .i64) i8)], ress [(1002, Row v7 87 (karr 24 kTern) l6)], _⟩
  cases m9 with
  | zero => cases h
  | succ m9 =>
    unfold F_r34_Cubes_l1 at h
    generalize hgo1 : F_r34_Cubes_l1 l1 m9 = go1 at h
    refine AW.seq <| SR <| Md rfl <| Md rfl <| Ac (op_len' rfl rfl sl32 (vt rfl)) rfl <| Ac (op_lss rfl rfl (vt rfl) (vt rfl)) rfl <| Nl <| Cn rfl (fun hc => ?_) (fun hc => ?_)
    · have h := cond_t hc h
      refine AW.skip <| AW.seq <| AW.block ?_
      obtain ⟨e10, he10, h⟩ := bsome h
      obtain ⟨l11, hl11, h⟩ := bsome h
      refine Rg <| Mw rfl <| Md rfl <| Md rfl <| Ac (op_indexs' rfl rfl sl32 (vt rfl) (vt rfl) he10) rfl <| Fp lRule_0 fl90_0 rfl <| Lp1 ty87 rfl <| Ac (op_buildSliceR (ps := [(0, .tmp 17)]) (l := [e10.Cube]) rfl rfl sl229 zr87 rfl rfl ⟨_, _, Lens.idx 1 (karr 24 kTern) 0 (by decide), _, rfl, (vt rfl), rfl⟩ rfl) rfl <| Ct rfl (op_append' 1002 hl11 rfl rfl el229 (vt rfl) rfl (vt rfl)) ?_
      rintro _ ⟨v12, rfl⟩
      refine Aw rfl <| Nl <| Rg <| Md rfl <| Ac (op_add rfl rfl (vt rfl) (vk rfl)) rfl <| As rfl <| Nl ?_
      subst hgo1
      exact ⟨(m9, l11, (IntKind.i64.wrap (i8 + 1)), v12), Nat.lt_succ_self _, ⟨trivial, h⟩, ⟨rfl, ⟨rfl, rfl, rfl, trivial⟩, ⟨rfl, trivial⟩⟩⟩
    · have h := cond_f hc h
      refine AW.exit <| SR <| Mw rfl <| Aw rfl <| Nl <| AW.ret ?_
      obtain rfl := si h
      exact ret1R (i := 1002) Tryz.results172 rfl rfl rfl
theorem c_r34_Cubes (l1 : (List Rule)) (r : (List (Vector Tern 24))) (h : F_r34_Cubes l1 = some r) : PCon Tryz.prog 172 [rd (ksl kRule) l1] (rd (ksl (karr 24 kTern)) r) := PCon.of_row (c_r34_Cubes_o l1 r h)
def F_r05_Within (a1 : Tern) (b2 : Tern) : Option Bool :=
  (F_r02_Less b2.Mask a1.Mask).bind fun x5 => (F_r02_Zero x5).bind fun x6 => (opt x6 (F_r02_Xor a1.Value b2.Value)).bind fun x7 => (opt x6 (F_r02_And x7 b2.Mask)).bind fun x8 => (opt x6 (F_r02_Zero x8)).bind fun x9 => some (x6 && x9)
theorem c_r05_Within (a1 : Tern) (b2 : Tern) (r : Bool) (h : F_r05_Within a1 b2 = some r) : PCon Tryz.prog 321 [rd kTern a1, rd kTern b2] (rd kbool r) := by
  refine PCon.of (Con.intro0 Tryz.func321 rfl Tryz.ntmps321 rfl fun w H => ?_)
  unfold F_r05_Within at h
  refine SR <| Ct rfl (op_box 3 rfl rfl (vt rfl)) ?_
  rintro _ ⟨g3, rfl⟩
  refine Ct rfl (op_box 4 rfl rfl (vt rfl)) ?_
  rintro _ ⟨g4, rfl⟩
  refine Ab rfl <| Nl <| AW.seq ?_
  obtain ⟨x5, hx5, h⟩ := bsome h
  obtain ⟨x6, hx6, h⟩ := bsome h
  obtain ⟨x7, hx7, h⟩ := bsome h
  obtain ⟨x8, hx8, h⟩ := bsome h
  obtain ⟨x9, hx9, h⟩ := bsome h
  refine AW.regionAny [⟨[3], [5], [], []⟩, ⟨[5], [6], [4], []⟩, ⟨[2], [7], [], []⟩, ⟨[7], [8], [3], []⟩, ⟨[6, 8], [9], [], []⟩, ⟨[9], [10], [], []⟩, ⟨[10], [11], [], []⟩, ⟨[2, 11], [12], [], []⟩, ⟨[12, 11], [13], [3], []⟩, ⟨[3, 11], [14], [], []⟩, ⟨[14, 11], [15], [4], []⟩, ⟨[13, 15, 11], [16], [], []⟩, ⟨[3, 11], [17], [], []⟩, ⟨[17, 11], [18], [4], []⟩, ⟨[16, 18, 11], [19], [], []⟩, ⟨[19, 11], [20], [], []⟩, ⟨[20, 11], [21], [], []⟩, ⟨[21], [4], [], []⟩] mixed (by kernel_rfl) <| SFd lTern_1 fl85_1 rfl <| SLd ty42 4 rfl <| SFd lTern_1 fl85_1 rfl <| SLd ty42 3 rfl <| SCl [6, 8] (c_r02_Less _ _ _ hx5) e188 rfl <| SCl [9] (c_r02_Zero _ _ hx6) e232 rfl <| SMd rfl <| Sc (lg [2, 11] [] rfl fun hq S hs hr => op_field lTern_0 rfl rfl fl85_0 (vh hs 2 rfl rfl)) rfl <| Sc (lg [12, 11] [3] rfl fun hq S hs hr => op_load rfl rfl ty42 (vgt ((hs 12 rfl).trans rfl) hq) (i := 3) ((hr 3 rfl).trans rfl)) rfl <| Sc (lg [3, 11] [] rfl fun hq S hs hr => op_field lTern_0 rfl rfl fl85_0 (vh hs 3 rfl rfl)) rfl <| Sc (lg [14, 11] [4] rfl fun hq S hs hr => op_load rfl rfl ty42 (vgt ((hs 14 rfl).trans rfl) hq) (i := 4) ((hr 4 rfl).trans rfl)) rfl <| Sc (lg [13, 15, 11] [] rfl fun hq S hs hr => op_call (xs := [.tmp 13, .tmp 15]) (c_r02_Xor _ _ _ (opt_t hx7 hq)) e233 rfl rfl ⟨vgt ((hs 13 rfl).trans rfl) hq, vgt ((hs 15 rfl).trans rfl) hq, trivial⟩) rfl <| Sc (lg [3, 11] [] rfl fun hq S hs hr => op_field lTern_1 rfl rfl fl85_1 (vh hs 3 rfl rfl)) rfl <| Sc (lg [17, 11] [4] rfl fun hq S hs hr => op_load rfl rfl ty42 (vgt ((hs 17 rfl).trans rfl) hq) (i := 4) ((hr 4 rfl).trans rfl)) rfl <| Sc (lg [16, 18, 11] [] rfl fun hq S hs hr => op_call (xs := [.tmp 16, .tmp 18]) (c_r02_And _ _ _ (opt_t hx8 hq)) e189 rfl rfl ⟨vgt ((hs 16 rfl).trans rfl) hq, vgt ((hs 18 rfl).trans rfl) hq, trivial⟩) rfl <| Sc (lg [19, 11] [] rfl fun hq S hs hr => op_call (xs := [.tmp 19]) (c_r02_Zero _ _ (opt_t hx9 hq)) e232 rfl rfl ⟨vgt ((hs 19 rfl).trans rfl) hq, trivial⟩) rfl <| Sc (lo [20, 11] [] rfl fun S hs hr => op_all rfl rfl (vh hs 11 rfl rfl) (vh hs 20 rfl rfl)) rfl <| SAs rfl <| AW.ret ?_
  obtain rfl := si h
  exact ret1 Tryz.results321 rfl (out_tmp rfl)
def F_r06_Within_l1 (a1 : (Vector Tern 24)) (b2 : (Vector Tern 24)) : Nat → Int → Option Bool
  | 0, _ => none
  | m7 + 1, f6 => (bif (decide (f6 < 24)) then (chk 24 f6).bind fun j8 => (chk 24 f6).bind fun j9 => (F_r05_Within (Vector.get a1 j8) (Vector.get b2 j9)).bind fun x10 => (bif (!x10) then some false else (F_r06_Within_l1 a1 b2 m7) (IntKind.i64.wrap (f6 + 1))) else some true)
def F_r06_Within (a1 : (Vector Tern 24)) (b2 : (Vector Tern 24)) : Option Bool :=
  F_r06_Within_l1 a1 b2 (((24 : Int) - 0).toNat + 1) 0
theorem c_r06_Within (a1 : (Vector Tern 24)) (b2 : (Vector Tern 24)) (r : Bool) (h : F_r06_Within a1 b2 = some r) : PCon Tryz.prog 281 [rd (karr 24 kTern) a1, rd (karr 24 kTern) b2] (rd kbool r) := by
  refine PCon.of (Con.intro0 Tryz.func281 rfl Tryz.ntmps281 rfl fun w H => ?_)
  unfold F_r06_Within at h
  refine SR <| Ct rfl (op_box 3 rfl rfl (vt rfl)) ?_
  rintro _ ⟨g3, rfl⟩
  refine Ct rfl (op_box 4 rfl rfl (vt rfl)) ?_
  rintro _ ⟨g4, rfl⟩
  refine Ab rfl <| Nl <| AW.seq <| SR <| Ak rfl <| Nl <| AW.block <| AW.loopG (d := []) (ν := Nat × Int) (fun n => True ∧ F_r06_Within_l1 a1 b2 n.1 n.2 = some r) (fun n => n.1) (fun n => [(2, ptrL g3 (Lens.id (karr 24 kTern))), (3, ptrL g4 (Lens.id (karr 24 kTern))), (5, rd (kint .i64) n.2)]) (fun n => [(3, Blk g3 87 (karr 24 kTern) a1), (4, Blk g4 87 (karr 24 kTern) b2)]) ((((24 : Int) - 0).toNat + 1), 0) ⟨trivial, h⟩ ⟨rfl, ⟨rfl, rfl, rfl, trivial⟩, ⟨rfl, rfl, trivial⟩⟩ ?_
  rintro ⟨m7, f6⟩ ⟨hsf1, h⟩
  change True at hsf1
  change F_r06_Within_l1 a1 b2 m7 f6 = some r at h
  change AW _ _ _ ⟨slots [(2, ptrL g3 (Lens.id (karr 24 kTern))), (3, ptrL g4 (Lens.id (karr 24 kTern))), (5, rd (kint .i64) f6)], ress [(3, Blk g3 87 (karr 24 kTern) a1), (4, Blk g4 87 (karr 24 kTern) b2)], _⟩
  cases m7 with
  | zero => cases h
  | succ m7 =>
    unfold F_r06_Within_l1 at h
    generalize hgo1 : F_r06_Within_l1 a1 b2 m7 = go1 at h
    refine AW.seq <| SR <| Md rfl <| Ac (op_lss rfl rfl (vt rfl) (vk rfl)) rfl <| Nl <| Cn rfl (fun hc => ?_) (fun hc => ?_)
    · have h := cond_t hc h
      refine AW.skip <| AW.seq <| AW.block <| AW.seq ?_
      obtain ⟨j8, hj8, h⟩ := bsome h
      obtain ⟨j9, hj9, h⟩ := bsome h
      obtain ⟨x10, hx10, h⟩ := bsome h
      refine AW.regionAny [⟨[5], [10], [], []⟩, ⟨[2, 10], [11], [], []⟩, ⟨[11], [12], [3], []⟩, ⟨[5], [13], [], []⟩, ⟨[3, 13], [14], [], []⟩, ⟨[14], [15], [4], []⟩, ⟨[12, 15], [16], [], []⟩, ⟨[16], [17], [], []⟩] mixed (by kernel_rfl) <| SMd rfl <| Sc (lo [2, 10] [] rfl fun S hs hr => op_index' rfl rfl ar87 (vh hs 2 rfl rfl) (vh hs 10 rfl rfl) hj8) rfl <| SLd ty85 3 rfl <| SMd rfl <| Sc (lo [3, 13] [] rfl fun S hs hr => op_index' rfl rfl ar87 (vh hs 3 rfl rfl) (vh hs 13 rfl rfl) hj9) rfl <| SLd ty85 4 rfl <| SCl [12, 15] (c_r05_Within _ _ _ hx10) e321 rfl <| Sc (lo [16] [] rfl fun S hs hr => op_not rfl rfl (vh hs 16 rfl rfl)) rfl <| Cn rfl (fun hc => ?_) (fun hc => ?_)
      · have h := cond_t hc h
        refine SR <| Ab rfl <| Nl <| AW.ret ?_
        obtain rfl := si h
        exact ret1 Tryz.results281 rfl (out_tmp rfl)
      · have h := cond_f hc h
        refine AW.skip <| Rg <| Md rfl <| Ac (op_add rfl rfl (vt rfl) (vk rfl)) rfl <| As rfl <| Nl ?_
        subst hgo1
        exact ⟨(m7, (IntKind.i64.wrap (f6 + 1))), Nat.lt_succ_self _, ⟨trivial, h⟩, ⟨rfl, ⟨rfl, rfl, rfl, trivial⟩, ⟨rfl, rfl, trivial⟩⟩⟩
    · have h := cond_f hc h
      refine AW.exit <| SR <| Ab rfl <| Nl <| AW.ret ?_
      obtain rfl := si h
      exact ret1 Tryz.results281 rfl (out_tmp rfl)
def F_r05_Meet (a1 : Tern) (b2 : Tern) : Option (Tern × Bool) :=
  (F_r02_And a1.Mask b2.Mask).bind fun x6 => (F_r02_Xor a1.Value b2.Value).bind fun x8 => (F_r02_And x8 x6).bind fun x9 => (F_r02_Zero x9).bind fun x10 => (bif (!x10) then some ((⟨zWide, zWide⟩ : Tern), false) else (F_r05_Clean a1).bind fun x11 => (F_r05_Clean b2).bind fun x12 => (F_r02_Or x11.Value x12.Value).bind fun x13 => (F_r02_Or x11.Mask x12.Mask).bind fun x14 => some ((⟨x13, x14⟩ : Tern), true))
theorem c_r05_Meet (a1 : Tern) (b2 : Tern) (r : (Tern × Bool)) (h : F_r05_Meet a1 b2 = some r) : PCon Tryz.prog 209 [rd kTern a1, rd kTern b2] (tup2 (rd kTern r.1) (rd kbool r.2)) := by
  refine PCon.of (Con.intro0 Tryz.func209 rfl Tryz.ntmps209 rfl fun w H => ?_)
  unfold F_r05_Meet at h
  refine SR <| Ct rfl (op_box 3 rfl rfl (vt rfl)) ?_
  rintro _ ⟨g3, rfl⟩
  refine Ct rfl (op_box 4 rfl rfl (vt rfl)) ?_
  rintro _ ⟨g4, rfl⟩
  refine Ct rfl (op_alloc 5 rfl rfl zr85) ?_
  rintro _ ⟨g5, rfl⟩
  refine Ab rfl <| Nl <| AW.seq ?_
  obtain ⟨x6, hx6, h⟩ := bsome h
  refine Rg <| FdA lTern_1 fl85_1 rfl <| Ld ty42 3 rfl <| FdA lTern_1 fl85_1 rfl <| Ld ty42 4 rfl <| Cl [8, 10] (c_r02_And _ _ _ hx6) e189 rfl <| Ct rfl (op_alloc 7 rfl rfl zr42) ?_
  rintro _ ⟨g7, rfl⟩
  refine Sto ty42 7 rfl <| Nl <| AW.seq <| AW.seq ?_
  obtain ⟨x8, hx8, h⟩ := bsome h
  obtain ⟨x9, hx9, h⟩ := bsome h
  obtain ⟨x10, hx10, h⟩ := bsome h
  refine AW.regionAny [⟨[2], [12], [], []⟩, ⟨[12], [13], [3], []⟩, ⟨[3], [14], [], []⟩, ⟨[14], [15], [4], []⟩, ⟨[13, 15], [16], [], []⟩, ⟨[6], [17], [7], []⟩, ⟨[16, 17], [18], [], []⟩, ⟨[18], [19], [], []⟩, ⟨[19], [20], [], []⟩] mixed (by kernel_rfl) <| SFd lTern_0 fl85_0 rfl <| SLd ty42 3 rfl <| SFd lTern_0 fl85_0 rfl <| SLd ty42 4 rfl <| SCl [13, 15] (c_r02_Xor _ _ _ hx8) e233 rfl <| SLd ty42 7 rfl <| SCl [16, 17] (c_r02_And _ _ _ hx9) e189 rfl <| SCl [18] (c_r02_Zero _ _ hx10) e232 rfl <| Sc (lo [19] [] rfl fun S hs hr => op_not rfl rfl (vh hs 19 rfl rfl)) rfl <| Cn rfl (fun hc => ?_) (fun hc => ?_)
  · have h := cond_t hc h
    refine SR <| Ac (op_build (ps := []) (x := (⟨zWide, zWide⟩ : Tern)) rfl rfl rfl (by kernel_rfl) zr85 rfl) rfl <| Sto ty85 5 rfl <| Ab rfl <| Nl <| AW.ret ?_
    obtain rfl := si h
    exact ret2 Tryz.results209 rfl (out_cell rfl (i := 5) rfl ty85) (out_tmp rfl)
  · have h := cond_f hc h
    refine AW.skip <| AW.seq ?_
    obtain ⟨x11, hx11, h⟩ := bsome h
    obtain ⟨x12, hx12, h⟩ := bsome h
    refine AW.regionAny [⟨[2], [22], [3], []⟩, ⟨[22], [23], [], []⟩, ⟨[3], [24], [4], []⟩, ⟨[24], [25], [], []⟩, ⟨[2, 23], [], [3], [3]⟩, ⟨[3, 25], [], [4], [4]⟩] mixed (by kernel_rfl) <| SLd ty85 3 rfl <| SCl [22] (c_r05_Clean _ _ hx11) e144 rfl <| SLd ty85 4 rfl <| SCl [24] (c_r05_Clean _ _ hx12) e144 rfl <| SSt ty85 3 rfl <| SSt ty85 4 rfl <| AW.seq ?_
    obtain ⟨x13, hx13, h⟩ := bsome h
    obtain ⟨x14, hx14, h⟩ := bsome h
    refine AW.regionAny [⟨[2], [26], [], []⟩, ⟨[26], [27], [3], []⟩, ⟨[3], [28], [], []⟩, ⟨[28], [29], [4], []⟩, ⟨[27, 29], [30], [], []⟩, ⟨[2], [31], [], []⟩, ⟨[31], [32], [3], []⟩, ⟨[3], [33], [], []⟩, ⟨[33], [34], [4], []⟩, ⟨[32, 34], [35], [], []⟩, ⟨[30, 35], [36], [], []⟩, ⟨[4, 36], [], [5], [5]⟩, ⟨[], [5], [], []⟩] mixed (by kernel_rfl) <| SFd lTern_0 fl85_0 rfl <| SLd ty42 3 rfl <| SFd lTern_0 fl85_0 rfl <| SLd ty42 4 rfl <| SCl [27, 29] (c_r02_Or _ _ _ hx13) e187 rfl <| SFd lTern_1 fl85_1 rfl <| SLd ty42 3 rfl <| SFd lTern_1 fl85_1 rfl <| SLd ty42 4 rfl <| SCl [32, 34] (c_r02_Or _ _ _ hx14) e187 rfl <| Sc (lo [30, 35] [] rfl fun S hs hr => op_build (ps := [(0, .tmp 30), (1, .tmp 35)]) (x := (⟨x13, x14⟩ : Tern)) rfl rfl rfl (by kernel_rfl) zr85 ⟨_, _, lTern_0, _, by kernel_rfl, (vh hs 30 rfl rfl), _, _, lTern_1, _, by kernel_rfl, (vh hs 35 rfl rfl), rfl⟩) rfl <| SSt ty85 5 rfl <| Sc (lo [] [] rfl fun S hs hr => op_assign (A := rd kbool true) rfl rfl vb) rfl <| AW.ret ?_
    obtain rfl := si h
    exact ret2 Tryz.results209 rfl (out_cell rfl (i := 5) rfl ty85) (out_tmp rfl)
def F_r06_Meet_l1 (a1 : (Vector Tern 24)) (b2 : (Vector Tern 24)) : Nat → (Vector Tern 24) → Int → Option ((Vector Tern 24) × Bool)
  | 0, _, _ => none
  | m11 + 1, b9, f10 => (bif (decide (f10 < 24)) then (chk 24 f10).bind fun j12 => (chk 24 f10).bind fun j13 => (F_r05_Meet (Vector.get a1 j12) (Vector.get b2 j13)).bind fun x14 => (bif (!x14.2) then some ((Vector.replicate 24 zTern), false) else (chk 24 f10).bind fun j16 => (F_r06_Meet_l1 a1 b2 m11) (Vector.set b9 j16.1 x14.1 j16.2) (IntKind.i64.wrap (f10 + 1))) else some (b9, true))
def F_r06_Meet (a1 : (Vector Tern 24)) (b2 : (Vector Tern 24)) : Option ((Vector Tern 24) × Bool) :=
  F_r06_Meet_l1 a1 b2 (((24 : Int) - 0).toNat + 1) (Vector.replicate 24 zTern) 0
theorem c_r06_Meet (a1 : (Vector Tern 24)) (b2 : (Vector Tern 24)) (r : ((Vector Tern 24) × Bool)) (h : F_r06_Meet a1 b2 = some r) : PCon Tryz.prog 142 [rd (karr 24 kTern) a1, rd (karr 24 kTern) b2] (tup2 (rd (karr 24 kTern) r.1) (rd kbool r.2)) := by
  refine PCon.of (Con.intro0 Tryz.func142 rfl Tryz.ntmps142 rfl fun w H => ?_)
  unfold F_r06_Meet at h
  refine SR <| Ct rfl (op_box 3 rfl rfl (vt rfl)) ?_
  rintro _ ⟨g3, rfl⟩
  refine Ct rfl (op_box 4 rfl rfl (vt rfl)) ?_
  rintro _ ⟨g4, rfl⟩
  refine Ct rfl (op_alloc 5 rfl rfl zr87) ?_
  rintro _ ⟨g5, rfl⟩
  refine Ab rfl <| Nl <| SR <| Ac (op_build (ps := []) (x := (Vector.replicate 24 zTern)) rfl rfl rfl (by kernel_rfl) zr87 rfl) rfl <| Ct rfl (op_alloc 7 rfl rfl zr87) ?_
  rintro _ ⟨g6, rfl⟩
  refine Sto ty87 7 rfl <| Nl <| AW.seq <| SR <| Ak rfl <| Nl <| AW.block <| AW.loopG (d := []) (ν := Nat × (Vector Tern 24) × Int) (fun n => True ∧ F_r06_Meet_l1 a1 b2 n.1 n.2.1 n.2.2 = some r) (fun n => n.1) (fun n => [(2, ptrL g3 (Lens.id (karr 24 kTern))), (3, ptrL g4 (Lens.id (karr 24 kTern))), (4, ptrL g5 (Lens.id (karr 24 kTern))), (6, ptrL g6 (Lens.id (karr 24 kTern))), (7, rd (kint .i64) n.2.2)]) (fun n => [(3, Blk g3 87 (karr 24 kTern) a1), (4, Blk g4 87 (karr 24 kTern) b2), (5, Blk g5 87 (karr 24 kTern) (Vector.replicate 24 zTern)), (7, Blk g6 87 (karr 24 kTern) n.2.1)]) ((((24 : Int) - 0).toNat + 1), (Vector.replicate 24 zTern), 0) ⟨trivial, h⟩ ⟨rfl, ⟨rfl, rfl, rfl, rfl, rfl, trivial⟩, ⟨rfl, rfl, rfl, rfl, trivial⟩⟩ ?_
  rintro ⟨m11, b9, f10⟩ ⟨hsf1, h⟩
  change True at hsf1
  change F_r06_Meet_l1 a1 b2 m11 b9 f10 = some r at h
  change AW _ _ _ ⟨slots [(2, ptrL g3 (Lens.id (karr 24 kTern))), (3, ptrL g4 (Lens.id (karr 24 kTern))), (4, ptrL g5 (Lens.id (karr 24 kTern))), (6, ptrL g6 (Lens.id (karr 24 kTern))), (7, rd (kint .i64) f10)], ress [(3, Blk g3 87 (karr 24 kTern) a1), (4, Blk g4 87 (karr 24 kTern) b2), (5, Blk g5 87 (karr 24 kTern) (Vector.replicate 24 zTern)), (7, Blk g6 87 (karr 24 kTern) b9)], _⟩
  cases m11 with
  | zero => cases h
  | succ m11 =>
    unfold F_r06_Meet_l1 at h
    generalize hgo1 : F_r06_Meet_l1 a1 b2 m11 = go1 at h
    refine AW.seq <| SR <| Md rfl <| Ac (op_lss rfl rfl (vt rfl) (vk rfl)) rfl <| Nl <| Cn rfl (fun hc => ?_) (fun hc => ?_)
    · have h := cond_t hc h
      refine AW.skip <| AW.seq <| AW.block <| AW.seq ?_
      obtain ⟨j12, hj12, h⟩ := bsome h
      obtain ⟨j13, hj13, h⟩ := bsome h
      obtain ⟨x14, hx14, h⟩ := bsome h
      refine AW.regionAny [⟨[7], [16], [], []⟩, ⟨[2, 16], [17], [], []⟩, ⟨[17], [18], [3], []⟩, ⟨[7], [19], [], []⟩, ⟨[3, 19], [20], [], []⟩, ⟨[20], [21], [4], []⟩, ⟨[18, 21], [22], [], []⟩, ⟨[22], [15], [], []⟩, ⟨[15], [23], [], []⟩, ⟨[15], [24], [], []⟩, ⟨[], [8], [], []⟩, ⟨[8, 23], [8], [], []⟩, ⟨[24], [9], [], []⟩] mixed (by kernel_rfl) <| SMd rfl <| Sc (lo [2, 16] [] rfl fun S hs hr => op_index' rfl rfl ar87 (vh hs 2 rfl rfl) (vh hs 16 rfl rfl) hj12) rfl <| SLd ty85 3 rfl <| SMd rfl <| Sc (lo [3, 19] [] rfl fun S hs hr => op_index' rfl rfl ar87 (vh hs 3 rfl rfl) (vh hs 19 rfl rfl) hj13) rfl <| SLd ty85 4 rfl <| SCl [18, 21] (c_r05_Meet _ _ _ hx14) e209 rfl <| Sc (lo [22] [] rfl fun S hs hr => op_move (A := tup2 (rd kTern x14.1) (rd kbool x14.2)) rfl rfl (vh hs 22 rfl rfl)) rfl <| Sc (lo [15] [] rfl fun S hs hr => op_fst rfl rfl (vh hs 15 rfl rfl)) rfl <| Sc (lo [15] [] rfl fun S hs hr => op_snd rfl rfl (vh hs 15 rfl rfl)) rfl <| Sc (locs (us := [(8, ownP 85 kTern zTern)]) (ur := []) [] [] rfl fun S hs hr => op_allocO rfl rfl rfl zr85) rfl <| Sc (locs (us := [(8, ownP 85 kTern x14.1)]) (ur := []) [8, 23] [] rfl fun S hs hr => op_storeO rfl rfl ty85 ((hs 8 rfl).trans rfl) (vh hs 23 rfl rfl)) rfl <| SAs rfl <| AW.unpackP 8 9 rfl rfl fun g15 => AW.seq <| SR <| Md rfl <| Ac (op_not rfl rfl (vt rfl)) rfl <| Nl <| Cn rfl (fun hc => ?_) (fun hc => ?_)
      · have h := cond_t hc h
        refine SR <| Ac (op_build (ps := []) (x := (Vector.replicate 24 zTern)) rfl rfl rfl (by kernel_rfl) zr87 rfl) rfl <| Sto ty87 5 rfl <| Ab rfl <| Nl <| AW.ret ?_
        obtain rfl := si h
        exact ret2 Tryz.results142 rfl (out_cell rfl (i := 5) rfl ty87) (out_tmp rfl)
      · have h := cond_f hc h
        refine AW.skip ?_
        obtain ⟨j16, hj16, h⟩ := bsome h
        refine Rg <| Md rfl <| Ld ty85 9 rfl <| Ac (op_index' rfl rfl ar87 (vt rfl) (vt rfl) hj16) rfl <| Sto ty85 7 rfl <| Nl <| Rg <| Md rfl <| Ac (op_add rfl rfl (vt rfl) (vk rfl)) rfl <| As rfl <| Nl ?_
        subst hgo1
        exact ⟨(m11, (Vector.set b9 j16.1 x14.1 j16.2), (IntKind.i64.wrap (f10 + 1))), Nat.lt_succ_self _, ⟨trivial, h⟩, ⟨rfl, ⟨rfl, rfl, rfl, rfl, rfl, trivial⟩, ⟨rfl, rfl, rfl, rfl, trivial⟩⟩⟩
    · have h := cond_f hc h
      refine AW.exit <| SR <| Ld ty87 7 rfl <| Sto ty87 5 rfl <| Ab rfl <| Nl <| AW.ret ?_
      obtain rfl := si h
      exact ret2 Tryz.results142 rfl (out_cell rfl (i := 5) rfl ty87) (out_tmp rfl)
def F_r06_Pick_l1 (cu1 : (Vector Tern 24)) : Nat → (Vector Wide 24) → Int → Option (Vector Wide 24)
  | 0, _, _ => none
  | m9 + 1, b7, f8 => (bif (decide (f8 < 24)) then (chk 24 f8).bind fun j10 => (F_r05_Clean (Vector.get cu1 j10)).bind fun x11 => (chk 24 f8).bind fun j12 => (F_r06_Pick_l1 cu1 m9) (Vector.set b7 j12.1 x11.Value j12.2) (IntKind.i64.wrap (f8 + 1)) else some b7)
def F_r06_Pick (cu1 : (Vector Tern 24)) : Option (Vector Wide 24) :=
  F_r06_Pick_l1 cu1 (((24 : Int) - 0).toNat + 1) (Vector.replicate 24 zWide) 0
theorem c_r06_Pick (cu1 : (Vector Tern 24)) (r : (Vector Wide 24)) (h : F_r06_Pick cu1 = some r) : PCon Tryz.prog 282 [rd (karr 24 kTern) cu1] (rd (karr 24 kWide) r) := by
  refine PCon.of (Con.intro0 Tryz.func282 rfl Tryz.ntmps282 rfl fun w H => ?_)
  unfold F_r06_Pick at h
  refine SR <| Ct rfl (op_box 2 rfl rfl (vt rfl)) ?_
  rintro _ ⟨g2, rfl⟩
  refine Ct rfl (op_alloc 3 rfl rfl zr44) ?_
  rintro _ ⟨g3, rfl⟩
  refine Nl <| SR <| Ac (op_build (ps := []) (x := (Vector.replicate 24 zWide)) rfl rfl rfl (by kernel_rfl) zr44 rfl) rfl <| Ct rfl (op_alloc 4 rfl rfl zr44) ?_
  rintro _ ⟨g4, rfl⟩
  refine Sto ty44 4 rfl <| Nl <| AW.seq <| SR <| Ak rfl <| Nl <| AW.block <| AW.loopG (d := []) (ν := Nat × (Vector Wide 24) × Int) (fun n => True ∧ F_r06_Pick_l1 cu1 n.1 n.2.1 n.2.2 = some r) (fun n => n.1) (fun n => [(1, ptrL g2 (Lens.id (karr 24 kTern))), (2, ptrL g3 (Lens.id (karr 24 kWide))), (3, ptrL g4 (Lens.id (karr 24 kWide))), (4, rd (kint .i64) n.2.2)]) (fun n => [(2, Blk g2 87 (karr 24 kTern) cu1), (3, Blk g3 44 (karr 24 kWide) (Vector.replicate 24 zWide)), (4, Blk g4 44 (karr 24 kWide) n.2.1)]) ((((24 : Int) - 0).toNat + 1), (Vector.replicate 24 zWide), 0) ⟨trivial, h⟩ ⟨rfl, ⟨rfl, rfl, rfl, rfl, trivial⟩, ⟨rfl, rfl, rfl, trivial⟩⟩ ?_
  rintro ⟨m9, b7, f8⟩ ⟨hsf1, h⟩
  change True at hsf1
  change F_r06_Pick_l1 cu1 m9 b7 f8 = some r at h
  change AW _ _ _ ⟨slots [(1, ptrL g2 (Lens.id (karr 24 kTern))), (2, ptrL g3 (Lens.id (karr 24 kWide))), (3, ptrL g4 (Lens.id (karr 24 kWide))), (4, rd (kint .i64) f8)], ress [(2, Blk g2 87 (karr 24 kTern) cu1), (3, Blk g3 44 (karr 24 kWide) (Vector.replicate 24 zWide)), (4, Blk g4 44 (karr 24 kWide) b7)], _⟩
  cases m9 with
  | zero => cases h
  | succ m9 =>
    unfold F_r06_Pick_l1 at h
    generalize hgo1 : F_r06_Pick_l1 cu1 m9 = go1 at h
    refine AW.seq <| SR <| Md rfl <| Ac (op_lss rfl rfl (vt rfl) (vk rfl)) rfl <| Nl <| Cn rfl (fun hc => ?_) (fun hc => ?_)
    · have h := cond_t hc h
      refine AW.skip <| AW.seq <| AW.block ?_
      obtain ⟨j10, hj10, h⟩ := bsome h
      obtain ⟨x11, hx11, h⟩ := bsome h
      obtain ⟨j12, hj12, h⟩ := bsome h
      refine Rg <| Md rfl <| Md rfl <| Ac (op_index' rfl rfl ar87 (vt rfl) (vt rfl) hj10) rfl <| Ld ty85 2 rfl <| Cl [13] (c_r05_Clean _ _ hx11) e144 rfl <| Ac (op_fieldv lTern_0 rfl rfl fl85_0 ft85_0 ty42 rfl (vt rfl)) rfl <| Ac (op_index' rfl rfl ar44 (vt rfl) (vt rfl) hj12) rfl <| Sto ty42 4 rfl <| Nl <| Rg <| Md rfl <| Ac (op_add rfl rfl (vt rfl) (vk rfl)) rfl <| As rfl <| Nl ?_
      subst hgo1
      exact ⟨(m9, (Vector.set b7 j12.1 x11.Value j12.2), (IntKind.i64.wrap (f8 + 1))), Nat.lt_succ_self _, ⟨trivial, h⟩, ⟨rfl, ⟨rfl, rfl, rfl, rfl, trivial⟩, ⟨rfl, rfl, rfl, trivial⟩⟩⟩
    · have h := cond_f hc h
      refine AW.exit <| SR <| Ld ty44 4 rfl <| Sto ty44 3 rfl <| Nl <| AW.ret ?_
      obtain rfl := si h
      exact ret1 Tryz.results282 rfl (out_cell rfl (i := 3) rfl ty44)
def F_r06_Clean_l1 : Nat → (Vector Tern 24) → Int → Option (Vector Tern 24)
  | 0, _, _ => none
  | m8 + 1, b6, f7 => (bif (decide (f7 < 24)) then (chk 24 f7).bind fun j9 => (F_r05_Clean (Vector.get b6 j9)).bind fun x10 => (chk 24 f7).bind fun j11 => (F_r06_Clean_l1 m8) (Vector.set b6 j11.1 x10 j11.2) (IntKind.i64.wrap (f7 + 1)) else some b6)
def F_r06_Clean (cu1 : (Vector Tern 24)) : Option (Vector Tern 24) :=
  F_r06_Clean_l1 (((24 : Int) - 0).toNat + 1) cu1 0
theorem c_r06_Clean (cu1 : (Vector Tern 24)) (r : (Vector Tern 24)) (h : F_r06_Clean cu1 = some r) : PCon Tryz.prog 83 [rd (karr 24 kTern) cu1] (rd (karr 24 kTern) r) := by
  refine PCon.of (Con.intro0 Tryz.func83 rfl Tryz.ntmps83 rfl fun w H => ?_)
  unfold F_r06_Clean at h
  refine SR <| Ct rfl (op_box 2 rfl rfl (vt rfl)) ?_
  rintro _ ⟨g2, rfl⟩
  refine Ct rfl (op_alloc 3 rfl rfl zr87) ?_
  rintro _ ⟨g3, rfl⟩
  refine Nl <| AW.seq <| SR <| Ak rfl <| Nl <| AW.block <| AW.loopG (d := []) (ν := Nat × (Vector Tern 24) × Int) (fun n => True ∧ F_r06_Clean_l1 n.1 n.2.1 n.2.2 = some r) (fun n => n.1) (fun n => [(1, ptrL g2 (Lens.id (karr 24 kTern))), (2, ptrL g3 (Lens.id (karr 24 kTern))), (3, rd (kint .i64) n.2.2)]) (fun n => [(2, Blk g2 87 (karr 24 kTern) n.2.1), (3, Blk g3 87 (karr 24 kTern) (Vector.replicate 24 zTern))]) ((((24 : Int) - 0).toNat + 1), cu1, 0) ⟨trivial, h⟩ ⟨rfl, ⟨rfl, rfl, rfl, trivial⟩, ⟨rfl, rfl, trivial⟩⟩ ?_
  rintro ⟨m8, b6, f7⟩ ⟨hsf1, h⟩
  change True at hsf1
  change F_r06_Clean_l1 m8 b6 f7 = some r at h
  change AW _ _ _ ⟨slots [(1, ptrL g2 (Lens.id (karr 24 kTern))), (2, ptrL g3 (Lens.id (karr 24 kTern))), (3, rd (kint .i64) f7)], ress [(2, Blk g2 87 (karr 24 kTern) b6), (3, Blk g3 87 (karr 24 kTern) (Vector.replicate 24 zTern))], _⟩
  cases m8 with
  | zero => cases h
  | succ m8 =>
    unfold F_r06_Clean_l1 at h
    generalize hgo1 : F_r06_Clean_l1 m8 = go1 at h
    refine AW.seq <| SR <| Md rfl <| Ac (op_lss rfl rfl (vt rfl) (vk rfl)) rfl <| Nl <| Cn rfl (fun hc => ?_) (fun hc => ?_)
    · have h := cond_t hc h
      refine AW.skip <| AW.seq <| AW.block ?_
      obtain ⟨j9, hj9, h⟩ := bsome h
      obtain ⟨x10, hx10, h⟩ := bsome h
      obtain ⟨j11, hj11, h⟩ := bsome h
      refine Rg <| Md rfl <| Md rfl <| Ac (op_index' rfl rfl ar87 (vt rfl) (vt rfl) hj9) rfl <| Ld ty85 2 rfl <| Cl [11] (c_r05_Clean _ _ hx10) e144 rfl <| Ac (op_index' rfl rfl ar87 (vt rfl) (vt rfl) hj11) rfl <| Sto ty85 2 rfl <| Nl <| Rg <| Md rfl <| Ac (op_add rfl rfl (vt rfl) (vk rfl)) rfl <| As rfl <| Nl ?_
      subst hgo1
      exact ⟨(m8, (Vector.set b6 j11.1 x10 j11.2), (IntKind.i64.wrap (f7 + 1))), Nat.lt_succ_self _, ⟨trivial, h⟩, ⟨rfl, ⟨rfl, rfl, rfl, trivial⟩, ⟨rfl, rfl, trivial⟩⟩⟩
    · have h := cond_f hc h
      refine AW.exit <| SR <| Ld ty87 2 rfl <| Sto ty87 3 rfl <| Nl <| AW.ret ?_
      obtain rfl := si h
      exact ret1 Tryz.results83 rfl (out_cell rfl (i := 3) rfl ty87)
def F_r02_Has (a1 : Wide) (i2 : Int) : Option Bool :=
  (F_r02_Bit i2).bind fun x4 => (F_r02_And a1 x4).bind fun x5 => (F_r02_Zero x5).bind fun x6 => some (!x6)
theorem c_r02_Has (a1 : Wide) (i2 : Int) (r : Bool) (h : F_r02_Has a1 i2 = some r) : PCon Tryz.prog 323 [rd kWide a1, rd (kint .i64) i2] (rd kbool r) := by
  refine PCon.of (Con.intro0 Tryz.func323 rfl Tryz.ntmps323 rfl fun w H => ?_)
  unfold F_r02_Has at h
  refine SR <| Ct rfl (op_box 3 rfl rfl (vt rfl)) ?_
  rintro _ ⟨g3, rfl⟩
  refine Ab rfl <| Nl <| AW.seq ?_
  obtain ⟨x4, hx4, h⟩ := bsome h
  obtain ⟨x5, hx5, h⟩ := bsome h
  obtain ⟨x6, hx6, h⟩ := bsome h
  refine AW.regionAny [⟨[2], [5], [3], []⟩, ⟨[1], [6], [], []⟩, ⟨[6], [7], [], []⟩, ⟨[5, 7], [8], [], []⟩, ⟨[8], [9], [], []⟩, ⟨[9], [10], [], []⟩, ⟨[10], [4], [], []⟩] mixed (by kernel_rfl) <| SLd ty42 3 rfl <| SMd rfl <| SCl [6] (c_r02_Bit _ _ hx4) e309 rfl <| SCl [5, 7] (c_r02_And _ _ _ hx5) e189 rfl <| SCl [8] (c_r02_Zero _ _ hx6) e232 rfl <| Sc (lo [9] [] rfl fun S hs hr => op_not rfl rfl (vh hs 9 rfl rfl)) rfl <| SAs rfl <| AW.ret ?_
  obtain rfl := si h
  exact ret1 Tryz.results323 rfl (out_tmp rfl)
end Go.Proofs.YtknpgojdkobgjaaGreat.W
