/- A part of the proof. -/
import Derived.Test.YtknpgojdkobgjaaGreatG1
set_option linter.unusedVariables false
set_option maxRecDepth 4000
set_option linter.unusedSimpArgs false
namespace Go.Proofs.YtknpgojdkobgjaaGreat.W
open Go Go.Wb
theorem e99 : Ent Tryz.prog 99 := Ent.mk Tryz.func99 rfl rfl
theorem e98 : Ent Tryz.prog 98 := Ent.mk Tryz.func98 rfl rfl
theorem e40 : Ent Tryz.prog 40 := Ent.mk Tryz.func40 rfl rfl
theorem e74 : Ent Tryz.prog 74 := Ent.mk Tryz.func74 rfl rfl
theorem e342 : Ent Tryz.prog 342 := Ent.mk Tryz.func342 rfl rfl
theorem e334 : Ent Tryz.prog 334 := Ent.mk Tryz.func334 rfl rfl
def F_pl_Groups (l1 : (List Group)) (many2 : Int) (buckets3 : Int) : Option Bool :=
  (opt (decide ((l1.length : Int) ≤ many2)) (F_slices_ContainsFunc_Group l1 (fun x => F_pl_Groups_1 x buckets3))).bind fun x5 => some ((decide ((l1.length : Int) ≤ many2)) && (!x5))
theorem c_pl_Groups (l1 : (List Group)) (many2 : Int) (buckets3 : Int) (r : Bool) (h : F_pl_Groups l1 many2 buckets3 = some r) : PCon Tryz.prog 40 [rd (ksl kGroup) l1, rd (kint .i64) many2, rd (kint .i64) buckets3] (rd kbool r) := by
  refine PCon.of (Con.intro0 Tryz.func40 rfl Tryz.ntmps40 rfl fun w H => ?_)
  unfold F_pl_Groups at h
  refine SR <| Ct rfl (op_box 6 rfl rfl (vt rfl)) ?_
  rintro _ ⟨g4, rfl⟩
  refine Ab rfl <| Nl <| AW.seq <| AW.freezeB 5 6 rfl rfl rfl ?_
  obtain ⟨x5, hx5, h⟩ := bsome h
  refine Rg <| Md rfl <| Ac (op_len' rfl rfl sl24 (vt rfl)) rfl <| Md rfl <| Ac (op_leq rfl rfl (vt rfl) (vt rfl)) rfl <| Md rfl <| Gd rfl (fun hq => op_move (A := rd (ksl kGroup) l1) rfl rfl (vt rfl)) <| Gd rfl (fun hq => op_fn1 (cs := [.tmp 5]) (CAs := [rp (kint .i64) buckets3]) (fun x => F_pl_Groups_1 x buckets3) rfl rfl e99 ⟨vt rfl, trivial⟩ (fun x y h => c_pl_Groups_1 _ _ y h)) <| Gd rfl (fun hq => op_call (xs := [.tmp 12, .tmp 13]) (c_slices_ContainsFunc_Group _ _ _ (opt_t hx5 hq)) e98 rfl rfl ⟨vgt rfl hq, vgt rfl hq, trivial⟩) <| Gd rfl (fun hq => op_not rfl rfl (vgt rfl hq)) <| Ac (op_all rfl rfl (vt rfl) (vt rfl)) rfl <| As rfl <| Nl <| AW.ret ?_
  obtain rfl := si h
  exact ret1 Tryz.results40 rfl (out_tmp rfl)
def F_pl_Switch_l1 (s1 : Switch) (many2 : Int) : (List (List Flow)) → Nat → Option Bool
  | [], i4 => (F_pl_Groups s1.Groups 9 3).bind fun x6 => some x6
  | x7 :: l5, i4 => (F_pl_Flows x7 many2).bind fun x8 => (bif (!x8) then some false else (F_pl_Switch_l1 s1 many2 l5) (i4 + 1))
def F_pl_Switch (s1 : Switch) (many2 : Int) : Option Bool :=
  F_pl_Switch_l1 s1 many2 (Vector.toList s1.Tables) 0
theorem c_pl_Switch (s1 : Switch) (many2 : Int) (r : Bool) (h : F_pl_Switch s1 many2 = some r) : PCon Tryz.prog 21 [rd kSwitch s1, rd (kint .i64) many2] (rd kbool r) := by
  refine PCon.of (Con.intro0 Tryz.func21 rfl Tryz.ntmps21 rfl fun w H => ?_)
  unfold F_pl_Switch at h
  refine SR <| Ct rfl (op_box 3 rfl rfl (vt rfl)) ?_
  rintro _ ⟨g3, rfl⟩
  refine Ab rfl <| Nl <| AW.seq <| SR <| FdA lSwitch_0 fl26_0 rfl <| Ld ty23 3 rfl <| Mk rfl <| Nl <| AW.block <| AW.loopG (d := []) (ν := (List (List Flow)) × Nat) (fun n => Sfx (Vector.toList s1.Tables) n.2 n.1 ∧ F_pl_Switch_l1 s1 many2 n.1 n.2 = some r) (fun n => n.1.length) (fun n => [(1, rd (kint .i64) many2), (2, ptrL g3 (Lens.id kSwitch)), (8, rd (karr 4 (ksl kFlow)) s1.Tables), (9, rd (kint .i64) (n.2 : Int))]) (fun n => [(3, Blk g3 26 kSwitch s1)]) ((Vector.toList s1.Tables), 0) ⟨Sfx.start _, h⟩ ⟨rfl, ⟨rfl, rfl, rfl, rfl, trivial⟩, ⟨rfl, trivial⟩⟩ ?_
  rintro ⟨l5, i4⟩ ⟨hsf1, h⟩
  change Sfx (Vector.toList s1.Tables) i4 l5 at hsf1
  change F_pl_Switch_l1 s1 many2 l5 i4 = some r at h
  change AW _ _ _ ⟨slots [(1, rd (kint .i64) many2), (2, ptrL g3 (Lens.id kSwitch)), (8, rd (karr 4 (ksl kFlow)) s1.Tables), (9, rd (kint .i64) (i4 : Int))], ress [(3, Blk g3 26 kSwitch s1)], _⟩
  cases l5 with
  | nil =>
    unfold F_pl_Switch_l1 at h
    refine SR <| Ac (op_lss rfl rfl (vt rfl) (vk rfl)) rfl <| Nl <| AW.seq <| Cn rfl (fun hc => absurd (of_decide_eq_true hc) (hsf1.niln (by simp))) (fun hc => ?_)
    refine AW.exit <| AW.seq ?_
    obtain ⟨x6, hx6, h⟩ := bsome h
    refine Rg <| FdA lSwitch_1 fl26_1 rfl <| Ld ty24 3 rfl <| Ac (op_call (xs := [.tmp 18, .const (Value.int IntKind.i64 9), .const (Value.int IntKind.i64 3)]) (c_pl_Groups _ _ _ _ hx6) e40 rfl rfl ⟨vt rfl, vk rfl, vk rfl, trivial⟩) rfl <| As rfl <| Nl <| AW.ret ?_
    obtain rfl := si h
    exact ret1 Tryz.results21 rfl (out_tmp rfl)
  | cons x7 l5 =>
    unfold F_pl_Switch_l1 at h
    generalize hgo1 : F_pl_Switch_l1 s1 many2 l5 = go1 at h
    refine SR <| Ac (op_lss rfl rfl (vt rfl) (vk rfl)) rfl <| Nl <| AW.seq <| Cn rfl (fun hc => ?_) (fun hc => absurd (hsf1.consn (by simp)) (of_decide_eq_false hc))
    have hlti4 := of_decide_eq_true hc
    refine AW.skip <| AW.seq <| AW.block <| SR <| Ac (op_indexv rfl rfl ar23 ty22 (vt rfl) (vt rfl) hsf1.lget) rfl <| As rfl <| Nl <| AW.seq ?_
    obtain ⟨x8, hx8, h⟩ := bsome h
    refine Rg <| Md rfl <| Md rfl <| Cl [12, 13] (c_pl_Flows _ _ _ hx8) e74 rfl <| Ac (op_not rfl rfl (vt rfl)) rfl <| Nl <| Cn rfl (fun hc => ?_) (fun hc => ?_)
    · have h := cond_t hc h
      refine SR <| Ab rfl <| Nl <| AW.ret ?_
      obtain rfl := si h
      exact ret1 Tryz.results21 rfl (out_tmp rfl)
    · have h := cond_f hc h
      refine AW.skip <| Rg <| Ac (op_incrc rfl rfl (vt rfl) (vk rfl) rfl hlti4) rfl <| Md rfl <| Nl ?_
      subst hgo1
      exact ⟨(l5, i4 + 1), Nat.lt_succ_self _, ⟨hsf1.next, h⟩, ⟨rfl, ⟨rfl, rfl, rfl, rfl, trivial⟩, ⟨rfl, trivial⟩⟩⟩
def F_r06_All : Option (Vector Tern 24) :=
  some (Vector.replicate 24 zTern)
theorem c_r06_All (r : (Vector Tern 24)) (h : F_r06_All = some r) : PCon Tryz.prog 79 [] (rd (karr 24 kTern) r) := by
  refine PCon.of (Con.intro0 Tryz.func79 rfl Tryz.ntmps79 rfl fun w H => ?_)
  unfold F_r06_All at h
  refine SR <| Ct rfl (op_alloc 1 rfl rfl zr87) ?_
  rintro _ ⟨g1, rfl⟩
  refine Nl <| SR <| Ac (op_build (ps := []) (x := (Vector.replicate 24 zTern)) rfl rfl rfl (by kernel_rfl) zr87 rfl) rfl <| Sto ty87 1 rfl <| Nl <| AW.ret ?_
  obtain rfl := si h
  exact ret1 Tryz.results79 rfl (out_cell rfl (i := 1) rfl ty87)
def F_r09_None : Option (Vector Tern 24) :=
  some (Vector.replicate 24 zTern)
theorem c_r09_None (r : (Vector Tern 24)) (h : F_r09_None = some r) : PCon Tryz.prog 80 [] (rd (karr 24 kTern) r) := by
  refine PCon.of (Con.intro0 Tryz.func80 rfl Tryz.ntmps80 rfl fun w H => ?_)
  unfold F_r09_None at h
  refine SR <| Ct rfl (op_alloc 1 rfl rfl zr101) ?_
  rintro _ ⟨g1, rfl⟩
  refine Nl <| SR <| Ac (op_build (ps := []) (x := (Vector.replicate 24 zTern)) rfl rfl rfl (by kernel_rfl) zr101 rfl) rfl <| Sto ty101 1 rfl <| Nl <| AW.ret ?_
  obtain rfl := si h
  exact ret1 Tryz.results80 rfl (out_cell rfl (i := 1) rfl ty101)
def F_r27_Order_l3 (at11 : Int) (go1 : (List Int) → Int → Option (List Int)) (i8 : Int) : Nat → (List Int) → Int → Option (List Int)
  | 0, _, _ => none
  | m22 + 1, l20, j21 => (bif (decide (j21 > at11)) then (lget l20 (IntKind.i64.wrap (j21 - 1))).bind fun e23 => (lget l20 j21).bind fun e24 => (F_r27_Order_l3 at11 go1 i8 m22) (List.set l20 j21.toNat e23) (IntKind.i64.wrap (j21 - 1)) else (lget l20 at11).bind fun e25 => go1 (List.set l20 at11.toNat i8) (IntKind.i64.wrap (i8 + 1)))
def F_r27_Order_l2 (l6 : (List Int)) (t1 : (List Flow)) (i8 : Int) (go1 : (List Int) → Int → Option (List Int)) : Nat → Int → Option (List Int)
  | 0, _ => none
  | m12 + 1, at11 => (opt (decide (at11 > 0)) (lget l6 (IntKind.i64.wrap (at11 - 1)))).bind fun e13 => (opt (decide (at11 > 0)) (lget t1 e13)).bind fun e14 => (opt (decide (at11 > 0)) (lget t1 i8)).bind fun e15 => (bif ((decide (at11 > 0)) && (decide (e14.Priority < e15.Priority))) then (F_r27_Order_l2 l6 t1 i8 go1 m12) (IntKind.i64.wrap (at11 - 1)) else (appd l6 [0]).bind fun l16 => F_r27_Order_l3 at11 go1 i8 ((((IntKind.i64.wrap ((l16.length : Int) - 1)) : Int) - at11).toNat + 1) l16 (IntKind.i64.wrap ((l16.length : Int) - 1)))
def F_r27_Order_l1 (t1 : (List Flow)) : Nat → (List Int) → Int → Option (List Int)
  | 0, _, _ => none
  | m9 + 1, l6, i8 => (bif (decide (i8 < (t1.length : Int))) then F_r27_Order_l2 l6 t1 i8 (F_r27_Order_l1 t1 m9) fuel0 (l6.length : Int) else some l6)
def F_r27_Order (t1 : (List Flow)) : Option (List Int) :=
  F_r27_Order_l1 t1 ((((t1.length : Int) : Int) - 0).toNat + 1) [] 0
theorem c_r27_Order (t1 : (List Flow)) (r : (List Int)) (h : F_r27_Order t1 = some r) : PCon Tryz.prog 139 [rd (ksl kFlow) t1] (rd (ksl (kint .i64)) r) := by
  refine PCon.of (Con.intro0 Tryz.func139 rfl Tryz.ntmps139 rfl fun w H => ?_)
  unfold F_r27_Order at h
  refine SR <| Ac (op_assign (A := rd (ksl (kint .i64)) []) rfl rfl vnil) rfl <| Nl <| SR <| Ct rfl (op_buildSlice 1001 (ps := []) (l := []) rfl rfl sl37 zr3 rfl rfl rfl rfl) ?_
  rintro _ ⟨v2, rfl⟩
  refine Aw rfl <| Nl <| AW.seq <| SR <| Ak rfl <| Nl <| AW.block <| AW.loopG (d := []) (ν := Nat × (List Int) × Int × Value) (fun n => True ∧ F_r27_Order_l1 t1 n.1 n.2.1 n.2.2.1 = some r) (fun n => n.1) (fun n => [(0, rd (ksl kFlow) t1), (3, raw n.2.2.2), (4, rd (kint .i64) n.2.2.1)]) (fun n => [(1001, Row n.2.2.2 3 (kint .i64) n.2.1)]) (((((t1.length : Int) : Int) - 0).toNat + 1), [], 0, v2) ⟨trivial, h⟩ ⟨rfl, ⟨rfl, rfl, rfl, trivial⟩, ⟨rfl, trivial⟩⟩ ?_
  rintro ⟨m9, l6, i8, v7⟩ ⟨hsf1, h⟩
  change True at hsf1
  change F_r27_Order_l1 t1 m9 l6 i8 = some r at h
  change AW _ _ _ ⟨slots [(0, rd (ksl kFlow) t1), (3, raw v7), (4, rd (kint .i64) i8)], ress [(1001, Row v7 3 (kint .i64) l6)], _⟩
  cases m9 with
  | zero => cases h
  | succ m9 =>
    unfold F_r27_Order_l1 at h
    generalize hgo1 : F_r27_Order_l1 t1 m9 = go1 at h
    refine AW.seq <| SR <| Md rfl <| Md rfl <| Ac (op_len' rfl rfl sl22 (vt rfl)) rfl <| Ac (op_lss rfl rfl (vt rfl) (vt rfl)) rfl <| Nl <| Cn rfl (fun hc => ?_) (fun hc => ?_)
    · have h := cond_t hc h
      refine AW.skip <| AW.seq <| AW.block <| SR <| Mw rfl <| Ac (op_leno 1001 rfl rfl sl37 (vt rfl) rfl) rfl <| As rfl <| Nl <| AW.seq <| AW.block <| AW.loopG (d := []) (ν := Nat × Int) (fun n => True ∧ F_r27_Order_l2 l6 t1 i8 go1 n.1 n.2 = some r) (fun n => n.1) (fun n => [(0, rd (ksl kFlow) t1), (3, raw v7), (4, rd (kint .i64) i8), (5, rd (kint .i64) n.2)]) (fun n => [(1001, Row v7 3 (kint .i64) l6)]) (fuel0, (l6.length : Int)) ⟨trivial, h⟩ ⟨rfl, ⟨rfl, rfl, rfl, rfl, trivial⟩, ⟨rfl, trivial⟩⟩ ?_
      rintro ⟨m12, at11⟩ ⟨hsf2, h⟩
      change True at hsf2
      change F_r27_Order_l2 l6 t1 i8 go1 m12 at11 = some r at h
      change AW _ _ _ ⟨slots [(0, rd (ksl kFlow) t1), (3, raw v7), (4, rd (kint .i64) i8), (5, rd (kint .i64) at11)], ress [(1001, Row v7 3 (kint .i64) l6)], _⟩
      cases m12 with
      | zero => cases h
      | succ m12 =>
        unfold F_r27_Order_l2 at h
        generalize hgo2 : F_r27_Order_l2 l6 t1 i8 go1 m12 = go2 at h
        refine AW.seq <| AW.seq ?_
        obtain ⟨e13, he13, h⟩ := bsome h
        obtain ⟨e14, he14, h⟩ := bsome h
        obtain ⟨e15, he15, h⟩ := bsome h
        refine AW.regionAny [⟨[5], [16], [], []⟩, ⟨[16], [17], [], []⟩, ⟨[17], [18], [], []⟩, ⟨[0, 18], [19], [], []⟩, ⟨[3, 18], [20], [], []⟩, ⟨[5, 18], [21], [], []⟩, ⟨[21, 18], [22], [], []⟩, ⟨[20, 22, 18], [23], [1001], []⟩, ⟨[23, 18], [24], [1001], []⟩, ⟨[19, 24, 18], [25], [], []⟩, ⟨[25, 18], [26], [], []⟩, ⟨[26, 18], [27], [], []⟩, ⟨[0, 18], [28], [], []⟩, ⟨[4, 18], [29], [], []⟩, ⟨[28, 29, 18], [30], [], []⟩, ⟨[30, 18], [31], [], []⟩, ⟨[31, 18], [32], [], []⟩, ⟨[27, 32, 18], [33], [], []⟩, ⟨[33, 18], [34], [], []⟩] mixed (by kernel_rfl) <| SMd rfl <| Sc (lo [16] [] rfl fun S hs hr => op_gtr rfl rfl (vh hs 16 rfl rfl) (vk rfl)) rfl <| SMd rfl <| Sc (lg [0, 18] [] rfl fun hq S hs hr => op_move (A := rd (ksl kFlow) t1) rfl rfl (vh hs 0 rfl rfl)) rfl <| Sc (lg [3, 18] [] rfl fun hq S hs hr => op_move (A := raw v7) rfl rfl (vh hs 3 rfl rfl)) rfl <| Sc (lg [5, 18] [] rfl fun hq S hs hr => op_move (A := rd (kint .i64) at11) rfl rfl (vh hs 5 rfl rfl)) rfl <| Sc (lg [21, 18] [] rfl fun hq S hs hr => op_sub rfl rfl (vgt ((hs 21 rfl).trans rfl) hq) (vk rfl)) rfl <| Sc (lg [20, 22, 18] [1001] rfl fun hq S hs hr => op_indexo' 1001 rfl rfl sl37 (vgt ((hs 20 rfl).trans rfl) hq) ((hr 1001 rfl).trans rfl) (vgt ((hs 22 rfl).trans rfl) hq) (opt_t he13 hq)) rfl <| Sc (lg [23, 18] [1001] rfl fun hq S hs hr => op_loado' 1001 rfl rfl ty3 (vgt ((hs 23 rfl).trans rfl) hq) ((hr 1001 rfl).trans rfl) (lget_of (opt_t he13 hq)).2) rfl <| Sc (lg [19, 24, 18] [] rfl fun hq S hs hr => op_indexs' rfl rfl sl22 (vgt ((hs 19 rfl).trans rfl) hq) (vgt ((hs 24 rfl).trans rfl) hq) (opt_t he14 hq)) rfl <| Sc (lg [25, 18] [] rfl fun hq S hs hr => op_fieldp lFlow_1 rfl rfl fl61_1 (vgt ((hs 25 rfl).trans rfl) hq)) rfl <| Sc (lg [26, 18] [] rfl fun hq S hs hr => op_loadp rfl rfl ty3 (vgt ((hs 26 rfl).trans rfl) hq)) rfl <| Sc (lg [0, 18] [] rfl fun hq S hs hr => op_move (A := rd (ksl kFlow) t1) rfl rfl (vh hs 0 rfl rfl)) rfl <| Sc (lg [4, 18] [] rfl fun hq S hs hr => op_move (A := rd (kint .i64) i8) rfl rfl (vh hs 4 rfl rfl)) rfl <| Sc (lg [28, 29, 18] [] rfl fun hq S hs hr => op_indexs' rfl rfl sl22 (vgt ((hs 28 rfl).trans rfl) hq) (vgt ((hs 29 rfl).trans rfl) hq) (opt_t he15 hq)) rfl <| Sc (lg [30, 18] [] rfl fun hq S hs hr => op_fieldp lFlow_1 rfl rfl fl61_1 (vgt ((hs 30 rfl).trans rfl) hq)) rfl <| Sc (lg [31, 18] [] rfl fun hq S hs hr => op_loadp rfl rfl ty3 (vgt ((hs 31 rfl).trans rfl) hq)) rfl <| Sc (lg [27, 32, 18] [] rfl fun hq S hs hr => op_lss rfl rfl (vgt ((hs 27 rfl).trans rfl) hq) (vgt ((hs 32 rfl).trans rfl) hq)) rfl <| Sc (lo [33, 18] [] rfl fun S hs hr => op_all rfl rfl (vh hs 18 rfl rfl) (vh hs 33 rfl rfl)) rfl <| Cn rfl (fun hc => ?_) (fun hc => ?_)
        · have h := cond_t hc h
          refine AW.skip <| AW.block <| Rg <| Md rfl <| Ac (op_sub rfl rfl (vt rfl) (vk rfl)) rfl <| As rfl <| Nl ?_
          subst hgo2
          exact ⟨(m12, (IntKind.i64.wrap (at11 - 1))), Nat.lt_succ_self _, ⟨trivial, h⟩, ⟨rfl, ⟨rfl, rfl, rfl, rfl, trivial⟩, ⟨rfl, trivial⟩⟩⟩
        · have h := cond_f hc h
          refine AW.exit <| AW.seq ?_
          obtain ⟨l16, hl16, h⟩ := bsome h
          refine Rg <| Mw rfl <| Ac (op_buildSliceR (ps := [(0, .const (Value.int IntKind.i64 0))]) (l := [0]) rfl rfl sl37 zr3 rfl rfl ⟨_, _, Lens.idx 1 (kint .i64) 0 (by decide), _, rfl, (vk rfl), rfl⟩ rfl) rfl <| Ct rfl (op_append' 1001 hl16 rfl rfl el37 (vt rfl) rfl (vt rfl)) ?_
          rintro _ ⟨v17, rfl⟩
          refine Aw rfl <| Nl <| AW.seq <| SR <| Mw rfl <| Ac (op_leno 1001 rfl rfl sl37 (vt rfl) rfl) rfl <| Ac (op_sub rfl rfl (vt rfl) (vk rfl)) rfl <| As rfl <| Nl <| AW.block <| AW.loopG (d := []) (ν := Nat × (List Int) × Int) (fun n => True ∧ F_r27_Order_l3 at11 go1 i8 n.1 n.2.1 n.2.2 = some r) (fun n => n.1) (fun n => [(0, rd (ksl kFlow) t1), (3, raw v17), (4, rd (kint .i64) i8), (5, rd (kint .i64) at11), (6, rd (kint .i64) n.2.2)]) (fun n => [(1001, Row v17 3 (kint .i64) n.2.1)]) (((((IntKind.i64.wrap ((l16.length : Int) - 1)) : Int) - at11).toNat + 1), l16, (IntKind.i64.wrap ((l16.length : Int) - 1))) ⟨trivial, h⟩ ⟨rfl, ⟨rfl, rfl, rfl, rfl, rfl, trivial⟩, ⟨rfl, trivial⟩⟩ ?_
          rintro ⟨m22, l20, j21⟩ ⟨hsf3, h⟩
          change True at hsf3
          change F_r27_Order_l3 at11 go1 i8 m22 l20 j21 = some r at h
          change AW _ _ _ ⟨slots [(0, rd (ksl kFlow) t1), (3, raw v17), (4, rd (kint .i64) i8), (5, rd (kint .i64) at11), (6, rd (kint .i64) j21)], ress [(1001, Row v17 3 (kint .i64) l20)], _⟩
          cases m22 with
          | zero => cases h
          | succ m22 =>
            unfold F_r27_Order_l3 at h
            generalize hgo3 : F_r27_Order_l3 at11 go1 i8 m22 = go3 at h
            refine AW.seq <| SR <| Md rfl <| Md rfl <| Ac (op_gtr rfl rfl (vt rfl) (vt rfl)) rfl <| Nl <| Cn rfl (fun hc => ?_) (fun hc => ?_)
            · have h := cond_t hc h
              refine AW.skip <| AW.seq <| AW.block ?_
              obtain ⟨e23, he23, h⟩ := bsome h
              obtain ⟨e24, he24, h⟩ := bsome h
              refine Rg <| Mw rfl <| Md rfl <| Mw rfl <| Md rfl <| Ac (op_sub rfl rfl (vt rfl) (vk rfl)) rfl <| Ac (op_indexo' 1001 rfl rfl sl37 (vt rfl) rfl (vt rfl) he23) rfl <| Ac (op_loado' 1001 rfl rfl ty3 (vt rfl) rfl (lget_of he23).2) rfl <| Ac (op_indexo' 1001 rfl rfl sl37 (vt rfl) rfl (vt rfl) he24) rfl <| Ac (op_storeo' 1001 rfl rfl ty3 (vt rfl) rfl (lget_of he24).2 (vt rfl)) rfl <| Nl <| Rg <| Md rfl <| Ac (op_sub rfl rfl (vt rfl) (vk rfl)) rfl <| As rfl <| Nl ?_
              subst hgo3
              exact ⟨(m22, (List.set l20 j21.toNat e23), (IntKind.i64.wrap (j21 - 1))), Nat.lt_succ_self _, ⟨trivial, h⟩, ⟨rfl, ⟨rfl, rfl, rfl, rfl, rfl, trivial⟩, ⟨rfl, trivial⟩⟩⟩
            · have h := cond_f hc h
              refine AW.exit ?_
              obtain ⟨e25, he25, h⟩ := bsome h
              refine Rg <| Mw rfl <| Md rfl <| Md rfl <| Ac (op_indexo' 1001 rfl rfl sl37 (vt rfl) rfl (vt rfl) he25) rfl <| Ac (op_storeo' 1001 rfl rfl ty3 (vt rfl) rfl (lget_of he25).2 (vt rfl)) rfl <| Nl <| Rg <| Md rfl <| Ac (op_add rfl rfl (vt rfl) (vk rfl)) rfl <| As rfl <| Nl ?_
              subst hgo1
              exact ⟨(m9, (List.set l20 at11.toNat i8), (IntKind.i64.wrap (i8 + 1)), v17), Nat.lt_succ_self _, ⟨trivial, h⟩, ⟨rfl, ⟨rfl, rfl, rfl, trivial⟩, ⟨rfl, trivial⟩⟩⟩
    · have h := cond_f hc h
      refine AW.exit <| SR <| Mw rfl <| Aw rfl <| Nl <| AW.freezes [2, 3, 60] 1001 rfl ⟨rfl, rfl, rfl, trivial⟩ rfl <| AW.ret ?_
      obtain rfl := si h
      exact ret1 Tryz.results139 rfl (out_tmp rfl)
def F_r03_Right (f1 : Int) : Option Bool :=
  some ((decide (f1 ≥ 0)) && (decide (f1 < 24)))
theorem c_r03_Right (f1 : Int) (r : Bool) (h : F_r03_Right f1 = some r) : PCon Tryz.prog 225 [rd (kint .i64) f1] (rd kbool r) := by
  refine PCon.of (Con.intro0 Tryz.func225 rfl Tryz.ntmps225 rfl fun w H => ?_)
  unfold F_r03_Right at h
  refine SR <| Ab rfl <| Nl <| SR <| Md rfl <| Ac (op_geq rfl rfl (vt rfl) (vk rfl)) rfl <| Md rfl <| Gd rfl (fun hq => op_move (A := rd (kint .i64) f1) rfl rfl (vt rfl)) <| Gd rfl (fun hq => op_lss rfl rfl (vgt rfl hq) (vk rfl)) <| Ac (op_all rfl rfl (vt rfl) (vt rfl)) rfl <| As rfl <| Nl <| AW.ret ?_
  obtain rfl := si h
  exact ret1 Tryz.results225 rfl (out_tmp rfl)
def F_r03_upper (f1 : Int) : Option (ByteArray × Int × Int × Bool) :=
  (bif (decide (f1 = 12)) then some ({ data := #[116, 99, 112, 95, 115, 114, 99] }, 13, 16, false) else (bif (decide (f1 = 13)) then some ({ data := #[116, 99, 112, 95, 100, 115, 116] }, 14, 16, false) else (bif (decide (f1 = 14)) then some ({ data := #[117, 100, 112, 95, 115, 114, 99] }, 15, 16, false) else (bif (decide (f1 = 15)) then some ({ data := #[117, 100, 112, 95, 100, 115, 116] }, 16, 16, false) else (bif (decide (f1 = 16)) then some ({ data := #[105, 99, 109, 112, 118, 52, 95, 116, 121, 112, 101] }, 19, 8, false) else (bif (decide (f1 = 17)) then some ({ data := #[105, 99, 109, 112, 118, 52, 95, 99, 111, 100, 101] }, 20, 8, false) else (bif (decide (f1 = 18)) then some ({ data := #[97, 114, 112, 95, 111, 112] }, 21, 16, false) else (bif (decide (f1 = 19)) then some ({ data := #[97, 114, 112, 95, 115, 112, 97] }, 22, 32, true) else (bif (decide (f1 = 20)) then some ({ data := #[97, 114, 112, 95, 116, 112, 97] }, 23, 32, true) else (bif (decide (f1 = 21)) then some ({ data := #[105, 112, 118, 54, 95, 115, 114, 99] }, 26, 128, true) else (bif (decide (f1 = 22)) then some ({ data := #[105, 112, 118, 54, 95, 100, 115, 116] }, 27, 128, true) else (bif (decide (f1 = 23)) then some ({ data := #[109, 112, 108, 115, 95, 108, 97, 98, 101, 108] }, 34, 20, false) else some ({ data := #[] }, (-1), 0, false)))))))))))))
theorem c_r03_upper (f1 : Int) (r : (ByteArray × Int × Int × Bool)) (h : F_r03_upper f1 = some r) : PCon Tryz.prog 342 [rd (kint .i64) f1] (tup4 (rd kstr r.1) (rd (kint .i64) r.2.1) (rd (kint .i64) r.2.2.1) (rd kbool r.2.2.2)) := by
  refine PCon.of (Con.intro0 Tryz.func342 rfl Tryz.ntmps342 rfl fun w H => ?_)
  unfold F_r03_upper at h
  refine SR <| Ac (op_assign (A := rd kstr { data := #[] }) rfl rfl (vs (by decide))) rfl <| Ak rfl <| Ak rfl <| Ab rfl <| Nl <| AW.seq <| SR <| Md rfl <| Nl <| AW.block <| SR <| Ac (op_eql rfl rfl (vt rfl) (vk rfl)) rfl <| As rfl <| Nl <| Cn rfl (fun hc => ?_) (fun hc => ?_)
  · have h := cond_t hc h
    refine SR <| Ac (op_assign (A := rd kstr { data := #[116, 99, 112, 95, 115, 114, 99] }) rfl rfl (vs (by decide))) rfl <| Ak rfl <| Ak rfl <| Ab rfl <| Nl <| AW.ret ?_
    obtain rfl := si h
    exact ret4 Tryz.results342 rfl (out_tmp rfl) (out_tmp rfl) (out_tmp rfl) (out_tmp rfl)
  · have h := cond_f hc h
    refine SR <| Ac (op_eql rfl rfl (vt rfl) (vk rfl)) rfl <| As rfl <| Nl <| Cn rfl (fun hc => ?_) (fun hc => ?_)
    · have h := cond_t hc h
      refine SR <| Ac (op_assign (A := rd kstr { data := #[116, 99, 112, 95, 100, 115, 116] }) rfl rfl (vs (by decide))) rfl <| Ak rfl <| Ak rfl <| Ab rfl <| Nl <| AW.ret ?_
      obtain rfl := si h
      exact ret4 Tryz.results342 rfl (out_tmp rfl) (out_tmp rfl) (out_tmp rfl) (out_tmp rfl)
    · have h := cond_f hc h
      refine SR <| Ac (op_eql rfl rfl (vt rfl) (vk rfl)) rfl <| As rfl <| Nl <| Cn rfl (fun hc => ?_) (fun hc => ?_)
      · have h := cond_t hc h
        refine SR <| Ac (op_assign (A := rd kstr { data := #[117, 100, 112, 95, 115, 114, 99] }) rfl rfl (vs (by decide))) rfl <| Ak rfl <| Ak rfl <| Ab rfl <| Nl <| AW.ret ?_
        obtain rfl := si h
        exact ret4 Tryz.results342 rfl (out_tmp rfl) (out_tmp rfl) (out_tmp rfl) (out_tmp rfl)
      · have h := cond_f hc h
        refine SR <| Ac (op_eql rfl rfl (vt rfl) (vk rfl)) rfl <| As rfl <| Nl <| Cn rfl (fun hc => ?_) (fun hc => ?_)
        · have h := cond_t hc h
          refine SR <| Ac (op_assign (A := rd kstr { data := #[117, 100, 112, 95, 100, 115, 116] }) rfl rfl (vs (by decide))) rfl <| Ak rfl <| Ak rfl <| Ab rfl <| Nl <| AW.ret ?_
          obtain rfl := si h
          exact ret4 Tryz.results342 rfl (out_tmp rfl) (out_tmp rfl) (out_tmp rfl) (out_tmp rfl)
        · have h := cond_f hc h
          refine SR <| Ac (op_eql rfl rfl (vt rfl) (vk rfl)) rfl <| As rfl <| Nl <| Cn rfl (fun hc => ?_) (fun hc => ?_)
          · have h := cond_t hc h
            refine SR <| Ac (op_assign (A := rd kstr { data := #[105, 99, 109, 112, 118, 52, 95, 116, 121, 112, 101] }) rfl rfl (vs (by decide))) rfl <| Ak rfl <| Ak rfl <| Ab rfl <| Nl <| AW.ret ?_
            obtain rfl := si h
            exact ret4 Tryz.results342 rfl (out_tmp rfl) (out_tmp rfl) (out_tmp rfl) (out_tmp rfl)
          · have h := cond_f hc h
            refine SR <| Ac (op_eql rfl rfl (vt rfl) (vk rfl)) rfl <| As rfl <| Nl <| Cn rfl (fun hc => ?_) (fun hc => ?_)
            · have h := cond_t hc h
              refine SR <| Ac (op_assign (A := rd kstr { data := #[105, 99, 109, 112, 118, 52, 95, 99, 111, 100, 101] }) rfl rfl (vs (by decide))) rfl <| Ak rfl <| Ak rfl <| Ab rfl <| Nl <| AW.ret ?_
              obtain rfl := si h
              exact ret4 Tryz.results342 rfl (out_tmp rfl) (out_tmp rfl) (out_tmp rfl) (out_tmp rfl)
            · have h := cond_f hc h
              refine SR <| Ac (op_eql rfl rfl (vt rfl) (vk rfl)) rfl <| As rfl <| Nl <| Cn rfl (fun hc => ?_) (fun hc => ?_)
              · have h := cond_t hc h
                refine SR <| Ac (op_assign (A := rd kstr { data := #[97, 114, 112, 95, 111, 112] }) rfl rfl (vs (by decide))) rfl <| Ak rfl <| Ak rfl <| Ab rfl <| Nl <| AW.ret ?_
                obtain rfl := si h
                exact ret4 Tryz.results342 rfl (out_tmp rfl) (out_tmp rfl) (out_tmp rfl) (out_tmp rfl)
              · have h := cond_f hc h
                refine SR <| Ac (op_eql rfl rfl (vt rfl) (vk rfl)) rfl <| As rfl <| Nl <| Cn rfl (fun hc => ?_) (fun hc => ?_)
                · have h := cond_t hc h
                  refine SR <| Ac (op_assign (A := rd kstr { data := #[97, 114, 112, 95, 115, 112, 97] }) rfl rfl (vs (by decide))) rfl <| Ak rfl <| Ak rfl <| Ab rfl <| Nl <| AW.ret ?_
                  obtain rfl := si h
                  exact ret4 Tryz.results342 rfl (out_tmp rfl) (out_tmp rfl) (out_tmp rfl) (out_tmp rfl)
                · have h := cond_f hc h
                  refine SR <| Ac (op_eql rfl rfl (vt rfl) (vk rfl)) rfl <| As rfl <| Nl <| Cn rfl (fun hc => ?_) (fun hc => ?_)
                  · have h := cond_t hc h
                    refine SR <| Ac (op_assign (A := rd kstr { data := #[97, 114, 112, 95, 116, 112, 97] }) rfl rfl (vs (by decide))) rfl <| Ak rfl <| Ak rfl <| Ab rfl <| Nl <| AW.ret ?_
                    obtain rfl := si h
                    exact ret4 Tryz.results342 rfl (out_tmp rfl) (out_tmp rfl) (out_tmp rfl) (out_tmp rfl)
                  · have h := cond_f hc h
                    refine SR <| Ac (op_eql rfl rfl (vt rfl) (vk rfl)) rfl <| As rfl <| Nl <| Cn rfl (fun hc => ?_) (fun hc => ?_)
                    · have h := cond_t hc h
                      refine SR <| Ac (op_assign (A := rd kstr { data := #[105, 112, 118, 54, 95, 115, 114, 99] }) rfl rfl (vs (by decide))) rfl <| Ak rfl <| Ak rfl <| Ab rfl <| Nl <| AW.ret ?_
                      obtain rfl := si h
                      exact ret4 Tryz.results342 rfl (out_tmp rfl) (out_tmp rfl) (out_tmp rfl) (out_tmp rfl)
                    · have h := cond_f hc h
                      refine SR <| Ac (op_eql rfl rfl (vt rfl) (vk rfl)) rfl <| As rfl <| Nl <| Cn rfl (fun hc => ?_) (fun hc => ?_)
                      · have h := cond_t hc h
                        refine SR <| Ac (op_assign (A := rd kstr { data := #[105, 112, 118, 54, 95, 100, 115, 116] }) rfl rfl (vs (by decide))) rfl <| Ak rfl <| Ak rfl <| Ab rfl <| Nl <| AW.ret ?_
                        obtain rfl := si h
                        exact ret4 Tryz.results342 rfl (out_tmp rfl) (out_tmp rfl) (out_tmp rfl) (out_tmp rfl)
                      · have h := cond_f hc h
                        refine SR <| Ac (op_eql rfl rfl (vt rfl) (vk rfl)) rfl <| As rfl <| Nl <| Cn rfl (fun hc => ?_) (fun hc => ?_)
                        · have h := cond_t hc h
                          refine SR <| Ac (op_assign (A := rd kstr { data := #[109, 112, 108, 115, 95, 108, 97, 98, 101, 108] }) rfl rfl (vs (by decide))) rfl <| Ak rfl <| Ak rfl <| Ab rfl <| Nl <| AW.ret ?_
                          obtain rfl := si h
                          exact ret4 Tryz.results342 rfl (out_tmp rfl) (out_tmp rfl) (out_tmp rfl) (out_tmp rfl)
                        · have h := cond_f hc h
                          refine AW.skip <| SR <| Ac (op_assign (A := rd kstr { data := #[] }) rfl rfl (vs (by decide))) rfl <| Ak rfl <| Ak rfl <| Ab rfl <| Nl <| AW.ret ?_
                          obtain rfl := si h
                          exact ret4 Tryz.results342 rfl (out_tmp rfl) (out_tmp rfl) (out_tmp rfl) (out_tmp rfl)
def F_r03_row (f1 : Int) : Option (ByteArray × Int × Int × Bool) :=
  (bif (decide (f1 = 0)) then some ({ data := #[105, 110, 95, 112, 111, 114, 116] }, 0, 32, false) else (bif (decide (f1 = 1)) then some ({ data := #[109, 101, 116, 97, 100, 97, 116, 97] }, 2, 64, true) else (bif (decide (f1 = 2)) then some ({ data := #[101, 116, 104, 95, 100, 115, 116] }, 3, 48, true) else (bif (decide (f1 = 3)) then some ({ data := #[101, 116, 104, 95, 115, 114, 99] }, 4, 48, true) else (bif (decide (f1 = 4)) then some ({ data := #[101, 116, 104, 95, 116, 121, 112, 101] }, 5, 16, false) else (bif (decide (f1 = 5)) then some ({ data := #[118, 108, 97, 110, 95, 118, 105, 100] }, 6, 13, true) else (bif (decide (f1 = 6)) then some ({ data := #[118, 108, 97, 110, 95, 112, 99, 112] }, 7, 3, false) else (bif (decide (f1 = 7)) then some ({ data := #[105, 112, 95, 100, 115, 99, 112] }, 8, 6, false) else (bif (decide (f1 = 8)) then some ({ data := #[105, 112, 95, 101, 99, 110] }, 9, 2, false) else (bif (decide (f1 = 9)) then some ({ data := #[105, 112, 95, 112, 114, 111, 116, 111] }, 10, 8, false) else (bif (decide (f1 = 10)) then some ({ data := #[105, 112, 118, 52, 95, 115, 114, 99] }, 11, 32, true) else (bif (decide (f1 = 11)) then some ({ data := #[105, 112, 118, 52, 95, 100, 115, 116] }, 12, 32, true) else (F_r03_upper f1).bind fun x2 => some (x2.1, x2.2.1, x2.2.2.1, x2.2.2.2)))))))))))))
theorem c_r03_row (f1 : Int) (r : (ByteArray × Int × Int × Bool)) (h : F_r03_row f1 = some r) : PCon Tryz.prog 334 [rd (kint .i64) f1] (tup4 (rd kstr r.1) (rd (kint .i64) r.2.1) (rd (kint .i64) r.2.2.1) (rd kbool r.2.2.2)) := by
  refine PCon.of (Con.intro0 Tryz.func334 rfl Tryz.ntmps334 rfl fun w H => ?_)
  unfold F_r03_row at h
  refine SR <| Ac (op_assign (A := rd kstr { data := #[] }) rfl rfl (vs (by decide))) rfl <| Ak rfl <| Ak rfl <| Ab rfl <| Nl <| AW.seq <| SR <| Md rfl <| Nl <| AW.block <| SR <| Ac (op_eql rfl rfl (vt rfl) (vk rfl)) rfl <| As rfl <| Nl <| Cn rfl (fun hc => ?_) (fun hc => ?_)
  · have h := cond_t hc h
    refine SR <| Ac (op_assign (A := rd kstr { data := #[105, 110, 95, 112, 111, 114, 116] }) rfl rfl (vs (by decide))) rfl <| Ak rfl <| Ak rfl <| Ab rfl <| Nl <| AW.ret ?_
    obtain rfl := si h
    exact ret4 Tryz.results334 rfl (out_tmp rfl) (out_tmp rfl) (out_tmp rfl) (out_tmp rfl)
  · have h := cond_f hc h
    refine SR <| Ac (op_eql rfl rfl (vt rfl) (vk rfl)) rfl <| As rfl <| Nl <| Cn rfl (fun hc => ?_) (fun hc => ?_)
    · have h := cond_t hc h
      refine SR <| Ac (op_assign (A := rd kstr { data := #[109, 101, 116, 97, 100, 97, 116, 97] }) rfl rfl (vs (by decide))) rfl <| Ak rfl <| Ak rfl <| Ab rfl <| Nl <| AW.ret ?_
      obtain rfl := si h
      exact ret4 Tryz.results334 rfl (out_tmp rfl) (out_tmp rfl) (out_tmp rfl) (out_tmp rfl)
    · have h := cond_f hc h
      refine SR <| Ac (op_eql rfl rfl (vt rfl) (vk rfl)) rfl <| As rfl <| Nl <| Cn rfl (fun hc => ?_) (fun hc => ?_)
      · have h := cond_t hc h
        refine SR <| Ac (op_assign (A := rd kstr { data := #[101, 116, 104, 95, 100, 115, 116] }) rfl rfl (vs (by decide))) rfl <| Ak rfl <| Ak rfl <| Ab rfl <| Nl <| AW.ret ?_
        obtain rfl := si h
        exact ret4 Tryz.results334 rfl (out_tmp rfl) (out_tmp rfl) (out_tmp rfl) (out_tmp rfl)
      · have h := cond_f hc h
        refine SR <| Ac (op_eql rfl rfl (vt rfl) (vk rfl)) rfl <| As rfl <| Nl <| Cn rfl (fun hc => ?_) (fun hc => ?_)
        · have h := cond_t hc h
          refine SR <| Ac (op_assign (A := rd kstr { data := #[101, 116, 104, 95, 115, 114, 99] }) rfl rfl (vs (by decide))) rfl <| Ak rfl <| Ak rfl <| Ab rfl <| Nl <| AW.ret ?_
          obtain rfl := si h
          exact ret4 Tryz.results334 rfl (out_tmp rfl) (out_tmp rfl) (out_tmp rfl) (out_tmp rfl)
        · have h := cond_f hc h
          refine SR <| Ac (op_eql rfl rfl (vt rfl) (vk rfl)) rfl <| As rfl <| Nl <| Cn rfl (fun hc => ?_) (fun hc => ?_)
          · have h := cond_t hc h
            refine SR <| Ac (op_assign (A := rd kstr { data := #[101, 116, 104, 95, 116, 121, 112, 101] }) rfl rfl (vs (by decide))) rfl <| Ak rfl <| Ak rfl <| Ab rfl <| Nl <| AW.ret ?_
            obtain rfl := si h
            exact ret4 Tryz.results334 rfl (out_tmp rfl) (out_tmp rfl) (out_tmp rfl) (out_tmp rfl)
          · have h := cond_f hc h
            refine SR <| Ac (op_eql rfl rfl (vt rfl) (vk rfl)) rfl <| As rfl <| Nl <| Cn rfl (fun hc => ?_) (fun hc => ?_)
            · have h := cond_t hc h
              refine SR <| Ac (op_assign (A := rd kstr { data := #[118, 108, 97, 110, 95, 118, 105, 100] }) rfl rfl (vs (by decide))) rfl <| Ak rfl <| Ak rfl <| Ab rfl <| Nl <| AW.ret ?_
              obtain rfl := si h
              exact ret4 Tryz.results334 rfl (out_tmp rfl) (out_tmp rfl) (out_tmp rfl) (out_tmp rfl)
            · have h := cond_f hc h
              refine SR <| Ac (op_eql rfl rfl (vt rfl) (vk rfl)) rfl <| As rfl <| Nl <| Cn rfl (fun hc => ?_) (fun hc => ?_)
              · have h := cond_t hc h
                refine SR <| Ac (op_assign (A := rd kstr { data := #[118, 108, 97, 110, 95, 112, 99, 112] }) rfl rfl (vs (by decide))) rfl <| Ak rfl <| Ak rfl <| Ab rfl <| Nl <| AW.ret ?_
                obtain rfl := si h
                exact ret4 Tryz.results334 rfl (out_tmp rfl) (out_tmp rfl) (out_tmp rfl) (out_tmp rfl)
              · have h := cond_f hc h
                refine SR <| Ac (op_eql rfl rfl (vt rfl) (vk rfl)) rfl <| As rfl <| Nl <| Cn rfl (fun hc => ?_) (fun hc => ?_)
                · have h := cond_t hc h
                  refine SR <| Ac (op_assign (A := rd kstr { data := #[105, 112, 95, 100, 115, 99, 112] }) rfl rfl (vs (by decide))) rfl <| Ak rfl <| Ak rfl <| Ab rfl <| Nl <| AW.ret ?_
                  obtain rfl := si h
                  exact ret4 Tryz.results334 rfl (out_tmp rfl) (out_tmp rfl) (out_tmp rfl) (out_tmp rfl)
                · have h := cond_f hc h
                  refine SR <| Ac (op_eql rfl rfl (vt rfl) (vk rfl)) rfl <| As rfl <| Nl <| Cn rfl (fun hc => ?_) (fun hc => ?_)
                  · have h := cond_t hc h
                    refine SR <| Ac (op_assign (A := rd kstr { data := #[105, 112, 95, 101, 99, 110] }) rfl rfl (vs (by decide))) rfl <| Ak rfl <| Ak rfl <| Ab rfl <| Nl <| AW.ret ?_
                    obtain rfl := si h
                    exact ret4 Tryz.results334 rfl (out_tmp rfl) (out_tmp rfl) (out_tmp rfl) (out_tmp rfl)
                  · have h := cond_f hc h
                    refine SR <| Ac (op_eql rfl rfl (vt rfl) (vk rfl)) rfl <| As rfl <| Nl <| Cn rfl (fun hc => ?_) (fun hc => ?_)
                    · have h := cond_t hc h
                      refine SR <| Ac (op_assign (A := rd kstr { data := #[105, 112, 95, 112, 114, 111, 116, 111] }) rfl rfl (vs (by decide))) rfl <| Ak rfl <| Ak rfl <| Ab rfl <| Nl <| AW.ret ?_
                      obtain rfl := si h
                      exact ret4 Tryz.results334 rfl (out_tmp rfl) (out_tmp rfl) (out_tmp rfl) (out_tmp rfl)
                    · have h := cond_f hc h
                      refine SR <| Ac (op_eql rfl rfl (vt rfl) (vk rfl)) rfl <| As rfl <| Nl <| Cn rfl (fun hc => ?_) (fun hc => ?_)
                      · have h := cond_t hc h
                        refine SR <| Ac (op_assign (A := rd kstr { data := #[105, 112, 118, 52, 95, 115, 114, 99] }) rfl rfl (vs (by decide))) rfl <| Ak rfl <| Ak rfl <| Ab rfl <| Nl <| AW.ret ?_
                        obtain rfl := si h
                        exact ret4 Tryz.results334 rfl (out_tmp rfl) (out_tmp rfl) (out_tmp rfl) (out_tmp rfl)
                      · have h := cond_f hc h
                        refine SR <| Ac (op_eql rfl rfl (vt rfl) (vk rfl)) rfl <| As rfl <| Nl <| Cn rfl (fun hc => ?_) (fun hc => ?_)
                        · have h := cond_t hc h
                          refine SR <| Ac (op_assign (A := rd kstr { data := #[105, 112, 118, 52, 95, 100, 115, 116] }) rfl rfl (vs (by decide))) rfl <| Ak rfl <| Ak rfl <| Ab rfl <| Nl <| AW.ret ?_
                          obtain rfl := si h
                          exact ret4 Tryz.results334 rfl (out_tmp rfl) (out_tmp rfl) (out_tmp rfl) (out_tmp rfl)
                        · have h := cond_f hc h
                          refine AW.skip <| AW.seq ?_
                          obtain ⟨x2, hx2, h⟩ := bsome h
                          refine Rg <| Md rfl <| Cl [31] (c_r03_upper _ _ hx2) e342 rfl <| Ac (op_ext4_0 rfl rfl (vt rfl)) rfl <| Ac (op_ext4_1 rfl rfl (vt rfl)) rfl <| Ac (op_ext4_2 rfl rfl (vt rfl)) rfl <| Ac (op_ext4_3 rfl rfl (vt rfl)) rfl <| As rfl <| As rfl <| As rfl <| As rfl <| Nl <| AW.ret ?_
                          obtain rfl := si h
                          exact ret4 Tryz.results334 rfl (out_tmp rfl) (out_tmp rfl) (out_tmp rfl) (out_tmp rfl)
def F_r03_Bits (f1 : Int) : Option Int :=
  (F_r03_row f1).bind fun x2 => some x2.2.2.1
theorem c_r03_Bits (f1 : Int) (r : Int) (h : F_r03_Bits f1 = some r) : PCon Tryz.prog 308 [rd (kint .i64) f1] (rd (kint .i64) r) := by
  refine PCon.of (Con.intro0 Tryz.func308 rfl Tryz.ntmps308 rfl fun w H => ?_)
  unfold F_r03_Bits at h
  refine SR <| Ak rfl <| Nl <| AW.seq ?_
  obtain ⟨x2, hx2, h⟩ := bsome h
  refine Rg <| Md rfl <| Cl [8] (c_r03_row _ _ hx2) e334 rfl <| Ac (op_move (A := tup4 (rd kstr x2.1) (rd (kint .i64) x2.2.1) (rd (kint .i64) x2.2.2.1) (rd kbool x2.2.2.2)) rfl rfl (vt rfl)) rfl <| Ac (op_ext4_0 rfl rfl (vt rfl)) rfl <| Ac (op_ext4_1 rfl rfl (vt rfl)) rfl <| Ac (op_ext4_2 rfl rfl (vt rfl)) rfl <| Ac (op_ext4_3 rfl rfl (vt rfl)) rfl <| As rfl <| As rfl <| As rfl <| As rfl <| Nl <| SR <| Md rfl <| As rfl <| Nl <| AW.ret ?_
  obtain rfl := si h
  exact ret1 Tryz.results308 rfl (out_tmp rfl)
end Go.Proofs.YtknpgojdkobgjaaGreat.W
set_option linter.unusedVariables false
set_option maxRecDepth 4000
set_option linter.unusedSimpArgs false
namespace Go.Proofs.YtknpgojdkobgjaaGreat.W
open Go Go.Wb
theorem e309 : Ent Tryz.prog 309 := Ent.mk Tryz.func309 rfl rfl
theorem e187 : Ent Tryz.prog 187 := Ent.mk Tryz.func187 rfl rfl
theorem e225 : Ent Tryz.prog 225 := Ent.mk Tryz.func225 rfl rfl
theorem e308 : Ent Tryz.prog 308 := Ent.mk Tryz.func308 rfl rfl
theorem e307 : Ent Tryz.prog 307 := Ent.mk Tryz.func307 rfl rfl
theorem e271 : Ent Tryz.prog 271 := Ent.mk Tryz.func271 rfl rfl
theorem e189 : Ent Tryz.prog 189 := Ent.mk Tryz.func189 rfl rfl
theorem e144 : Ent Tryz.prog 144 := Ent.mk Tryz.func144 rfl rfl
theorem e210 : Ent Tryz.prog 210 := Ent.mk Tryz.func210 rfl rfl
theorem e83 : Ent Tryz.prog 83 := Ent.mk Tryz.func83 rfl rfl
def F_r02_Bit (i1 : Int) : Option Wide :=
  (bif ((decide (i1 < 0)) || (decide (i1 > 127))) then some (⟨0, 0⟩ : Wide) else (bif (decide (i1 < 64)) then (oushl (1 : BitVec 64) ((BitVec.ofInt 64 i1).toNat : Int)).bind fun q3 => some (⟨0, q3⟩ : Wide) else (oushl (1 : BitVec 64) ((BitVec.ofInt 64 (IntKind.i64.wrap (i1 - 64))).toNat : Int)).bind fun q4 => some (⟨q4, 0⟩ : Wide)))
theorem c_r02_Bit (i1 : Int) (r : Wide) (h : F_r02_Bit i1 = some r) : PCon Tryz.prog 309 [rd (kint .i64) i1] (rd kWide r) := by
  refine PCon.of (Con.intro0 Tryz.func309 rfl Tryz.ntmps309 rfl fun w H => ?_)
  unfold F_r02_Bit at h
  refine SR <| Ct rfl (op_alloc 3 rfl rfl zr42) ?_
  rintro _ ⟨g2, rfl⟩
  refine Nl <| AW.seq <| AW.block <| SR <| Md rfl <| Ac (op_lss rfl rfl (vt rfl) (vk rfl)) rfl <| Md rfl <| Gd rfl (fun hq => op_move (A := rd (kint .i64) i1) rfl rfl (vt rfl)) <| Gd rfl (fun hq => op_gtr rfl rfl (vgt rfl hq) (vk rfl)) <| Ac (op_any rfl rfl (vt rfl) (vt rfl)) rfl <| As rfl <| Nl <| Cn rfl (fun hc => ?_) (fun hc => ?_)
  · have h := cond_t hc h
    refine SR <| Ac (op_build (ps := []) (x := (⟨0, 0⟩ : Wide)) rfl rfl rfl (by kernel_rfl) zr42 rfl) rfl <| Sto ty42 3 rfl <| Nl <| AW.ret ?_
    obtain rfl := si h
    exact ret1 Tryz.results309 rfl (out_cell rfl (i := 3) rfl ty42)
  · have h := cond_f hc h
    refine SR <| Md rfl <| Ac (op_lss rfl rfl (vt rfl) (vk rfl)) rfl <| As rfl <| Nl <| Cn rfl (fun hc => ?_) (fun hc => ?_)
    · have h := cond_t hc h
      refine AW.seq ?_
      obtain ⟨q3, hq3, h⟩ := bsome h
      refine Rg <| Md rfl <| Ac (op_convu rfl rfl us3 un360 (vt rfl)) rfl <| Ac (op_ushl rfl rfl (vku (1 : BitVec 64) rfl) (vu64 (vt rfl)) hq3) rfl <| Ac (op_build (ps := [(1, .tmp 16)]) (x := (⟨0, q3⟩ : Wide)) rfl rfl rfl (by kernel_rfl) zr42 ⟨_, _, lWide_1, _, by kernel_rfl, (vt rfl), rfl⟩) rfl <| Sto ty42 3 rfl <| Nl <| AW.ret ?_
      obtain rfl := si h
      exact ret1 Tryz.results309 rfl (out_cell rfl (i := 3) rfl ty42)
    · have h := cond_f hc h
      refine AW.skip <| AW.seq ?_
      obtain ⟨q4, hq4, h⟩ := bsome h
      refine Rg <| Md rfl <| Ac (op_sub rfl rfl (vt rfl) (vk rfl)) rfl <| Ac (op_convu rfl rfl us3 un360 (vt rfl)) rfl <| Ac (op_ushl rfl rfl (vku (1 : BitVec 64) rfl) (vu64 (vt rfl)) hq4) rfl <| Ac (op_build (ps := [(0, .tmp 21)]) (x := (⟨q4, 0⟩ : Wide)) rfl rfl rfl (by kernel_rfl) zr42 ⟨_, _, lWide_0, _, by kernel_rfl, (vt rfl), rfl⟩) rfl <| Sto ty42 3 rfl <| Nl <| AW.ret ?_
      obtain rfl := si h
      exact ret1 Tryz.results309 rfl (out_cell rfl (i := 3) rfl ty42)
def F_r02_Or (a1 : Wide) (b2 : Wide) : Option Wide :=
  some (⟨(a1.Hi ||| b2.Hi), (a1.Lo ||| b2.Lo)⟩ : Wide)
theorem c_r02_Or (a1 : Wide) (b2 : Wide) (r : Wide) (h : F_r02_Or a1 b2 = some r) : PCon Tryz.prog 187 [rd kWide a1, rd kWide b2] (rd kWide r) := by
  refine PCon.of (Con.intro0 Tryz.func187 rfl Tryz.ntmps187 rfl fun w H => ?_)
  unfold F_r02_Or at h
  refine SR <| Ct rfl (op_box 3 rfl rfl (vt rfl)) ?_
  rintro _ ⟨g3, rfl⟩
  refine Ct rfl (op_box 4 rfl rfl (vt rfl)) ?_
  rintro _ ⟨g4, rfl⟩
  refine Ct rfl (op_alloc 5 rfl rfl zr42) ?_
  rintro _ ⟨g5, rfl⟩
  refine Nl <| SR <| FdA lWide_0 fl42_0 rfl <| Ld ty40 3 rfl <| FdA lWide_0 fl42_0 rfl <| Ld ty40 4 rfl <| Ac (op_or rfl rfl (vt rfl) (vt rfl)) rfl <| FdA lWide_1 fl42_1 rfl <| Ld ty40 3 rfl <| FdA lWide_1 fl42_1 rfl <| Ld ty40 4 rfl <| Ac (op_or rfl rfl (vt rfl) (vt rfl)) rfl <| Ac (op_build (ps := [(0, .tmp 9), (1, .tmp 14)]) (x := (⟨(a1.Hi ||| b2.Hi), (a1.Lo ||| b2.Lo)⟩ : Wide)) rfl rfl rfl (by kernel_rfl) zr42 ⟨_, _, lWide_0, _, by kernel_rfl, (vt rfl), _, _, lWide_1, _, by kernel_rfl, (vt rfl), rfl⟩) rfl <| Sto ty42 5 rfl <| Nl <| AW.ret ?_
  obtain rfl := si h
  exact ret1 Tryz.results187 rfl (out_cell rfl (i := 5) rfl ty42)
def F_r02_Low_l1 (n1 : Int) : Nat → Wide → Int → Option Wide
  | 0, _, _ => none
  | m8 + 1, b6, i7 => (bif ((decide (i7 < n1)) && (decide (i7 < 128))) then (F_r02_Bit i7).bind fun x9 => (F_r02_Or b6 x9).bind fun x10 => (F_r02_Low_l1 n1 m8) x10 (IntKind.i64.wrap (i7 + 1)) else some b6)
def F_r02_Low (n1 : Int) : Option Wide :=
  F_r02_Low_l1 n1 fuel0 (⟨0, 0⟩ : Wide) 0
theorem c_r02_Low (n1 : Int) (r : Wide) (h : F_r02_Low n1 = some r) : PCon Tryz.prog 307 [rd (kint .i64) n1] (rd kWide r) := by
  refine PCon.of (Con.intro0 Tryz.func307 rfl Tryz.ntmps307 rfl fun w H => ?_)
  unfold F_r02_Low at h
  refine SR <| Ct rfl (op_alloc 3 rfl rfl zr42) ?_
  rintro _ ⟨g2, rfl⟩
  refine Nl <| SR <| Ac (op_build (ps := []) (x := (⟨0, 0⟩ : Wide)) rfl rfl rfl (by kernel_rfl) zr42 rfl) rfl <| Ct rfl (op_alloc 4 rfl rfl zr42) ?_
  rintro _ ⟨g3, rfl⟩
  refine Sto ty42 4 rfl <| Nl <| AW.seq <| SR <| Ak rfl <| Nl <| AW.block <| AW.loopG (d := []) (ν := Nat × Wide × Int) (fun n => True ∧ F_r02_Low_l1 n1 n.1 n.2.1 n.2.2 = some r) (fun n => n.1) (fun n => [(0, rd (kint .i64) n1), (2, ptrL g2 (Lens.id kWide)), (3, ptrL g3 (Lens.id kWide)), (4, rd (kint .i64) n.2.2)]) (fun n => [(3, Blk g2 42 kWide zWide), (4, Blk g3 42 kWide n.2.1)]) (fuel0, (⟨0, 0⟩ : Wide), 0) ⟨trivial, h⟩ ⟨rfl, ⟨rfl, rfl, rfl, rfl, trivial⟩, ⟨rfl, rfl, trivial⟩⟩ ?_
  rintro ⟨m8, b6, i7⟩ ⟨hsf1, h⟩
  change True at hsf1
  change F_r02_Low_l1 n1 m8 b6 i7 = some r at h
  change AW _ _ _ ⟨slots [(0, rd (kint .i64) n1), (2, ptrL g2 (Lens.id kWide)), (3, ptrL g3 (Lens.id kWide)), (4, rd (kint .i64) i7)], ress [(3, Blk g2 42 kWide zWide), (4, Blk g3 42 kWide b6)], _⟩
  cases m8 with
  | zero => cases h
  | succ m8 =>
    unfold F_r02_Low_l1 at h
    generalize hgo1 : F_r02_Low_l1 n1 m8 = go1 at h
    refine AW.seq <| SR <| Md rfl <| Md rfl <| Ac (op_lss rfl rfl (vt rfl) (vt rfl)) rfl <| Md rfl <| Gd rfl (fun hq => op_move (A := rd (kint .i64) i7) rfl rfl (vt rfl)) <| Gd rfl (fun hq => op_lss rfl rfl (vgt rfl hq) (vk rfl)) <| Ac (op_all rfl rfl (vt rfl) (vt rfl)) rfl <| Nl <| Cn rfl (fun hc => ?_) (fun hc => ?_)
    · have h := cond_t hc h
      refine AW.skip <| AW.seq <| AW.block ?_
      obtain ⟨x9, hx9, h⟩ := bsome h
      obtain ⟨x10, hx10, h⟩ := bsome h
      refine AW.regionAny [⟨[3], [15], [4], []⟩, ⟨[4], [16], [], []⟩, ⟨[16], [17], [], []⟩, ⟨[15, 17], [18], [], []⟩, ⟨[3, 18], [], [4], [4]⟩] mixed (by kernel_rfl) <| SLd ty42 4 rfl <| SMd rfl <| SCl [16] (c_r02_Bit _ _ hx9) e309 rfl <| SCl [15, 17] (c_r02_Or _ _ _ hx10) e187 rfl <| SSt ty42 4 rfl <| Rg <| Md rfl <| Ac (op_add rfl rfl (vt rfl) (vk rfl)) rfl <| As rfl <| Nl ?_
      subst hgo1
      exact ⟨(m8, x10, (IntKind.i64.wrap (i7 + 1))), Nat.lt_succ_self _, ⟨trivial, h⟩, ⟨rfl, ⟨rfl, rfl, rfl, rfl, trivial⟩, ⟨rfl, rfl, trivial⟩⟩⟩
    · have h := cond_f hc h
      refine AW.exit <| SR <| Ld ty42 4 rfl <| Sto ty42 3 rfl <| Nl <| AW.ret ?_
      obtain rfl := si h
      exact ret1 Tryz.results307 rfl (out_cell rfl (i := 3) rfl ty42)
def F_r10_Tern (o1 : Oxm) : Option Tern :=
  (F_r03_Right o1.Field).bind fun x4 => (bif (!x4) then some (⟨zWide, zWide⟩ : Tern) else (bif o1.Masked then some (⟨o1.Value, o1.Mask⟩ : Tern) else (F_r03_Bits o1.Field).bind fun x5 => (F_r02_Low x5).bind fun x6 => some (⟨o1.Value, x6⟩ : Tern)))
theorem c_r10_Tern (o1 : Oxm) (r : Tern) (h : F_r10_Tern o1 = some r) : PCon Tryz.prog 271 [rd kOxm o1] (rd kTern r) := by
  refine PCon.of (Con.intro0 Tryz.func271 rfl Tryz.ntmps271 rfl fun w H => ?_)
  unfold F_r10_Tern at h
  refine SR <| Ct rfl (op_box 2 rfl rfl (vt rfl)) ?_
  rintro _ ⟨g2, rfl⟩
  refine Ct rfl (op_alloc 3 rfl rfl zr85) ?_
  rintro _ ⟨g3, rfl⟩
  refine Nl <| AW.seq <| AW.seq ?_
  obtain ⟨x4, hx4, h⟩ := bsome h
  refine Rg <| FdA lOxm_0 fl119_0 rfl <| Ld ty3 2 rfl <| Cl [4] (c_r03_Right _ _ hx4) e225 rfl <| Ac (op_not rfl rfl (vt rfl)) rfl <| Nl <| Cn rfl (fun hc => ?_) (fun hc => ?_)
  · have h := cond_t hc h
    refine SR <| Ac (op_build (ps := []) (x := (⟨zWide, zWide⟩ : Tern)) rfl rfl rfl (by kernel_rfl) zr85 rfl) rfl <| Sto ty85 3 rfl <| Nl <| AW.ret ?_
    obtain rfl := si h
    exact ret1 Tryz.results271 rfl (out_cell rfl (i := 3) rfl ty85)
  · have h := cond_f hc h
    refine AW.skip <| AW.seq <| SR <| FdA lOxm_1 fl119_1 rfl <| Ld ty4 2 rfl <| Nl <| Cn rfl (fun hc => ?_) (fun hc => ?_)
    · have h := cond_t hc h
      refine SR <| FdA lOxm_2 fl119_2 rfl <| Ld ty42 2 rfl <| FdA lOxm_3 fl119_3 rfl <| Ld ty42 2 rfl <| Ac (op_build (ps := [(0, .tmp 11), (1, .tmp 13)]) (x := (⟨o1.Value, o1.Mask⟩ : Tern)) rfl rfl rfl (by kernel_rfl) zr85 ⟨_, _, lTern_0, _, by kernel_rfl, (vt rfl), _, _, lTern_1, _, by kernel_rfl, (vt rfl), rfl⟩) rfl <| Sto ty85 3 rfl <| Nl <| AW.ret ?_
      obtain rfl := si h
      exact ret1 Tryz.results271 rfl (out_cell rfl (i := 3) rfl ty85)
    · have h := cond_f hc h
      refine AW.skip <| AW.seq ?_
      obtain ⟨x5, hx5, h⟩ := bsome h
      obtain ⟨x6, hx6, h⟩ := bsome h
      refine AW.regionAny [⟨[1], [15], [], []⟩, ⟨[15], [16], [2], []⟩, ⟨[1], [17], [], []⟩, ⟨[17], [18], [2], []⟩, ⟨[18], [19], [], []⟩, ⟨[19], [20], [], []⟩, ⟨[16, 20], [21], [], []⟩, ⟨[2, 21], [], [3], [3]⟩] mixed (by kernel_rfl) <| SFd lOxm_2 fl119_2 rfl <| SLd ty42 2 rfl <| SFd lOxm_0 fl119_0 rfl <| SLd ty3 2 rfl <| SCl [18] (c_r03_Bits _ _ hx5) e308 rfl <| SCl [19] (c_r02_Low _ _ hx6) e307 rfl <| Sc (lo [16, 20] [] rfl fun S hs hr => op_build (ps := [(0, .tmp 16), (1, .tmp 20)]) (x := (⟨o1.Value, x6⟩ : Tern)) rfl rfl rfl (by kernel_rfl) zr85 ⟨_, _, lTern_0, _, by kernel_rfl, (vh hs 16 rfl rfl), _, _, lTern_1, _, by kernel_rfl, (vh hs 20 rfl rfl), rfl⟩) rfl <| SSt ty85 3 rfl <| AW.ret ?_
      obtain rfl := si h
      exact ret1 Tryz.results271 rfl (out_cell rfl (i := 3) rfl ty85)
def F_r11_Cube_l1 (l1 : (List Oxm)) : Nat → (Vector Tern 24) → Int → Option (Vector Tern 24)
  | 0, _, _ => none
  | m8 + 1, b6, i7 => (bif (decide (i7 < (l1.length : Int))) then (lget l1 i7).bind fun e9 => (F_r03_Right e9.Field).bind fun x10 => (bif x10 then (lget l1 i7).bind fun e11 => (lget l1 i7).bind fun e12 => (F_r10_Tern e12).bind fun x13 => (chk 24 e11.Field).bind fun j14 => (F_r11_Cube_l1 l1 m8) (Vector.set b6 j14.1 x13 j14.2) (IntKind.i64.wrap (i7 + 1)) else (F_r11_Cube_l1 l1 m8) b6 (IntKind.i64.wrap (i7 + 1))) else some b6)
def F_r11_Cube (l1 : (List Oxm)) : Option (Vector Tern 24) :=
  F_r11_Cube_l1 l1 ((((l1.length : Int) : Int) - 0).toNat + 1) (Vector.replicate 24 zTern) 0
theorem c_r11_Cube (l1 : (List Oxm)) (r : (Vector Tern 24)) (h : F_r11_Cube l1 = some r) : PCon Tryz.prog 210 [rd (ksl kOxm) l1] (rd (karr 24 kTern) r) := by
  refine PCon.of (Con.intro0 Tryz.func210 rfl Tryz.ntmps210 rfl fun w H => ?_)
  unfold F_r11_Cube at h
  refine SR <| Ct rfl (op_alloc 3 rfl rfl zr87) ?_
  rintro _ ⟨g2, rfl⟩
  refine Nl <| SR <| Ac (op_build (ps := []) (x := (Vector.replicate 24 zTern)) rfl rfl rfl (by kernel_rfl) zr87 rfl) rfl <| Ct rfl (op_alloc 4 rfl rfl zr87) ?_
  rintro _ ⟨g3, rfl⟩
  refine Sto ty87 4 rfl <| Nl <| AW.seq <| SR <| Ak rfl <| Nl <| AW.block <| AW.loopG (d := []) (ν := Nat × (Vector Tern 24) × Int) (fun n => True ∧ F_r11_Cube_l1 l1 n.1 n.2.1 n.2.2 = some r) (fun n => n.1) (fun n => [(0, rd (ksl kOxm) l1), (2, ptrL g2 (Lens.id (karr 24 kTern))), (3, ptrL g3 (Lens.id (karr 24 kTern))), (4, rd (kint .i64) n.2.2)]) (fun n => [(3, Blk g2 87 (karr 24 kTern) (Vector.replicate 24 zTern)), (4, Blk g3 87 (karr 24 kTern) n.2.1)]) (((((l1.length : Int) : Int) - 0).toNat + 1), (Vector.replicate 24 zTern), 0) ⟨trivial, h⟩ ⟨rfl, ⟨rfl, rfl, rfl, rfl, trivial⟩, ⟨rfl, rfl, trivial⟩⟩ ?_
  rintro ⟨m8, b6, i7⟩ ⟨hsf1, h⟩
  change True at hsf1
  change F_r11_Cube_l1 l1 m8 b6 i7 = some r at h
  change AW _ _ _ ⟨slots [(0, rd (ksl kOxm) l1), (2, ptrL g2 (Lens.id (karr 24 kTern))), (3, ptrL g3 (Lens.id (karr 24 kTern))), (4, rd (kint .i64) i7)], ress [(3, Blk g2 87 (karr 24 kTern) (Vector.replicate 24 zTern)), (4, Blk g3 87 (karr 24 kTern) b6)], _⟩
  cases m8 with
  | zero => cases h
  | succ m8 =>
    unfold F_r11_Cube_l1 at h
    generalize hgo1 : F_r11_Cube_l1 l1 m8 = go1 at h
    refine AW.seq <| SR <| Md rfl <| Md rfl <| Ac (op_len' rfl rfl sl58 (vt rfl)) rfl <| Ac (op_lss rfl rfl (vt rfl) (vt rfl)) rfl <| Nl <| Cn rfl (fun hc => ?_) (fun hc => ?_)
    · have h := cond_t hc h
      refine AW.skip <| AW.seq <| AW.block <| AW.seq ?_
      obtain ⟨e9, he9, h⟩ := bsome h
      obtain ⟨x10, hx10, h⟩ := bsome h
      refine Rg <| Md rfl <| Md rfl <| Ac (op_indexs' rfl rfl sl58 (vt rfl) (vt rfl) he9) rfl <| Fp lOxm_0 fl119_0 rfl <| Lp1 ty3 rfl <| Cl [16] (c_r03_Right _ _ hx10) e225 rfl <| Nl <| Cn rfl (fun hc => ?_) (fun hc => ?_)
      · have h := cond_t hc h
        obtain ⟨e11, he11, h⟩ := bsome h
        obtain ⟨e12, he12, h⟩ := bsome h
        obtain ⟨x13, hx13, h⟩ := bsome h
        obtain ⟨j14, hj14, h⟩ := bsome h
        refine AW.regionAny [⟨[0], [18], [], []⟩, ⟨[4], [19], [], []⟩, ⟨[18, 19], [20], [], []⟩, ⟨[20], [21], [], []⟩, ⟨[21], [22], [], []⟩, ⟨[0], [23], [], []⟩, ⟨[4], [24], [], []⟩, ⟨[23, 24], [25], [], []⟩, ⟨[25], [26], [], []⟩, ⟨[26], [27], [], []⟩, ⟨[3, 22], [28], [], []⟩, ⟨[28, 27], [], [4], [4]⟩] mixed (by kernel_rfl) <| SMd rfl <| SMd rfl <| Sc (lo [18, 19] [] rfl fun S hs hr => op_indexs' rfl rfl sl58 (vh hs 18 rfl rfl) (vh hs 19 rfl rfl) he11) rfl <| SFp lOxm_0 fl119_0 rfl <| SLp ty3 rfl <| SMd rfl <| SMd rfl <| Sc (lo [23, 24] [] rfl fun S hs hr => op_indexs' rfl rfl sl58 (vh hs 23 rfl rfl) (vh hs 24 rfl rfl) he12) rfl <| SLp ty119 rfl <| SCl [26] (c_r10_Tern _ _ hx13) e271 rfl <| Sc (lo [3, 22] [] rfl fun S hs hr => op_index' rfl rfl ar87 (vh hs 3 rfl rfl) (vh hs 22 rfl rfl) hj14) rfl <| SSt ty85 4 rfl <| Rg <| Md rfl <| Ac (op_add rfl rfl (vt rfl) (vk rfl)) rfl <| As rfl <| Nl ?_
        subst hgo1
        exact ⟨(m8, (Vector.set b6 j14.1 x13 j14.2), (IntKind.i64.wrap (i7 + 1))), Nat.lt_succ_self _, ⟨trivial, h⟩, ⟨rfl, ⟨rfl, rfl, rfl, rfl, trivial⟩, ⟨rfl, rfl, trivial⟩⟩⟩
      · have h := cond_f hc h
        refine AW.skip <| Rg <| Md rfl <| Ac (op_add rfl rfl (vt rfl) (vk rfl)) rfl <| As rfl <| Nl ?_
        subst hgo1
        exact ⟨(m8, b6, (IntKind.i64.wrap (i7 + 1))), Nat.lt_succ_self _, ⟨trivial, h⟩, ⟨rfl, ⟨rfl, rfl, rfl, rfl, trivial⟩, ⟨rfl, rfl, trivial⟩⟩⟩
    · have h := cond_f hc h
      refine AW.exit <| SR <| Ld ty87 4 rfl <| Sto ty87 3 rfl <| Nl <| AW.ret ?_
      obtain rfl := si h
      exact ret1 Tryz.results210 rfl (out_cell rfl (i := 3) rfl ty87)
def F_r02_And (a1 : Wide) (b2 : Wide) : Option Wide :=
  some (⟨(a1.Hi &&& b2.Hi), (a1.Lo &&& b2.Lo)⟩ : Wide)
theorem c_r02_And (a1 : Wide) (b2 : Wide) (r : Wide) (h : F_r02_And a1 b2 = some r) : PCon Tryz.prog 189 [rd kWide a1, rd kWide b2] (rd kWide r) := by
  refine PCon.of (Con.intro0 Tryz.func189 rfl Tryz.ntmps189 rfl fun w H => ?_)
  unfold F_r02_And at h
  refine SR <| Ct rfl (op_box 3 rfl rfl (vt rfl)) ?_
  rintro _ ⟨g3, rfl⟩
  refine Ct rfl (op_box 4 rfl rfl (vt rfl)) ?_
  rintro _ ⟨g4, rfl⟩
  refine Ct rfl (op_alloc 5 rfl rfl zr42) ?_
  rintro _ ⟨g5, rfl⟩
  refine Nl <| SR <| FdA lWide_0 fl42_0 rfl <| Ld ty40 3 rfl <| FdA lWide_0 fl42_0 rfl <| Ld ty40 4 rfl <| Ac (op_and rfl rfl (vt rfl) (vt rfl)) rfl <| FdA lWide_1 fl42_1 rfl <| Ld ty40 3 rfl <| FdA lWide_1 fl42_1 rfl <| Ld ty40 4 rfl <| Ac (op_and rfl rfl (vt rfl) (vt rfl)) rfl <| Ac (op_build (ps := [(0, .tmp 9), (1, .tmp 14)]) (x := (⟨(a1.Hi &&& b2.Hi), (a1.Lo &&& b2.Lo)⟩ : Wide)) rfl rfl rfl (by kernel_rfl) zr42 ⟨_, _, lWide_0, _, by kernel_rfl, (vt rfl), _, _, lWide_1, _, by kernel_rfl, (vt rfl), rfl⟩) rfl <| Sto ty42 5 rfl <| Nl <| AW.ret ?_
  obtain rfl := si h
  exact ret1 Tryz.results189 rfl (out_cell rfl (i := 5) rfl ty42)
def F_r05_Clean (t1 : Tern) : Option Tern :=
  (F_r02_And t1.Value t1.Mask).bind fun x4 => some (⟨x4, t1.Mask⟩ : Tern)
theorem c_r05_Clean (t1 : Tern) (r : Tern) (h : F_r05_Clean t1 = some r) : PCon Tryz.prog 144 [rd kTern t1] (rd kTern r) := by
  refine PCon.of (Con.intro0 Tryz.func144 rfl Tryz.ntmps144 rfl fun w H => ?_)
  unfold F_r05_Clean at h
  refine SR <| Ct rfl (op_box 2 rfl rfl (vt rfl)) ?_
  rintro _ ⟨g2, rfl⟩
  refine Ct rfl (op_alloc 3 rfl rfl zr85) ?_
  rintro _ ⟨g3, rfl⟩
  refine Nl <| AW.seq ?_
  obtain ⟨x4, hx4, h⟩ := bsome h
  refine AW.regionAny [⟨[1], [3], [], []⟩, ⟨[3], [4], [2], []⟩, ⟨[1], [5], [], []⟩, ⟨[5], [6], [2], []⟩, ⟨[4, 6], [7], [], []⟩, ⟨[1], [8], [], []⟩, ⟨[8], [9], [2], []⟩, ⟨[7, 9], [10], [], []⟩, ⟨[2, 10], [], [3], [3]⟩] mixed (by kernel_rfl) <| SFd lTern_0 fl85_0 rfl <| SLd ty42 2 rfl <| SFd lTern_1 fl85_1 rfl <| SLd ty42 2 rfl <| SCl [4, 6] (c_r02_And _ _ _ hx4) e189 rfl <| SFd lTern_1 fl85_1 rfl <| SLd ty42 2 rfl <| Sc (lo [7, 9] [] rfl fun S hs hr => op_build (ps := [(0, .tmp 7), (1, .tmp 9)]) (x := (⟨x4, t1.Mask⟩ : Tern)) rfl rfl rfl (by kernel_rfl) zr85 ⟨_, _, lTern_0, _, by kernel_rfl, (vh hs 7 rfl rfl), _, _, lTern_1, _, by kernel_rfl, (vh hs 9 rfl rfl), rfl⟩) rfl <| SSt ty85 3 rfl <| AW.ret ?_
  obtain rfl := si h
  exact ret1 Tryz.results144 rfl (out_cell rfl (i := 3) rfl ty85)
def F_r06_Clean_l1 : Nat → (Vector Tern 24) → Int → Option (Vector Tern 24)
  | 0, _, _ => none
  | m8 + 1, b6, f7 => (bif (decide (f7 < 24)) then (chk 24 f7).bind fun j9 => (F_r05_Clean (Vector.get b6 j9)).bind fun x10 => (chk 24 f7).bind fun j11 => (F_r06_Clean_l1 m8) (Vector.set b6 j11.1 x10 j11.2) (IntKind.i64.wrap (f7 + 1)) else some b6)
def F_r06_Clean (cu1 : (Vector Tern 24)) : Option (Vector Tern 24) :=
  F_r06_Clean_l1 (((24 : Int) - 0).toNat + 1) cu1 0
theorem c_r06_Clean (cu1 : (Vector Tern 24)) (r : (Vector Tern 24)) (h : F_r06_Clean cu1 = some r) : PCon Tryz.prog 83 [rd (karr 24 kTern) cu1] (rd (karr 24 kTern) r) := by
  refine PCon.of (Con.intro0 Tryz.func83 rfl Tryz.ntmps83 rfl fun w H => ?_)
  unfold F_r06_Clean at h
  refine SR <| Ct rfl (op_box 2 rfl rfl (vt rfl)) ?_
  rintro _ ⟨g2, rfl⟩
  refine Ct rfl (op_alloc 3 rfl rfl zr87) ?_
  rintro _ ⟨g3, rfl⟩
  refine Nl <| AW.seq <| SR <| Ak rfl <| Nl <| AW.block <| AW.loopG (d := []) (ν := Nat × (Vector Tern 24) × Int) (fun n => True ∧ F_r06_Clean_l1 n.1 n.2.1 n.2.2 = some r) (fun n => n.1) (fun n => [(1, ptrL g2 (Lens.id (karr 24 kTern))), (2, ptrL g3 (Lens.id (karr 24 kTern))), (3, rd (kint .i64) n.2.2)]) (fun n => [(2, Blk g2 87 (karr 24 kTern) n.2.1), (3, Blk g3 87 (karr 24 kTern) (Vector.replicate 24 zTern))]) ((((24 : Int) - 0).toNat + 1), cu1, 0) ⟨trivial, h⟩ ⟨rfl, ⟨rfl, rfl, rfl, trivial⟩, ⟨rfl, rfl, trivial⟩⟩ ?_
  rintro ⟨m8, b6, f7⟩ ⟨hsf1, h⟩
  change True at hsf1
  change F_r06_Clean_l1 m8 b6 f7 = some r at h
  change AW _ _ _ ⟨slots [(1, ptrL g2 (Lens.id (karr 24 kTern))), (2, ptrL g3 (Lens.id (karr 24 kTern))), (3, rd (kint .i64) f7)], ress [(2, Blk g2 87 (karr 24 kTern) b6), (3, Blk g3 87 (karr 24 kTern) (Vector.replicate 24 zTern))], _⟩
  cases m8 with
  | zero => cases h
  | succ m8 =>
    unfold F_r06_Clean_l1 at h
    generalize hgo1 : F_r06_Clean_l1 m8 = go1 at h
    refine AW.seq <| SR <| Md rfl <| Ac (op_lss rfl rfl (vt rfl) (vk rfl)) rfl <| Nl <| Cn rfl (fun hc => ?_) (fun hc => ?_)
    · have h := cond_t hc h
      refine AW.skip <| AW.seq <| AW.block ?_
      obtain ⟨j9, hj9, h⟩ := bsome h
      obtain ⟨x10, hx10, h⟩ := bsome h
      obtain ⟨j11, hj11, h⟩ := bsome h
      refine Rg <| Md rfl <| Md rfl <| Ac (op_index' rfl rfl ar87 (vt rfl) (vt rfl) hj9) rfl <| Ld ty85 2 rfl <| Cl [11] (c_r05_Clean _ _ hx10) e144 rfl <| Ac (op_index' rfl rfl ar87 (vt rfl) (vt rfl) hj11) rfl <| Sto ty85 2 rfl <| Nl <| Rg <| Md rfl <| Ac (op_add rfl rfl (vt rfl) (vk rfl)) rfl <| As rfl <| Nl ?_
      subst hgo1
      exact ⟨(m8, (Vector.set b6 j11.1 x10 j11.2), (IntKind.i64.wrap (f7 + 1))), Nat.lt_succ_self _, ⟨trivial, h⟩, ⟨rfl, ⟨rfl, rfl, rfl, trivial⟩, ⟨rfl, rfl, trivial⟩⟩⟩
    · have h := cond_f hc h
      refine AW.exit <| SR <| Ld ty87 2 rfl <| Sto ty87 3 rfl <| Nl <| AW.ret ?_
      obtain rfl := si h
      exact ret1 Tryz.results83 rfl (out_cell rfl (i := 3) rfl ty87)
def F_r21_Cube (f1 : Flow) : Option (Vector Tern 24) :=
  (F_r11_Cube f1.Match).bind fun x4 => (F_r06_Clean x4).bind fun x5 => some x5
theorem c_r21_Cube (f1 : Flow) (r : (Vector Tern 24)) (h : F_r21_Cube f1 = some r) : PCon Tryz.prog 141 [rd kFlow f1] (rd (karr 24 kTern) r) := by
  refine PCon.of (Con.intro0 Tryz.func141 rfl Tryz.ntmps141 rfl fun w H => ?_)
  unfold F_r21_Cube at h
  refine SR <| Ct rfl (op_box 2 rfl rfl (vt rfl)) ?_
  rintro _ ⟨g2, rfl⟩
  refine Ct rfl (op_alloc 3 rfl rfl zr87) ?_
  rintro _ ⟨g3, rfl⟩
  refine Nl <| AW.seq ?_
  obtain ⟨x4, hx4, h⟩ := bsome h
  obtain ⟨x5, hx5, h⟩ := bsome h
  refine Rg <| FdA lFlow_5 fl61_5 rfl <| Ld ty58 2 rfl <| Cl [4] (c_r11_Cube _ _ hx4) e210 rfl <| Cl [5] (c_r06_Clean _ _ hx5) e83 rfl <| Sto ty87 3 rfl <| Nl <| AW.ret ?_
  obtain rfl := si h
  exact ret1 Tryz.results141 rfl (out_cell rfl (i := 3) rfl ty87)
end Go.Proofs.YtknpgojdkobgjaaGreat.W
set_option linter.unusedVariables false
set_option maxRecDepth 4000
set_option linter.unusedSimpArgs false
namespace Go.Proofs.YtknpgojdkobgjaaGreat.W
open Go Go.Wb
theorem e233 : Ent Tryz.prog 233 := Ent.mk Tryz.func233 rfl rfl
theorem e232 : Ent Tryz.prog 232 := Ent.mk Tryz.func232 rfl rfl
theorem e209 : Ent Tryz.prog 209 := Ent.mk Tryz.func209 rfl rfl
theorem e188 : Ent Tryz.prog 188 := Ent.mk Tryz.func188 rfl rfl
theorem e145 : Ent Tryz.prog 145 := Ent.mk Tryz.func145 rfl rfl
def F_r02_Xor (a1 : Wide) (b2 : Wide) : Option Wide :=
  some (⟨(a1.Hi ^^^ b2.Hi), (a1.Lo ^^^ b2.Lo)⟩ : Wide)
theorem c_r02_Xor (a1 : Wide) (b2 : Wide) (r : Wide) (h : F_r02_Xor a1 b2 = some r) : PCon Tryz.prog 233 [rd kWide a1, rd kWide b2] (rd kWide r) := by
  refine PCon.of (Con.intro0 Tryz.func233 rfl Tryz.ntmps233 rfl fun w H => ?_)
  unfold F_r02_Xor at h
  refine SR <| Ct rfl (op_box 3 rfl rfl (vt rfl)) ?_
  rintro _ ⟨g3, rfl⟩
  refine Ct rfl (op_box 4 rfl rfl (vt rfl)) ?_
  rintro _ ⟨g4, rfl⟩
  refine Ct rfl (op_alloc 5 rfl rfl zr42) ?_
  rintro _ ⟨g5, rfl⟩
  refine Nl <| SR <| FdA lWide_0 fl42_0 rfl <| Ld ty40 3 rfl <| FdA lWide_0 fl42_0 rfl <| Ld ty40 4 rfl <| Ac (op_xor rfl rfl (vt rfl) (vt rfl)) rfl <| FdA lWide_1 fl42_1 rfl <| Ld ty40 3 rfl <| FdA lWide_1 fl42_1 rfl <| Ld ty40 4 rfl <| Ac (op_xor rfl rfl (vt rfl) (vt rfl)) rfl <| Ac (op_build (ps := [(0, .tmp 9), (1, .tmp 14)]) (x := (⟨(a1.Hi ^^^ b2.Hi), (a1.Lo ^^^ b2.Lo)⟩ : Wide)) rfl rfl rfl (by kernel_rfl) zr42 ⟨_, _, lWide_0, _, by kernel_rfl, (vt rfl), _, _, lWide_1, _, by kernel_rfl, (vt rfl), rfl⟩) rfl <| Sto ty42 5 rfl <| Nl <| AW.ret ?_
  obtain rfl := si h
  exact ret1 Tryz.results233 rfl (out_cell rfl (i := 5) rfl ty42)
def F_r02_Zero (a1 : Wide) : Option Bool :=
  some ((decide (a1.Hi = (0 : BitVec 64))) && (decide (a1.Lo = (0 : BitVec 64))))
theorem c_r02_Zero (a1 : Wide) (r : Bool) (h : F_r02_Zero a1 = some r) : PCon Tryz.prog 232 [rd kWide a1] (rd kbool r) := by
  refine PCon.of (Con.intro0 Tryz.func232 rfl Tryz.ntmps232 rfl fun w H => ?_)
  unfold F_r02_Zero at h
  refine SR <| Ct rfl (op_box 2 rfl rfl (vt rfl)) ?_
  rintro _ ⟨g2, rfl⟩
  refine Ab rfl <| Nl <| SR <| FdA lWide_0 fl42_0 rfl <| Ld ty40 2 rfl <| Ac (op_eqlu rfl rfl (vt rfl) (vku (0 : BitVec 64) rfl)) rfl <| Md rfl <| Gd rfl (fun hq => op_field lWide_1 rfl rfl fl42_1 (vt rfl)) <| Gd rfl (fun hq => op_load rfl rfl ty40 (vgt rfl hq) (i := 2) rfl) <| Gd rfl (fun hq => op_eqlu rfl rfl (vgt rfl hq) (vku (0 : BitVec 64) rfl)) <| Ac (op_all rfl rfl (vt rfl) (vt rfl)) rfl <| As rfl <| Nl <| AW.ret ?_
  obtain rfl := si h
  exact ret1 Tryz.results232 rfl (out_tmp rfl)
def F_r05_Meet (a1 : Tern) (b2 : Tern) : Option (Tern × Bool) :=
  (F_r02_And a1.Mask b2.Mask).bind fun x6 => (F_r02_Xor a1.Value b2.Value).bind fun x8 => (F_r02_And x8 x6).bind fun x9 => (F_r02_Zero x9).bind fun x10 => (bif (!x10) then some ((⟨zWide, zWide⟩ : Tern), false) else (F_r05_Clean a1).bind fun x11 => (F_r05_Clean b2).bind fun x12 => (F_r02_Or x11.Value x12.Value).bind fun x13 => (F_r02_Or x11.Mask x12.Mask).bind fun x14 => some ((⟨x13, x14⟩ : Tern), true))
theorem c_r05_Meet (a1 : Tern) (b2 : Tern) (r : (Tern × Bool)) (h : F_r05_Meet a1 b2 = some r) : PCon Tryz.prog 209 [rd kTern a1, rd kTern b2] (tup2 (rd kTern r.1) (rd kbool r.2)) := by
  refine PCon.of (Con.intro0 Tryz.func209 rfl Tryz.ntmps209 rfl fun w H => ?_)
  unfold F_r05_Meet at h
  refine SR <| Ct rfl (op_box 3 rfl rfl (vt rfl)) ?_
  rintro _ ⟨g3, rfl⟩
  refine Ct rfl (op_box 4 rfl rfl (vt rfl)) ?_
  rintro _ ⟨g4, rfl⟩
  refine Ct rfl (op_alloc 5 rfl rfl zr85) ?_
  rintro _ ⟨g5, rfl⟩
  refine Ab rfl <| Nl <| AW.seq ?_
  obtain ⟨x6, hx6, h⟩ := bsome h
  refine Rg <| FdA lTern_1 fl85_1 rfl <| Ld ty42 3 rfl <| FdA lTern_1 fl85_1 rfl <| Ld ty42 4 rfl <| Cl [8, 10] (c_r02_And _ _ _ hx6) e189 rfl <| Ct rfl (op_alloc 7 rfl rfl zr42) ?_
  rintro _ ⟨g7, rfl⟩
  refine Sto ty42 7 rfl <| Nl <| AW.seq <| AW.seq ?_
  obtain ⟨x8, hx8, h⟩ := bsome h
  obtain ⟨x9, hx9, h⟩ := bsome h
  obtain ⟨x10, hx10, h⟩ := bsome h
  refine AW.regionAny [⟨[2], [12], [], []⟩, ⟨[12], [13], [3], []⟩, ⟨[3], [14], [], []⟩, ⟨[14], [15], [4], []⟩, ⟨[13, 15], [16], [], []⟩, ⟨[6], [17], [7], []⟩, ⟨[16, 17], [18], [], []⟩, ⟨[18], [19], [], []⟩, ⟨[19], [20], [], []⟩] mixed (by kernel_rfl) <| SFd lTern_0 fl85_0 rfl <| SLd ty42 3 rfl <| SFd lTern_0 fl85_0 rfl <| SLd ty42 4 rfl <| SCl [13, 15] (c_r02_Xor _ _ _ hx8) e233 rfl <| SLd ty42 7 rfl <| SCl [16, 17] (c_r02_And _ _ _ hx9) e189 rfl <| SCl [18] (c_r02_Zero _ _ hx10) e232 rfl <| Sc (lo [19] [] rfl fun S hs hr => op_not rfl rfl (vh hs 19 rfl rfl)) rfl <| Cn rfl (fun hc => ?_) (fun hc => ?_)
  · have h := cond_t hc h
    refine SR <| Ac (op_build (ps := []) (x := (⟨zWide, zWide⟩ : Tern)) rfl rfl rfl (by kernel_rfl) zr85 rfl) rfl <| Sto ty85 5 rfl <| Ab rfl <| Nl <| AW.ret ?_
    obtain rfl := si h
    exact ret2 Tryz.results209 rfl (out_cell rfl (i := 5) rfl ty85) (out_tmp rfl)
  · have h := cond_f hc h
    refine AW.skip <| AW.seq ?_
    obtain ⟨x11, hx11, h⟩ := bsome h
    obtain ⟨x12, hx12, h⟩ := bsome h
    refine AW.regionAny [⟨[2], [22], [3], []⟩, ⟨[22], [23], [], []⟩, ⟨[3], [24], [4], []⟩, ⟨[24], [25], [], []⟩, ⟨[2, 23], [], [3], [3]⟩, ⟨[3, 25], [], [4], [4]⟩] mixed (by kernel_rfl) <| SLd ty85 3 rfl <| SCl [22] (c_r05_Clean _ _ hx11) e144 rfl <| SLd ty85 4 rfl <| SCl [24] (c_r05_Clean _ _ hx12) e144 rfl <| SSt ty85 3 rfl <| SSt ty85 4 rfl <| AW.seq ?_
    obtain ⟨x13, hx13, h⟩ := bsome h
    obtain ⟨x14, hx14, h⟩ := bsome h
    refine AW.regionAny [⟨[2], [26], [], []⟩, ⟨[26], [27], [3], []⟩, ⟨[3], [28], [], []⟩, ⟨[28], [29], [4], []⟩, ⟨[27, 29], [30], [], []⟩, ⟨[2], [31], [], []⟩, ⟨[31], [32], [3], []⟩, ⟨[3], [33], [], []⟩, ⟨[33], [34], [4], []⟩, ⟨[32, 34], [35], [], []⟩, ⟨[30, 35], [36], [], []⟩, ⟨[4, 36], [], [5], [5]⟩, ⟨[], [5], [], []⟩] mixed (by kernel_rfl) <| SFd lTern_0 fl85_0 rfl <| SLd ty42 3 rfl <| SFd lTern_0 fl85_0 rfl <| SLd ty42 4 rfl <| SCl [27, 29] (c_r02_Or _ _ _ hx13) e187 rfl <| SFd lTern_1 fl85_1 rfl <| SLd ty42 3 rfl <| SFd lTern_1 fl85_1 rfl <| SLd ty42 4 rfl <| SCl [32, 34] (c_r02_Or _ _ _ hx14) e187 rfl <| Sc (lo [30, 35] [] rfl fun S hs hr => op_build (ps := [(0, .tmp 30), (1, .tmp 35)]) (x := (⟨x13, x14⟩ : Tern)) rfl rfl rfl (by kernel_rfl) zr85 ⟨_, _, lTern_0, _, by kernel_rfl, (vh hs 30 rfl rfl), _, _, lTern_1, _, by kernel_rfl, (vh hs 35 rfl rfl), rfl⟩) rfl <| SSt ty85 5 rfl <| Sc (lo [] [] rfl fun S hs hr => op_assign (A := rd kbool true) rfl rfl vb) rfl <| AW.ret ?_
    obtain rfl := si h
    exact ret2 Tryz.results209 rfl (out_cell rfl (i := 5) rfl ty85) (out_tmp rfl)
def F_r02_Less (a1 : Wide) (b2 : Wide) : Option Wide :=
  some (⟨(a1.Hi &&& ~~~b2.Hi), (a1.Lo &&& ~~~b2.Lo)⟩ : Wide)
theorem c_r02_Less (a1 : Wide) (b2 : Wide) (r : Wide) (h : F_r02_Less a1 b2 = some r) : PCon Tryz.prog 188 [rd kWide a1, rd kWide b2] (rd kWide r) := by
  refine PCon.of (Con.intro0 Tryz.func188 rfl Tryz.ntmps188 rfl fun w H => ?_)
  unfold F_r02_Less at h
  refine SR <| Ct rfl (op_box 3 rfl rfl (vt rfl)) ?_
  rintro _ ⟨g3, rfl⟩
  refine Ct rfl (op_box 4 rfl rfl (vt rfl)) ?_
  rintro _ ⟨g4, rfl⟩
  refine Ct rfl (op_alloc 5 rfl rfl zr42) ?_
  rintro _ ⟨g5, rfl⟩
  refine Nl <| SR <| FdA lWide_0 fl42_0 rfl <| Ld ty40 3 rfl <| FdA lWide_0 fl42_0 rfl <| Ld ty40 4 rfl <| Ac (op_andNot rfl rfl (vt rfl) (vt rfl)) rfl <| FdA lWide_1 fl42_1 rfl <| Ld ty40 3 rfl <| FdA lWide_1 fl42_1 rfl <| Ld ty40 4 rfl <| Ac (op_andNot rfl rfl (vt rfl) (vt rfl)) rfl <| Ac (op_build (ps := [(0, .tmp 9), (1, .tmp 14)]) (x := (⟨(a1.Hi &&& ~~~b2.Hi), (a1.Lo &&& ~~~b2.Lo)⟩ : Wide)) rfl rfl rfl (by kernel_rfl) zr42 ⟨_, _, lWide_0, _, by kernel_rfl, (vt rfl), _, _, lWide_1, _, by kernel_rfl, (vt rfl), rfl⟩) rfl <| Sto ty42 5 rfl <| Nl <| AW.ret ?_
  obtain rfl := si h
  exact ret1 Tryz.results188 rfl (out_cell rfl (i := 5) rfl ty42)
def F_r09_Before_l1 (r1 : (Vector Tern 24)) (cu2 : (Vector Tern 24)) : Nat → (Vector Tern 24) → Int → Option ((Vector Tern 24) × Bool)
  | 0, _, _ => none
  | m11 + 1, b9, f10 => (bif (decide (f10 < 24)) then (chk 24 f10).bind fun j12 => (chk 24 f10).bind fun j13 => (F_r05_Meet (Vector.get r1 j12) (Vector.get cu2 j13)).bind fun x14 => (bif (!x14.2) then some ((Vector.replicate 24 zTern), false) else (chk 24 f10).bind fun j16 => (chk 24 f10).bind fun j17 => (chk 24 f10).bind fun j18 => (F_r02_Less ((Vector.get cu2 j17).Mask) ((Vector.get r1 j18).Mask)).bind fun x19 => (F_r05_Clean (⟨(Vector.get cu2 j16).Value, x19⟩ : Tern)).bind fun x20 => (chk 24 f10).bind fun j21 => (F_r09_Before_l1 r1 cu2 m11) (Vector.set b9 j21.1 x20 j21.2) (IntKind.i64.wrap (f10 + 1))) else some (b9, true))
def F_r09_Before (r1 : (Vector Tern 24)) (cu2 : (Vector Tern 24)) : Option ((Vector Tern 24) × Bool) :=
  F_r09_Before_l1 r1 cu2 (((24 : Int) - 0).toNat + 1) (Vector.replicate 24 zTern) 0
theorem c_r09_Before (r1 : (Vector Tern 24)) (cu2 : (Vector Tern 24)) (r : ((Vector Tern 24) × Bool)) (h : F_r09_Before r1 cu2 = some r) : PCon Tryz.prog 140 [rd (karr 24 kTern) r1, rd (karr 24 kTern) cu2] (tup2 (rd (karr 24 kTern) r.1) (rd kbool r.2)) := by
  refine PCon.of (Con.intro0 Tryz.func140 rfl Tryz.ntmps140 rfl fun w H => ?_)
  unfold F_r09_Before at h
  refine SR <| Ct rfl (op_box 3 rfl rfl (vt rfl)) ?_
  rintro _ ⟨g3, rfl⟩
  refine Ct rfl (op_box 4 rfl rfl (vt rfl)) ?_
  rintro _ ⟨g4, rfl⟩
  refine Ct rfl (op_alloc 5 rfl rfl zr87) ?_
  rintro _ ⟨g5, rfl⟩
  refine Ab rfl <| Nl <| SR <| Ac (op_build (ps := []) (x := (Vector.replicate 24 zTern)) rfl rfl rfl (by kernel_rfl) zr87 rfl) rfl <| Ct rfl (op_alloc 7 rfl rfl zr87) ?_
  rintro _ ⟨g6, rfl⟩
  refine Sto ty87 7 rfl <| Nl <| AW.seq <| SR <| Ak rfl <| Nl <| AW.block <| AW.loopG (d := []) (ν := Nat × (Vector Tern 24) × Int) (fun n => True ∧ F_r09_Before_l1 r1 cu2 n.1 n.2.1 n.2.2 = some r) (fun n => n.1) (fun n => [(2, ptrL g3 (Lens.id (karr 24 kTern))), (3, ptrL g4 (Lens.id (karr 24 kTern))), (4, ptrL g5 (Lens.id (karr 24 kTern))), (6, ptrL g6 (Lens.id (karr 24 kTern))), (7, rd (kint .i64) n.2.2)]) (fun n => [(3, Blk g3 101 (karr 24 kTern) r1), (4, Blk g4 87 (karr 24 kTern) cu2), (5, Blk g5 87 (karr 24 kTern) (Vector.replicate 24 zTern)), (7, Blk g6 87 (karr 24 kTern) n.2.1)]) ((((24 : Int) - 0).toNat + 1), (Vector.replicate 24 zTern), 0) ⟨trivial, h⟩ ⟨rfl, ⟨rfl, rfl, rfl, rfl, rfl, trivial⟩, ⟨rfl, rfl, rfl, rfl, trivial⟩⟩ ?_
  rintro ⟨m11, b9, f10⟩ ⟨hsf1, h⟩
  change True at hsf1
  change F_r09_Before_l1 r1 cu2 m11 b9 f10 = some r at h
  change AW _ _ _ ⟨slots [(2, ptrL g3 (Lens.id (karr 24 kTern))), (3, ptrL g4 (Lens.id (karr 24 kTern))), (4, ptrL g5 (Lens.id (karr 24 kTern))), (6, ptrL g6 (Lens.id (karr 24 kTern))), (7, rd (kint .i64) f10)], ress [(3, Blk g3 101 (karr 24 kTern) r1), (4, Blk g4 87 (karr 24 kTern) cu2), (5, Blk g5 87 (karr 24 kTern) (Vector.replicate 24 zTern)), (7, Blk g6 87 (karr 24 kTern) b9)], _⟩
  cases m11 with
  | zero => cases h
  | succ m11 =>
    unfold F_r09_Before_l1 at h
    generalize hgo1 : F_r09_Before_l1 r1 cu2 m11 = go1 at h
    refine AW.seq <| SR <| Md rfl <| Ac (op_lss rfl rfl (vt rfl) (vk rfl)) rfl <| Nl <| Cn rfl (fun hc => ?_) (fun hc => ?_)
    · have h := cond_t hc h
      refine AW.skip <| AW.seq <| AW.block <| AW.seq <| AW.seq ?_
      obtain ⟨j12, hj12, h⟩ := bsome h
      obtain ⟨j13, hj13, h⟩ := bsome h
      obtain ⟨x14, hx14, h⟩ := bsome h
      refine AW.regionAny [⟨[7], [16], [], []⟩, ⟨[2, 16], [17], [], []⟩, ⟨[17], [18], [3], []⟩, ⟨[7], [19], [], []⟩, ⟨[3, 19], [20], [], []⟩, ⟨[20], [21], [4], []⟩, ⟨[18, 21], [22], [], []⟩, ⟨[22], [15], [], []⟩, ⟨[15], [23], [], []⟩, ⟨[15], [24], [], []⟩, ⟨[], [8], [], []⟩, ⟨[8, 23], [8], [], []⟩, ⟨[24], [9], [], []⟩] mixed (by kernel_rfl) <| SMd rfl <| Sc (lo [2, 16] [] rfl fun S hs hr => op_index' rfl rfl ar101 (vh hs 2 rfl rfl) (vh hs 16 rfl rfl) hj12) rfl <| SLd ty85 3 rfl <| SMd rfl <| Sc (lo [3, 19] [] rfl fun S hs hr => op_index' rfl rfl ar87 (vh hs 3 rfl rfl) (vh hs 19 rfl rfl) hj13) rfl <| SLd ty85 4 rfl <| SCl [18, 21] (c_r05_Meet _ _ _ hx14) e209 rfl <| Sc (lo [22] [] rfl fun S hs hr => op_move (A := tup2 (rd kTern x14.1) (rd kbool x14.2)) rfl rfl (vh hs 22 rfl rfl)) rfl <| Sc (lo [15] [] rfl fun S hs hr => op_fst rfl rfl (vh hs 15 rfl rfl)) rfl <| Sc (lo [15] [] rfl fun S hs hr => op_snd rfl rfl (vh hs 15 rfl rfl)) rfl <| Sc (locs (us := [(8, ownP 85 kTern zTern)]) (ur := []) [] [] rfl fun S hs hr => op_allocO rfl rfl rfl zr85) rfl <| Sc (locs (us := [(8, ownP 85 kTern x14.1)]) (ur := []) [8, 23] [] rfl fun S hs hr => op_storeO rfl rfl ty85 ((hs 8 rfl).trans rfl) (vh hs 23 rfl rfl)) rfl <| SAs rfl <| AW.unpackP 8 9 rfl rfl fun g15 => SR <| Md rfl <| Ac (op_not rfl rfl (vt rfl)) rfl <| Nl <| Cn rfl (fun hc => ?_) (fun hc => ?_)
      · have h := cond_t hc h
        refine SR <| Ac (op_build (ps := []) (x := (Vector.replicate 24 zTern)) rfl rfl rfl (by kernel_rfl) zr87 rfl) rfl <| Sto ty87 5 rfl <| Ab rfl <| Nl <| AW.ret ?_
        obtain rfl := si h
        exact ret2 Tryz.results140 rfl (out_cell rfl (i := 5) rfl ty87) (out_tmp rfl)
      · have h := cond_f hc h
        refine AW.skip ?_
        obtain ⟨j16, hj16, h⟩ := bsome h
        obtain ⟨j17, hj17, h⟩ := bsome h
        obtain ⟨j18, hj18, h⟩ := bsome h
        obtain ⟨x19, hx19, h⟩ := bsome h
        obtain ⟨x20, hx20, h⟩ := bsome h
        obtain ⟨j21, hj21, h⟩ := bsome h
        refine AW.regionAny [⟨[7], [28], [], []⟩, ⟨[7], [29], [], []⟩, ⟨[3, 29], [30], [], []⟩, ⟨[30], [31], [], []⟩, ⟨[31], [32], [4], []⟩, ⟨[7], [33], [], []⟩, ⟨[3, 33], [34], [], []⟩, ⟨[34], [35], [], []⟩, ⟨[35], [36], [4], []⟩, ⟨[7], [37], [], []⟩, ⟨[2, 37], [38], [], []⟩, ⟨[38], [39], [], []⟩, ⟨[39], [40], [3], []⟩, ⟨[36, 40], [41], [], []⟩, ⟨[32, 41], [42], [], []⟩, ⟨[42], [43], [], []⟩, ⟨[6, 28], [44], [], []⟩, ⟨[44, 43], [], [7], [7]⟩] mixed (by kernel_rfl) <| SMd rfl <| SMd rfl <| Sc (lo [3, 29] [] rfl fun S hs hr => op_index' rfl rfl ar87 (vh hs 3 rfl rfl) (vh hs 29 rfl rfl) hj16) rfl <| SFd lTern_0 fl85_0 rfl <| SLd ty42 4 rfl <| SMd rfl <| Sc (lo [3, 33] [] rfl fun S hs hr => op_index' rfl rfl ar87 (vh hs 3 rfl rfl) (vh hs 33 rfl rfl) hj17) rfl <| SFd lTern_1 fl85_1 rfl <| SLd ty42 4 rfl <| SMd rfl <| Sc (lo [2, 37] [] rfl fun S hs hr => op_index' rfl rfl ar101 (vh hs 2 rfl rfl) (vh hs 37 rfl rfl) hj18) rfl <| SFd lTern_1 fl85_1 rfl <| SLd ty42 3 rfl <| SCl [36, 40] (c_r02_Less _ _ _ hx19) e188 rfl <| Sc (lo [32, 41] [] rfl fun S hs hr => op_build (ps := [(0, .tmp 32), (1, .tmp 41)]) (x := (⟨(Vector.get cu2 j16).Value, x19⟩ : Tern)) rfl rfl rfl (by kernel_rfl) zr85 ⟨_, _, lTern_0, _, by kernel_rfl, (vh hs 32 rfl rfl), _, _, lTern_1, _, by kernel_rfl, (vh hs 41 rfl rfl), rfl⟩) rfl <| SCl [42] (c_r05_Clean _ _ hx20) e144 rfl <| Sc (lo [6, 28] [] rfl fun S hs hr => op_index' rfl rfl ar87 (vh hs 6 rfl rfl) (vh hs 28 rfl rfl) hj21) rfl <| SSt ty85 7 rfl <| Rg <| Md rfl <| Ac (op_add rfl rfl (vt rfl) (vk rfl)) rfl <| As rfl <| Nl ?_
        subst hgo1
        exact ⟨(m11, (Vector.set b9 j21.1 x20 j21.2), (IntKind.i64.wrap (f10 + 1))), Nat.lt_succ_self _, ⟨trivial, h⟩, ⟨rfl, ⟨rfl, rfl, rfl, rfl, rfl, trivial⟩, ⟨rfl, rfl, rfl, rfl, trivial⟩⟩⟩
    · have h := cond_f hc h
      refine AW.exit <| SR <| Ld ty87 7 rfl <| Sto ty87 5 rfl <| Ab rfl <| Nl <| AW.ret ?_
      obtain rfl := si h
      exact ret2 Tryz.results140 rfl (out_cell rfl (i := 5) rfl ty87) (out_tmp rfl)
def F_r06_Meet_l1 (a1 : (Vector Tern 24)) (b2 : (Vector Tern 24)) : Nat → (Vector Tern 24) → Int → Option ((Vector Tern 24) × Bool)
  | 0, _, _ => none
  | m11 + 1, b9, f10 => (bif (decide (f10 < 24)) then (chk 24 f10).bind fun j12 => (chk 24 f10).bind fun j13 => (F_r05_Meet (Vector.get a1 j12) (Vector.get b2 j13)).bind fun x14 => (bif (!x14.2) then some ((Vector.replicate 24 zTern), false) else (chk 24 f10).bind fun j16 => (F_r06_Meet_l1 a1 b2 m11) (Vector.set b9 j16.1 x14.1 j16.2) (IntKind.i64.wrap (f10 + 1))) else some (b9, true))
def F_r06_Meet (a1 : (Vector Tern 24)) (b2 : (Vector Tern 24)) : Option ((Vector Tern 24) × Bool) :=
  F_r06_Meet_l1 a1 b2 (((24 : Int) - 0).toNat + 1) (Vector.replicate 24 zTern) 0
theorem c_r06_Meet (a1 : (Vector Tern 24)) (b2 : (Vector Tern 24)) (r : ((Vector Tern 24) × Bool)) (h : F_r06_Meet a1 b2 = some r) : PCon Tryz.prog 142 [rd (karr 24 kTern) a1, rd (karr 24 kTern) b2] (tup2 (rd (karr 24 kTern) r.1) (rd kbool r.2)) := by
  refine PCon.of (Con.intro0 Tryz.func142 rfl Tryz.ntmps142 rfl fun w H => ?_)
  unfold F_r06_Meet at h
  refine SR <| Ct rfl (op_box 3 rfl rfl (vt rfl)) ?_
  rintro _ ⟨g3, rfl⟩
  refine Ct rfl (op_box 4 rfl rfl (vt rfl)) ?_
  rintro _ ⟨g4, rfl⟩
  refine Ct rfl (op_alloc 5 rfl rfl zr87) ?_
  rintro _ ⟨g5, rfl⟩
  refine Ab rfl <| Nl <| SR <| Ac (op_build (ps := []) (x := (Vector.replicate 24 zTern)) rfl rfl rfl (by kernel_rfl) zr87 rfl) rfl <| Ct rfl (op_alloc 7 rfl rfl zr87) ?_
  rintro _ ⟨g6, rfl⟩
  refine Sto ty87 7 rfl <| Nl <| AW.seq <| SR <| Ak rfl <| Nl <| AW.block <| AW.loopG (d := []) (ν := Nat × (Vector Tern 24) × Int) (fun n => True ∧ F_r06_Meet_l1 a1 b2 n.1 n.2.1 n.2.2 = some r) (fun n => n.1) (fun n => [(2, ptrL g3 (Lens.id (karr 24 kTern))), (3, ptrL g4 (Lens.id (karr 24 kTern))), (4, ptrL g5 (Lens.id (karr 24 kTern))), (6, ptrL g6 (Lens.id (karr 24 kTern))), (7, rd (kint .i64) n.2.2)]) (fun n => [(3, Blk g3 87 (karr 24 kTern) a1), (4, Blk g4 87 (karr 24 kTern) b2), (5, Blk g5 87 (karr 24 kTern) (Vector.replicate 24 zTern)), (7, Blk g6 87 (karr 24 kTern) n.2.1)]) ((((24 : Int) - 0).toNat + 1), (Vector.replicate 24 zTern), 0) ⟨trivial, h⟩ ⟨rfl, ⟨rfl, rfl, rfl, rfl, rfl, trivial⟩, ⟨rfl, rfl, rfl, rfl, trivial⟩⟩ ?_
  rintro ⟨m11, b9, f10⟩ ⟨hsf1, h⟩
  change True at hsf1
  change F_r06_Meet_l1 a1 b2 m11 b9 f10 = some r at h
  change AW _ _ _ ⟨slots [(2, ptrL g3 (Lens.id (karr 24 kTern))), (3, ptrL g4 (Lens.id (karr 24 kTern))), (4, ptrL g5 (Lens.id (karr 24 kTern))), (6, ptrL g6 (Lens.id (karr 24 kTern))), (7, rd (kint .i64) f10)], ress [(3, Blk g3 87 (karr 24 kTern) a1), (4, Blk g4 87 (karr 24 kTern) b2), (5, Blk g5 87 (karr 24 kTern) (Vector.replicate 24 zTern)), (7, Blk g6 87 (karr 24 kTern) b9)], _⟩
  cases m11 with
  | zero => cases h
  | succ m11 =>
    unfold F_r06_Meet_l1 at h
    generalize hgo1 : F_r06_Meet_l1 a1 b2 m11 = go1 at h
    refine AW.seq <| SR <| Md rfl <| Ac (op_lss rfl rfl (vt rfl) (vk rfl)) rfl <| Nl <| Cn rfl (fun hc => ?_) (fun hc => ?_)
    · have h := cond_t hc h
      refine AW.skip <| AW.seq <| AW.block <| AW.seq ?_
      obtain ⟨j12, hj12, h⟩ := bsome h
      obtain ⟨j13, hj13, h⟩ := bsome h
      obtain ⟨x14, hx14, h⟩ := bsome h
      refine AW.regionAny [⟨[7], [16], [], []⟩, ⟨[2, 16], [17], [], []⟩, ⟨[17], [18], [3], []⟩, ⟨[7], [19], [], []⟩, ⟨[3, 19], [20], [], []⟩, ⟨[20], [21], [4], []⟩, ⟨[18, 21], [22], [], []⟩, ⟨[22], [15], [], []⟩, ⟨[15], [23], [], []⟩, ⟨[15], [24], [], []⟩, ⟨[], [8], [], []⟩, ⟨[8, 23], [8], [], []⟩, ⟨[24], [9], [], []⟩] mixed (by kernel_rfl) <| SMd rfl <| Sc (lo [2, 16] [] rfl fun S hs hr => op_index' rfl rfl ar87 (vh hs 2 rfl rfl) (vh hs 16 rfl rfl) hj12) rfl <| SLd ty85 3 rfl <| SMd rfl <| Sc (lo [3, 19] [] rfl fun S hs hr => op_index' rfl rfl ar87 (vh hs 3 rfl rfl) (vh hs 19 rfl rfl) hj13) rfl <| SLd ty85 4 rfl <| SCl [18, 21] (c_r05_Meet _ _ _ hx14) e209 rfl <| Sc (lo [22] [] rfl fun S hs hr => op_move (A := tup2 (rd kTern x14.1) (rd kbool x14.2)) rfl rfl (vh hs 22 rfl rfl)) rfl <| Sc (lo [15] [] rfl fun S hs hr => op_fst rfl rfl (vh hs 15 rfl rfl)) rfl <| Sc (lo [15] [] rfl fun S hs hr => op_snd rfl rfl (vh hs 15 rfl rfl)) rfl <| Sc (locs (us := [(8, ownP 85 kTern zTern)]) (ur := []) [] [] rfl fun S hs hr => op_allocO rfl rfl rfl zr85) rfl <| Sc (locs (us := [(8, ownP 85 kTern x14.1)]) (ur := []) [8, 23] [] rfl fun S hs hr => op_storeO rfl rfl ty85 ((hs 8 rfl).trans rfl) (vh hs 23 rfl rfl)) rfl <| SAs rfl <| AW.unpackP 8 9 rfl rfl fun g15 => AW.seq <| SR <| Md rfl <| Ac (op_not rfl rfl (vt rfl)) rfl <| Nl <| Cn rfl (fun hc => ?_) (fun hc => ?_)
      · have h := cond_t hc h
        refine SR <| Ac (op_build (ps := []) (x := (Vector.replicate 24 zTern)) rfl rfl rfl (by kernel_rfl) zr87 rfl) rfl <| Sto ty87 5 rfl <| Ab rfl <| Nl <| AW.ret ?_
        obtain rfl := si h
        exact ret2 Tryz.results142 rfl (out_cell rfl (i := 5) rfl ty87) (out_tmp rfl)
      · have h := cond_f hc h
        refine AW.skip ?_
        obtain ⟨j16, hj16, h⟩ := bsome h
        refine Rg <| Md rfl <| Ld ty85 9 rfl <| Ac (op_index' rfl rfl ar87 (vt rfl) (vt rfl) hj16) rfl <| Sto ty85 7 rfl <| Nl <| Rg <| Md rfl <| Ac (op_add rfl rfl (vt rfl) (vk rfl)) rfl <| As rfl <| Nl ?_
        subst hgo1
        exact ⟨(m11, (Vector.set b9 j16.1 x14.1 j16.2), (IntKind.i64.wrap (f10 + 1))), Nat.lt_succ_self _, ⟨trivial, h⟩, ⟨rfl, ⟨rfl, rfl, rfl, rfl, rfl, trivial⟩, ⟨rfl, rfl, rfl, rfl, trivial⟩⟩⟩
    · have h := cond_f hc h
      refine AW.exit <| SR <| Ld ty87 7 rfl <| Sto ty87 5 rfl <| Ab rfl <| Nl <| AW.ret ?_
      obtain rfl := si h
      exact ret2 Tryz.results142 rfl (out_cell rfl (i := 5) rfl ty87) (out_tmp rfl)
def F_r14_Of_l1 (l1 : (List Inst)) (kind2 : Int) : Nat → Int → Option (Inst × Bool)
  | 0, _ => none
  | m6 + 1, i5 => (bif (decide (i5 < (l1.length : Int))) then (lget l1 i5).bind fun e7 => (bif (decide (e7.Kind = kind2)) then (lget l1 i5).bind fun e8 => some (e8, true) else (F_r14_Of_l1 l1 kind2 m6) (IntKind.i64.wrap (i5 + 1))) else some ((⟨0, 0, zWide, zWide, []⟩ : Inst), false))
def F_r14_Of (l1 : (List Inst)) (kind2 : Int) : Option (Inst × Bool) :=
  F_r14_Of_l1 l1 kind2 ((((l1.length : Int) : Int) - 0).toNat + 1) 0
theorem c_r14_Of (l1 : (List Inst)) (kind2 : Int) (r : (Inst × Bool)) (h : F_r14_Of l1 kind2 = some r) : PCon Tryz.prog 151 [rd (ksl kInst) l1, rd (kint .i64) kind2] (tup2 (rd kInst r.1) (rd kbool r.2)) := by
  refine PCon.of (Con.intro0 Tryz.func151 rfl Tryz.ntmps151 rfl fun w H => ?_)
  unfold F_r14_Of at h
  refine SR <| Ct rfl (op_alloc 5 rfl rfl zr124) ?_
  rintro _ ⟨g3, rfl⟩
  refine Ab rfl <| Nl <| AW.seq <| SR <| Ak rfl <| Nl <| AW.block <| AW.loopG (d := []) (ν := Nat × Int) (fun n => True ∧ F_r14_Of_l1 l1 kind2 n.1 n.2 = some r) (fun n => n.1) (fun n => [(0, rd (ksl kInst) l1), (1, rd (kint .i64) kind2), (4, ptrL g3 (Lens.id kInst)), (6, rd (kint .i64) n.2)]) (fun n => [(5, Blk g3 124 kInst zInst)]) (((((l1.length : Int) : Int) - 0).toNat + 1), 0) ⟨trivial, h⟩ ⟨rfl, ⟨rfl, rfl, rfl, rfl, trivial⟩, ⟨rfl, trivial⟩⟩ ?_
  rintro ⟨m6, i5⟩ ⟨hsf1, h⟩
  change True at hsf1
  change F_r14_Of_l1 l1 kind2 m6 i5 = some r at h
  change AW _ _ _ ⟨slots [(0, rd (ksl kInst) l1), (1, rd (kint .i64) kind2), (4, ptrL g3 (Lens.id kInst)), (6, rd (kint .i64) i5)], ress [(5, Blk g3 124 kInst zInst)], _⟩
  cases m6 with
  | zero => cases h
  | succ m6 =>
    unfold F_r14_Of_l1 at h
    generalize hgo1 : F_r14_Of_l1 l1 kind2 m6 = go1 at h
    refine AW.seq <| SR <| Md rfl <| Md rfl <| Ac (op_len' rfl rfl sl59 (vt rfl)) rfl <| Ac (op_lss rfl rfl (vt rfl) (vt rfl)) rfl <| Nl <| Cn rfl (fun hc => ?_) (fun hc => ?_)
    · have h := cond_t hc h
      refine AW.skip <| AW.seq <| AW.block <| AW.seq ?_
      obtain ⟨e7, he7, h⟩ := bsome h
      refine Rg <| Md rfl <| Md rfl <| Ac (op_indexs' rfl rfl sl59 (vt rfl) (vt rfl) he7) rfl <| Fp lInst_0 fl124_0 rfl <| Lp1 ty3 rfl <| Md rfl <| Ac (op_eql rfl rfl (vt rfl) (vt rfl)) rfl <| Nl <| Cn rfl (fun hc => ?_) (fun hc => ?_)
      · have h := cond_t hc h
        refine AW.seq ?_
        obtain ⟨e8, he8, h⟩ := bsome h
        refine Rg <| Md rfl <| Md rfl <| Ac (op_indexs' rfl rfl sl59 (vt rfl) (vt rfl) he8) rfl <| Lp1 ty124 rfl <| Sto ty124 5 rfl <| Ab rfl <| Nl <| AW.ret ?_
        obtain rfl := si h
        exact ret2 Tryz.results151 rfl (out_cell rfl (i := 5) rfl ty124) (out_tmp rfl)
      · have h := cond_f hc h
        refine AW.skip <| Rg <| Md rfl <| Ac (op_add rfl rfl (vt rfl) (vk rfl)) rfl <| As rfl <| Nl ?_
        subst hgo1
        exact ⟨(m6, (IntKind.i64.wrap (i5 + 1))), Nat.lt_succ_self _, ⟨trivial, h⟩, ⟨rfl, ⟨rfl, rfl, rfl, rfl, trivial⟩, ⟨rfl, trivial⟩⟩⟩
    · have h := cond_f hc h
      refine AW.exit <| SR <| Ac (op_build (ps := []) (x := (⟨0, 0, zWide, zWide, []⟩ : Inst)) rfl rfl rfl (by kernel_rfl) zr124 rfl) rfl <| Sto ty124 5 rfl <| Ab rfl <| Nl <| AW.ret ?_
      obtain rfl := si h
      exact ret2 Tryz.results151 rfl (out_cell rfl (i := 5) rfl ty124) (out_tmp rfl)
def F_r09_Clean_l1 : Nat → (Vector Tern 24) → Int → Option (Vector Tern 24)
  | 0, _, _ => none
  | m8 + 1, b6, f7 => (bif (decide (f7 < 24)) then (chk 24 f7).bind fun j9 => (F_r05_Clean (Vector.get b6 j9)).bind fun x10 => (chk 24 f7).bind fun j11 => (F_r09_Clean_l1 m8) (Vector.set b6 j11.1 x10 j11.2) (IntKind.i64.wrap (f7 + 1)) else some b6)
def F_r09_Clean (r1 : (Vector Tern 24)) : Option (Vector Tern 24) :=
  F_r09_Clean_l1 (((24 : Int) - 0).toNat + 1) r1 0
theorem c_r09_Clean (r1 : (Vector Tern 24)) (r : (Vector Tern 24)) (h : F_r09_Clean r1 = some r) : PCon Tryz.prog 145 [rd (karr 24 kTern) r1] (rd (karr 24 kTern) r) := by
  refine PCon.of (Con.intro0 Tryz.func145 rfl Tryz.ntmps145 rfl fun w H => ?_)
  unfold F_r09_Clean at h
  refine SR <| Ct rfl (op_box 2 rfl rfl (vt rfl)) ?_
  rintro _ ⟨g2, rfl⟩
  refine Ct rfl (op_alloc 3 rfl rfl zr101) ?_
  rintro _ ⟨g3, rfl⟩
  refine Nl <| AW.seq <| SR <| Ak rfl <| Nl <| AW.block <| AW.loopG (d := []) (ν := Nat × (Vector Tern 24) × Int) (fun n => True ∧ F_r09_Clean_l1 n.1 n.2.1 n.2.2 = some r) (fun n => n.1) (fun n => [(1, ptrL g2 (Lens.id (karr 24 kTern))), (2, ptrL g3 (Lens.id (karr 24 kTern))), (3, rd (kint .i64) n.2.2)]) (fun n => [(2, Blk g2 101 (karr 24 kTern) n.2.1), (3, Blk g3 101 (karr 24 kTern) (Vector.replicate 24 zTern))]) ((((24 : Int) - 0).toNat + 1), r1, 0) ⟨trivial, h⟩ ⟨rfl, ⟨rfl, rfl, rfl, trivial⟩, ⟨rfl, rfl, trivial⟩⟩ ?_
  rintro ⟨m8, b6, f7⟩ ⟨hsf1, h⟩
  change True at hsf1
  change F_r09_Clean_l1 m8 b6 f7 = some r at h
  change AW _ _ _ ⟨slots [(1, ptrL g2 (Lens.id (karr 24 kTern))), (2, ptrL g3 (Lens.id (karr 24 kTern))), (3, rd (kint .i64) f7)], ress [(2, Blk g2 101 (karr 24 kTern) b6), (3, Blk g3 101 (karr 24 kTern) (Vector.replicate 24 zTern))], _⟩
  cases m8 with
  | zero => cases h
  | succ m8 =>
    unfold F_r09_Clean_l1 at h
    generalize hgo1 : F_r09_Clean_l1 m8 = go1 at h
    refine AW.seq <| SR <| Md rfl <| Ac (op_lss rfl rfl (vt rfl) (vk rfl)) rfl <| Nl <| Cn rfl (fun hc => ?_) (fun hc => ?_)
    · have h := cond_t hc h
      refine AW.skip <| AW.seq <| AW.block ?_
      obtain ⟨j9, hj9, h⟩ := bsome h
      obtain ⟨x10, hx10, h⟩ := bsome h
      obtain ⟨j11, hj11, h⟩ := bsome h
      refine Rg <| Md rfl <| Md rfl <| Ac (op_index' rfl rfl ar101 (vt rfl) (vt rfl) hj9) rfl <| Ld ty85 2 rfl <| Cl [11] (c_r05_Clean _ _ hx10) e144 rfl <| Ac (op_index' rfl rfl ar101 (vt rfl) (vt rfl) hj11) rfl <| Sto ty85 2 rfl <| Nl <| Rg <| Md rfl <| Ac (op_add rfl rfl (vt rfl) (vk rfl)) rfl <| As rfl <| Nl ?_
      subst hgo1
      exact ⟨(m8, (Vector.set b6 j11.1 x10 j11.2), (IntKind.i64.wrap (f7 + 1))), Nat.lt_succ_self _, ⟨trivial, h⟩, ⟨rfl, ⟨rfl, rfl, rfl, trivial⟩, ⟨rfl, rfl, trivial⟩⟩⟩
    · have h := cond_f hc h
      refine AW.exit <| SR <| Ld ty101 2 rfl <| Sto ty101 3 rfl <| Nl <| AW.ret ?_
      obtain rfl := si h
      exact ret1 Tryz.results145 rfl (out_cell rfl (i := 3) rfl ty101)
def F_r09_Then_l1 (x7 : (Vector Tern 24)) : Nat → (Vector Tern 24) → Int → Option (Vector Tern 24)
  | 0, _, _ => none
  | m12 + 1, b10, f11 => (bif (decide (f11 < 24)) then (chk 24 f11).bind fun j13 => (chk 24 f11).bind fun j14 => (F_r02_Less ((Vector.get b10 j13).Value) ((Vector.get x7 j14).Mask)).bind fun x15 => (chk 24 f11).bind fun j16 => (F_r02_Or x15 ((Vector.get x7 j16).Value)).bind fun x17 => (chk 24 f11).bind fun j18 => (chk 24 f11).bind fun j19 => (F_r02_Or ((Vector.get b10 j18).Mask) ((Vector.get x7 j19).Mask)).bind fun x20 => (chk 24 f11).bind fun j21 => (F_r09_Then_l1 x7 m12) (Vector.set b10 j21.1 (⟨x17, x20⟩ : Tern) j21.2) (IntKind.i64.wrap (f11 + 1)) else some b10)
def F_r09_Then (a1 : (Vector Tern 24)) (b2 : (Vector Tern 24)) : Option (Vector Tern 24) :=
  (F_r09_Clean a1).bind fun x6 => (F_r09_Clean b2).bind fun x7 => F_r09_Then_l1 x7 (((24 : Int) - 0).toNat + 1) x6 0
theorem c_r09_Then (a1 : (Vector Tern 24)) (b2 : (Vector Tern 24)) (r : (Vector Tern 24)) (h : F_r09_Then a1 b2 = some r) : PCon Tryz.prog 226 [rd (karr 24 kTern) a1, rd (karr 24 kTern) b2] (rd (karr 24 kTern) r) := by
  refine PCon.of (Con.intro0 Tryz.func226 rfl Tryz.ntmps226 rfl fun w H => ?_)
  unfold F_r09_Then at h
  refine SR <| Ct rfl (op_box 3 rfl rfl (vt rfl)) ?_
  rintro _ ⟨g3, rfl⟩
  refine Ct rfl (op_box 4 rfl rfl (vt rfl)) ?_
  rintro _ ⟨g4, rfl⟩
  refine Ct rfl (op_alloc 5 rfl rfl zr101) ?_
  rintro _ ⟨g5, rfl⟩
  refine Nl <| AW.seq ?_
  obtain ⟨x6, hx6, h⟩ := bsome h
  obtain ⟨x7, hx7, h⟩ := bsome h
  refine AW.regionAny [⟨[2], [6], [3], []⟩, ⟨[6], [7], [], []⟩, ⟨[3], [8], [4], []⟩, ⟨[8], [9], [], []⟩, ⟨[2, 7], [], [3], [3]⟩, ⟨[3, 9], [], [4], [4]⟩] mixed (by kernel_rfl) <| SLd ty101 3 rfl <| SCl [6] (c_r09_Clean _ _ hx6) e145 rfl <| SLd ty101 4 rfl <| SCl [8] (c_r09_Clean _ _ hx7) e145 rfl <| SSt ty101 3 rfl <| SSt ty101 4 rfl <| AW.seq <| SR <| Ak rfl <| Nl <| AW.block <| AW.loopG (d := []) (ν := Nat × (Vector Tern 24) × Int) (fun n => True ∧ F_r09_Then_l1 x7 n.1 n.2.1 n.2.2 = some r) (fun n => n.1) (fun n => [(2, ptrL g3 (Lens.id (karr 24 kTern))), (3, ptrL g4 (Lens.id (karr 24 kTern))), (4, ptrL g5 (Lens.id (karr 24 kTern))), (5, rd (kint .i64) n.2.2)]) (fun n => [(3, Blk g3 101 (karr 24 kTern) n.2.1), (4, Blk g4 101 (karr 24 kTern) x7), (5, Blk g5 101 (karr 24 kTern) (Vector.replicate 24 zTern))]) ((((24 : Int) - 0).toNat + 1), x6, 0) ⟨trivial, h⟩ ⟨rfl, ⟨rfl, rfl, rfl, rfl, trivial⟩, ⟨rfl, rfl, rfl, trivial⟩⟩ ?_
  rintro ⟨m12, b10, f11⟩ ⟨hsf1, h⟩
  change True at hsf1
  change F_r09_Then_l1 x7 m12 b10 f11 = some r at h
  change AW _ _ _ ⟨slots [(2, ptrL g3 (Lens.id (karr 24 kTern))), (3, ptrL g4 (Lens.id (karr 24 kTern))), (4, ptrL g5 (Lens.id (karr 24 kTern))), (5, rd (kint .i64) f11)], ress [(3, Blk g3 101 (karr 24 kTern) b10), (4, Blk g4 101 (karr 24 kTern) x7), (5, Blk g5 101 (karr 24 kTern) (Vector.replicate 24 zTern))], _⟩
  cases m12 with
  | zero => cases h
  | succ m12 =>
    unfold F_r09_Then_l1 at h
    generalize hgo1 : F_r09_Then_l1 x7 m12 = go1 at h
    refine AW.seq <| SR <| Md rfl <| Ac (op_lss rfl rfl (vt rfl) (vk rfl)) rfl <| Nl <| Cn rfl (fun hc => ?_) (fun hc => ?_)
    · have h := cond_t hc h
      refine AW.skip <| AW.seq <| AW.block ?_
      obtain ⟨j13, hj13, h⟩ := bsome h
      obtain ⟨j14, hj14, h⟩ := bsome h
      obtain ⟨x15, hx15, h⟩ := bsome h
      obtain ⟨j16, hj16, h⟩ := bsome h
      obtain ⟨x17, hx17, h⟩ := bsome h
      obtain ⟨j18, hj18, h⟩ := bsome h
      obtain ⟨j19, hj19, h⟩ := bsome h
      obtain ⟨x20, hx20, h⟩ := bsome h
      obtain ⟨j21, hj21, h⟩ := bsome h
      refine AW.regionAny [⟨[5], [14], [], []⟩, ⟨[5], [15], [], []⟩, ⟨[2, 15], [16], [], []⟩, ⟨[16], [17], [], []⟩, ⟨[17], [18], [3], []⟩, ⟨[5], [19], [], []⟩, ⟨[3, 19], [20], [], []⟩, ⟨[20], [21], [], []⟩, ⟨[21], [22], [4], []⟩, ⟨[18, 22], [23], [], []⟩, ⟨[5], [24], [], []⟩, ⟨[3, 24], [25], [], []⟩, ⟨[25], [26], [], []⟩, ⟨[26], [27], [4], []⟩, ⟨[23, 27], [28], [], []⟩, ⟨[5], [29], [], []⟩, ⟨[2, 29], [30], [], []⟩, ⟨[30], [31], [], []⟩, ⟨[31], [32], [3], []⟩, ⟨[5], [33], [], []⟩, ⟨[3, 33], [34], [], []⟩, ⟨[34], [35], [], []⟩, ⟨[35], [36], [4], []⟩, ⟨[32, 36], [37], [], []⟩, ⟨[28, 37], [38], [], []⟩, ⟨[2, 14], [39], [], []⟩, ⟨[39, 38], [], [3], [3]⟩] mixed (by kernel_rfl) <| SMd rfl <| SMd rfl <| Sc (lo [2, 15] [] rfl fun S hs hr => op_index' rfl rfl ar101 (vh hs 2 rfl rfl) (vh hs 15 rfl rfl) hj13) rfl <| SFd lTern_0 fl85_0 rfl <| SLd ty42 3 rfl <| SMd rfl <| Sc (lo [3, 19] [] rfl fun S hs hr => op_index' rfl rfl ar101 (vh hs 3 rfl rfl) (vh hs 19 rfl rfl) hj14) rfl <| SFd lTern_1 fl85_1 rfl <| SLd ty42 4 rfl <| SCl [18, 22] (c_r02_Less _ _ _ hx15) e188 rfl <| SMd rfl <| Sc (lo [3, 24] [] rfl fun S hs hr => op_index' rfl rfl ar101 (vh hs 3 rfl rfl) (vh hs 24 rfl rfl) hj16) rfl <| SFd lTern_0 fl85_0 rfl <| SLd ty42 4 rfl <| SCl [23, 27] (c_r02_Or _ _ _ hx17) e187 rfl <| SMd rfl <| Sc (lo [2, 29] [] rfl fun S hs hr => op_index' rfl rfl ar101 (vh hs 2 rfl rfl) (vh hs 29 rfl rfl) hj18) rfl <| SFd lTern_1 fl85_1 rfl <| SLd ty42 3 rfl <| SMd rfl <| Sc (lo [3, 33] [] rfl fun S hs hr => op_index' rfl rfl ar101 (vh hs 3 rfl rfl) (vh hs 33 rfl rfl) hj19) rfl <| SFd lTern_1 fl85_1 rfl <| SLd ty42 4 rfl <| SCl [32, 36] (c_r02_Or _ _ _ hx20) e187 rfl <| Sc (lo [28, 37] [] rfl fun S hs hr => op_build (ps := [(0, .tmp 28), (1, .tmp 37)]) (x := (⟨x17, x20⟩ : Tern)) rfl rfl rfl (by kernel_rfl) zr85 ⟨_, _, lTern_0, _, by kernel_rfl, (vh hs 28 rfl rfl), _, _, lTern_1, _, by kernel_rfl, (vh hs 37 rfl rfl), rfl⟩) rfl <| Sc (lo [2, 14] [] rfl fun S hs hr => op_index' rfl rfl ar101 (vh hs 2 rfl rfl) (vh hs 14 rfl rfl) hj21) rfl <| SSt ty85 3 rfl <| Rg <| Md rfl <| Ac (op_add rfl rfl (vt rfl) (vk rfl)) rfl <| As rfl <| Nl ?_
      subst hgo1
      exact ⟨(m12, (Vector.set b10 j21.1 (⟨x17, x20⟩ : Tern) j21.2), (IntKind.i64.wrap (f11 + 1))), Nat.lt_succ_self _, ⟨trivial, h⟩, ⟨rfl, ⟨rfl, rfl, rfl, rfl, trivial⟩, ⟨rfl, rfl, rfl, trivial⟩⟩⟩
    · have h := cond_f hc h
      refine AW.exit <| SR <| Ld ty101 3 rfl <| Sto ty101 5 rfl <| Nl <| AW.ret ?_
      obtain rfl := si h
      exact ret1 Tryz.results226 rfl (out_cell rfl (i := 5) rfl ty101)
end Go.Proofs.YtknpgojdkobgjaaGreat.W
set_option linter.unusedVariables false
set_option maxRecDepth 4000
set_option linter.unusedSimpArgs false
namespace Go.Proofs.YtknpgojdkobgjaaGreat.W
open Go Go.Wb
theorem e226 : Ent Tryz.prog 226 := Ent.mk Tryz.func226 rfl rfl
theorem e80 : Ent Tryz.prog 80 := Ent.mk Tryz.func80 rfl rfl
theorem e154 : Ent Tryz.prog 154 := Ent.mk Tryz.func154 rfl rfl
theorem e272 : Ent Tryz.prog 272 := Ent.mk Tryz.func272 rfl rfl
theorem e224 : Ent Tryz.prog 224 := Ent.mk Tryz.func224 rfl rfl
theorem e227 : Ent Tryz.prog 227 := Ent.mk Tryz.func227 rfl rfl
theorem e228 : Ent Tryz.prog 228 := Ent.mk Tryz.func228 rfl rfl
theorem e139 : Ent Tryz.prog 139 := Ent.mk Tryz.func139 rfl rfl
theorem e141 : Ent Tryz.prog 141 := Ent.mk Tryz.func141 rfl rfl
theorem e140 : Ent Tryz.prog 140 := Ent.mk Tryz.func140 rfl rfl
theorem e142 : Ent Tryz.prog 142 := Ent.mk Tryz.func142 rfl rfl
theorem e143 : Ent Tryz.prog 143 := Ent.mk Tryz.func143 rfl rfl
def F_r09_Set_j1 (r1 : (Vector Tern 24)) (b10 : (Vector Tern 24)) : Option (Vector Tern 24) :=
  (F_r09_Then r1 b10).bind fun x11 => some x11
def F_r09_Set (r1 : (Vector Tern 24)) (f2 : Int) (value3 : Wide) (mask4 : Wide) : Option (Vector Tern 24) :=
  (F_r03_Right f2).bind fun x12 => (bif x12 then (chk 24 f2).bind fun j13 => F_r09_Set_j1 r1 (Vector.set (Vector.replicate 24 zTern) j13.1 (⟨value3, mask4⟩ : Tern) j13.2) else F_r09_Set_j1 r1 (Vector.replicate 24 zTern))
theorem c_r09_Set (r1 : (Vector Tern 24)) (f2 : Int) (value3 : Wide) (mask4 : Wide) (r : (Vector Tern 24)) (h : F_r09_Set r1 f2 value3 mask4 = some r) : PCon Tryz.prog 154 [rd (karr 24 kTern) r1, rd (kint .i64) f2, rd kWide value3, rd kWide mask4] (rd (karr 24 kTern) r) := by
  refine PCon.of (Con.intro0 Tryz.func154 rfl Tryz.ntmps154 rfl fun w H => ?_)
  unfold F_r09_Set at h
  refine SR <| Ct rfl (op_box 5 rfl rfl (vt rfl)) ?_
  rintro _ ⟨g5, rfl⟩
  refine Ct rfl (op_box 7 rfl rfl (vt rfl)) ?_
  rintro _ ⟨g6, rfl⟩
  refine Ct rfl (op_box 8 rfl rfl (vt rfl)) ?_
  rintro _ ⟨g7, rfl⟩
  refine Ct rfl (op_alloc 9 rfl rfl zr101) ?_
  rintro _ ⟨g8, rfl⟩
  refine Nl <| SR <| Ac (op_build (ps := []) (x := (Vector.replicate 24 zTern)) rfl rfl rfl (by kernel_rfl) zr101 rfl) rfl <| Ct rfl (op_alloc 10 rfl rfl zr101) ?_
  rintro _ ⟨g9, rfl⟩
  refine Sto ty101 10 rfl <| Nl ?_
  refine AW.join (d := []) (ν := (Vector Tern 24)) (fun n => F_r09_Set_j1 r1 n = some r) (fun n => [(4, ptrL g5 (Lens.id (karr 24 kTern))), (8, ptrL g8 (Lens.id (karr 24 kTern))), (9, ptrL g9 (Lens.id (karr 24 kTern)))]) (fun n => [(5, Blk g5 101 (karr 24 kTern) r1), (9, Blk g8 101 (karr 24 kTern) (Vector.replicate 24 zTern)), (10, Blk g9 101 (karr 24 kTern) n)]) ?hx1 ?hy1
  case hy1 =>
    intro b10 h
    unfold F_r09_Set_j1 at h
    change AW _ _ _ ⟨slots [(4, ptrL g5 (Lens.id (karr 24 kTern))), (8, ptrL g8 (Lens.id (karr 24 kTern))), (9, ptrL g9 (Lens.id (karr 24 kTern)))], ress [(5, Blk g5 101 (karr 24 kTern) r1), (9, Blk g8 101 (karr 24 kTern) (Vector.replicate 24 zTern)), (10, Blk g9 101 (karr 24 kTern) b10)], _⟩
    refine AW.seq ?_
    obtain ⟨x11, hx11, h⟩ := bsome h
    refine Rg <| Ld ty101 5 rfl <| Ld ty101 10 rfl <| Cl [18, 19] (c_r09_Then _ _ _ hx11) e226 rfl <| Sto ty101 9 rfl <| Nl <| AW.ret ?_
    obtain rfl := si h
    exact ret1 Tryz.results154 rfl (out_cell rfl (i := 9) rfl ty101)
  case hx1 =>
    refine AW.seq ?_
    obtain ⟨x12, hx12, h⟩ := bsome h
    refine Rg <| Md rfl <| Cl [11] (c_r03_Right _ _ hx12) e225 rfl <| Nl <| Cn rfl (fun hc => ?_) (fun hc => ?_)
    · have h := cond_t hc h
      obtain ⟨j13, hj13, h⟩ := bsome h
      refine Rg <| Md rfl <| Ld ty42 7 rfl <| Ld ty42 8 rfl <| Ac (op_build (ps := [(0, .tmp 14), (1, .tmp 15)]) (x := (⟨value3, mask4⟩ : Tern)) rfl rfl rfl (by kernel_rfl) zr85 ⟨_, _, lTern_0, _, by kernel_rfl, (vt rfl), _, _, lTern_1, _, by kernel_rfl, (vt rfl), rfl⟩) rfl <| Ac (op_index' rfl rfl ar101 (vt rfl) (vt rfl) hj13) rfl <| Sto ty85 10 rfl <| Nl ?_
      exact ⟨(Vector.set (Vector.replicate 24 zTern) j13.1 (⟨value3, mask4⟩ : Tern) j13.2), h, ⟨rfl, ⟨rfl, rfl, rfl, trivial⟩, ⟨rfl, rfl, rfl, trivial⟩⟩⟩
    · have h := cond_f hc h
      refine AW.skip ?_
      exact ⟨(Vector.replicate 24 zTern), h, ⟨rfl, ⟨rfl, rfl, rfl, trivial⟩, ⟨rfl, rfl, rfl, trivial⟩⟩⟩
def F_r28_Rewrite (a1 : Action) : Option (Vector Tern 24) :=
  (bif (decide (a1.Kind = 25)) then (F_r10_Tern a1.Oxm).bind fun x4 => (F_r09_None).bind fun x6 => (F_r09_Set x6 a1.Oxm.Field x4.Value x4.Mask).bind fun x7 => some x7 else (bif (decide (a1.Kind = 17)) then (F_r09_None).bind fun x8 => (F_r02_Bit 12).bind fun x9 => (F_r02_Bit 12).bind fun x10 => (F_r09_Set x8 5 x9 x10).bind fun x11 => some x11 else (bif (decide (a1.Kind = 18)) then (F_r09_None).bind fun x12 => (F_r02_Low 13).bind fun x13 => (F_r09_Set x12 5 (⟨0, 0⟩ : Wide) x13).bind fun x14 => (F_r02_Low 3).bind fun x16 => (F_r09_Set x14 6 (⟨0, 0⟩ : Wide) x16).bind fun x17 => some x17 else (F_r09_None).bind fun x18 => some x18)))
theorem c_r28_Rewrite (a1 : Action) (r : (Vector Tern 24)) (h : F_r28_Rewrite a1 = some r) : PCon Tryz.prog 272 [rd kAction a1] (rd (karr 24 kTern) r) := by
  refine PCon.of (Con.intro0 Tryz.func272 rfl Tryz.ntmps272 rfl fun w H => ?_)
  unfold F_r28_Rewrite at h
  refine SR <| Ct rfl (op_box 2 rfl rfl (vt rfl)) ?_
  rintro _ ⟨g2, rfl⟩
  refine Ct rfl (op_alloc 3 rfl rfl zr101) ?_
  rintro _ ⟨g3, rfl⟩
  refine Nl <| AW.seq <| SR <| FdA lAction_0 fl121_0 rfl <| Ld ty3 2 rfl <| Nl <| AW.block <| SR <| Ac (op_eql rfl rfl (vt rfl) (vk rfl)) rfl <| As rfl <| Nl <| Cn rfl (fun hc => ?_) (fun hc => ?_)
  · have h := cond_t hc h
    refine AW.seq ?_
    obtain ⟨x4, hx4, h⟩ := bsome h
    refine Rg <| FdA lAction_5 fl121_5 rfl <| Ld ty119 2 rfl <| Cl [10] (c_r10_Tern _ _ hx4) e271 rfl <| Ct rfl (op_alloc 4 rfl rfl zr85) ?_
    rintro _ ⟨g5, rfl⟩
    refine Sto ty85 4 rfl <| Nl <| AW.seq ?_
    obtain ⟨x6, hx6, h⟩ := bsome h
    obtain ⟨x7, hx7, h⟩ := bsome h
    refine AW.regionAny [⟨[], [12], [], []⟩, ⟨[1], [13], [], []⟩, ⟨[13], [14], [], []⟩, ⟨[14], [15], [2], []⟩, ⟨[3], [16], [], []⟩, ⟨[16], [17], [4], []⟩, ⟨[3], [18], [], []⟩, ⟨[18], [19], [4], []⟩, ⟨[12, 15, 17, 19], [20], [], []⟩, ⟨[2, 20], [], [3], [3]⟩] mixed (by kernel_rfl) <| SCl [] (c_r09_None _ hx6) e80 rfl <| SFd lAction_5 fl121_5 rfl <| SFd lOxm_0 fl119_0 rfl <| SLd ty3 2 rfl <| SFd lTern_0 fl85_0 rfl <| SLd ty42 4 rfl <| SFd lTern_1 fl85_1 rfl <| SLd ty42 4 rfl <| SCl [12, 15, 17, 19] (c_r09_Set _ _ _ _ _ hx7) e154 rfl <| SSt ty101 3 rfl <| AW.ret ?_
    obtain rfl := si h
    exact ret1 Tryz.results272 rfl (out_cell rfl (i := 3) rfl ty101)
  · have h := cond_f hc h
    refine SR <| Ac (op_eql rfl rfl (vt rfl) (vk rfl)) rfl <| As rfl <| Nl <| Cn rfl (fun hc => ?_) (fun hc => ?_)
    · have h := cond_t hc h
      refine AW.seq ?_
      obtain ⟨x8, hx8, h⟩ := bsome h
      obtain ⟨x9, hx9, h⟩ := bsome h
      obtain ⟨x10, hx10, h⟩ := bsome h
      obtain ⟨x11, hx11, h⟩ := bsome h
      refine Rg <| Cl [] (c_r09_None _ hx8) e80 rfl <| Ac (op_call (xs := [.const (Value.int IntKind.i64 12)]) (c_r02_Bit _ _ hx9) e309 rfl rfl ⟨vk rfl, trivial⟩) rfl <| Ac (op_call (xs := [.const (Value.int IntKind.i64 12)]) (c_r02_Bit _ _ hx10) e309 rfl rfl ⟨vk rfl, trivial⟩) rfl <| Ac (op_call (xs := [.tmp 23, .const (Value.int IntKind.i64 5), .tmp 24, .tmp 25]) (c_r09_Set _ _ _ _ _ hx11) e154 rfl rfl ⟨vt rfl, vk rfl, vt rfl, vt rfl, trivial⟩) rfl <| Sto ty101 3 rfl <| Nl <| AW.ret ?_
      obtain rfl := si h
      exact ret1 Tryz.results272 rfl (out_cell rfl (i := 3) rfl ty101)
    · have h := cond_f hc h
      refine SR <| Ac (op_eql rfl rfl (vt rfl) (vk rfl)) rfl <| As rfl <| Nl <| Cn rfl (fun hc => ?_) (fun hc => ?_)
      · have h := cond_t hc h
        refine AW.seq ?_
        obtain ⟨x12, hx12, h⟩ := bsome h
        obtain ⟨x13, hx13, h⟩ := bsome h
        obtain ⟨x14, hx14, h⟩ := bsome h
        refine Rg <| Cl [] (c_r09_None _ hx12) e80 rfl <| Ac (op_build (ps := []) (x := (⟨0, 0⟩ : Wide)) rfl rfl rfl (by kernel_rfl) zr42 rfl) rfl <| Ac (op_call (xs := [.const (Value.int IntKind.i64 13)]) (c_r02_Low _ _ hx13) e307 rfl rfl ⟨vk rfl, trivial⟩) rfl <| Ac (op_call (xs := [.tmp 29, .const (Value.int IntKind.i64 5), .tmp 30, .tmp 31]) (c_r09_Set _ _ _ _ _ hx14) e154 rfl rfl ⟨vt rfl, vk rfl, vt rfl, vt rfl, trivial⟩) rfl <| Ct rfl (op_alloc 5 rfl rfl zr101) ?_
        rintro _ ⟨g15, rfl⟩
        refine Sto ty101 5 rfl <| Nl <| AW.seq ?_
        obtain ⟨x16, hx16, h⟩ := bsome h
        obtain ⟨x17, hx17, h⟩ := bsome h
        refine AW.regionAny [⟨[4], [33], [5], []⟩, ⟨[], [34], [], []⟩, ⟨[], [35], [], []⟩, ⟨[33, 34, 35], [36], [], []⟩, ⟨[2, 36], [], [3], [3]⟩] mixed (by kernel_rfl) <| SLd ty101 5 rfl <| Sc (lo [] [] rfl fun S hs hr => op_build (ps := []) (x := (⟨0, 0⟩ : Wide)) rfl rfl rfl (by kernel_rfl) zr42 rfl) rfl <| Sc (lo [] [] rfl fun S hs hr => op_call (xs := [.const (Value.int IntKind.i64 3)]) (c_r02_Low _ _ hx16) e307 rfl rfl ⟨vk rfl, trivial⟩) rfl <| Sc (lo [33, 34, 35] [] rfl fun S hs hr => op_call (xs := [.tmp 33, .const (Value.int IntKind.i64 6), .tmp 34, .tmp 35]) (c_r09_Set _ _ _ _ _ hx17) e154 rfl rfl ⟨vt ((hs 33 rfl).trans rfl), vk rfl, vt ((hs 34 rfl).trans rfl), vt ((hs 35 rfl).trans rfl), trivial⟩) rfl <| SSt ty101 3 rfl <| AW.ret ?_
        obtain rfl := si h
        exact ret1 Tryz.results272 rfl (out_cell rfl (i := 3) rfl ty101)
      · have h := cond_f hc h
        refine AW.skip <| AW.seq ?_
        obtain ⟨x18, hx18, h⟩ := bsome h
        refine Rg <| Cl [] (c_r09_None _ hx18) e80 rfl <| Sto ty101 3 rfl <| Nl <| AW.ret ?_
        obtain rfl := si h
        exact ret1 Tryz.results272 rfl (out_cell rfl (i := 3) rfl ty101)
def F_r32_Do_j2 (l12 : (List Atom)) (go1 : (Vector Tern 24) → (List Atom) → Int → Option ((List Atom) × (Vector Tern 24))) (b11 : (Vector Tern 24)) (i14 : Int) (b19 : Atom) : Option ((List Atom) × (Vector Tern 24)) :=
  (appd l12 [b19]).bind fun l20 => go1 b11 l20 (IntKind.i64.wrap (i14 + 1))
def F_r32_Do_l1 (acts1 : (List Action)) : Nat → (Vector Tern 24) → (List Atom) → Int → Option ((List Atom) × (Vector Tern 24))
  | 0, _, _, _ => none
  | m15 + 1, b11, l12, i14 => (bif (decide (i14 < (acts1.length : Int))) then (lget acts1 i14).bind fun e16 => (bif (decide (e16.Kind = 0)) then (lget acts1 i14).bind fun e17 => (bif (decide (((⟨b11, false, e17.Port, 0⟩ : Atom).Port) = 4294967293)) then (lget acts1 i14).bind fun e22 => F_r32_Do_j2 l12 (F_r32_Do_l1 acts1 m15) b11 i14 { (⟨b11, false, e17.Port, 0⟩ : Atom) with Max := e22.Max } else F_r32_Do_j2 l12 (F_r32_Do_l1 acts1 m15) b11 i14 (⟨b11, false, e17.Port, 0⟩ : Atom)) else (bif (decide (e16.Kind = 22)) then (lget acts1 i14).bind fun e23 => (appd l12 [(⟨b11, true, e23.Group, 0⟩ : Atom)]).bind fun l24 => (F_r32_Do_l1 acts1 m15) b11 l24 (IntKind.i64.wrap (i14 + 1)) else (lget acts1 i14).bind fun e26 => (F_r28_Rewrite e26).bind fun x27 => (F_r09_Then b11 x27).bind fun x28 => (F_r32_Do_l1 acts1 m15) x28 l12 (IntKind.i64.wrap (i14 + 1)))) else some (l12, b11))
def F_r32_Do (acts1 : (List Action)) (r2 : (Vector Tern 24)) : Option ((List Atom) × (Vector Tern 24)) :=
  (F_r09_Clean r2).bind fun x5 => F_r32_Do_l1 acts1 ((((acts1.length : Int) : Int) - 0).toNat + 1) x5 [] 0
theorem c_r32_Do (acts1 : (List Action)) (r2 : (Vector Tern 24)) (r : ((List Atom) × (Vector Tern 24))) (h : F_r32_Do acts1 r2 = some r) : PCon Tryz.prog 211 [rd (ksl kAction) acts1, rd (karr 24 kTern) r2] (tup2 (rd (ksl kAtom) r.1) (rd (karr 24 kTern) r.2)) := by
  refine PCon.of (Con.intro0 Tryz.func211 rfl Tryz.ntmps211 rfl fun w H => ?_)
  unfold F_r32_Do at h
  refine SR <| Ct rfl (op_box 4 rfl rfl (vt rfl)) ?_
  rintro _ ⟨g3, rfl⟩
  refine Ac (op_assign (A := rd (ksl kAtom) []) rfl rfl vnil) rfl <| Ct rfl (op_alloc 6 rfl rfl zr101) ?_
  rintro _ ⟨g4, rfl⟩
  refine Nl <| AW.seq ?_
  obtain ⟨x5, hx5, h⟩ := bsome h
  refine Rg <| Ld ty101 4 rfl <| Cl [9] (c_r09_Clean _ _ hx5) e145 rfl <| Sto ty101 4 rfl <| Nl <| SR <| Ct rfl (op_buildSlice 1001 (ps := []) (l := []) rfl rfl sl88 zr126 rfl rfl rfl rfl) ?_
  rintro _ ⟨v6, rfl⟩
  refine Aw rfl <| Nl <| AW.seq <| SR <| Ak rfl <| Nl <| AW.block <| AW.loopG (d := []) (ν := Nat × (Vector Tern 24) × (List Atom) × Int × Value) (fun n => True ∧ F_r32_Do_l1 acts1 n.1 n.2.1 n.2.2.1 n.2.2.2.1 = some r) (fun n => n.1) (fun n => [(0, rd (ksl kAction) acts1), (3, ptrL g3 (Lens.id (karr 24 kTern))), (5, ptrL g4 (Lens.id (karr 24 kTern))), (6, raw n.2.2.2.2), (7, rd (kint .i64) n.2.2.2.1)]) (fun n => [(4, Blk g3 101 (karr 24 kTern) n.2.1), (6, Blk g4 101 (karr 24 kTern) (Vector.replicate 24 zTern)), (1001, Row n.2.2.2.2 126 kAtom n.2.2.1)]) (((((acts1.length : Int) : Int) - 0).toNat + 1), x5, [], 0, v6) ⟨trivial, h⟩ ⟨rfl, ⟨rfl, rfl, rfl, rfl, rfl, trivial⟩, ⟨rfl, rfl, rfl, trivial⟩⟩ ?_
  rintro ⟨m15, b11, l12, i14, v13⟩ ⟨hsf1, h⟩
  change True at hsf1
  change F_r32_Do_l1 acts1 m15 b11 l12 i14 = some r at h
  change AW _ _ _ ⟨slots [(0, rd (ksl kAction) acts1), (3, ptrL g3 (Lens.id (karr 24 kTern))), (5, ptrL g4 (Lens.id (karr 24 kTern))), (6, raw v13), (7, rd (kint .i64) i14)], ress [(4, Blk g3 101 (karr 24 kTern) b11), (6, Blk g4 101 (karr 24 kTern) (Vector.replicate 24 zTern)), (1001, Row v13 126 kAtom l12)], _⟩
  cases m15 with
  | zero => cases h
  | succ m15 =>
    unfold F_r32_Do_l1 at h
    generalize hgo1 : F_r32_Do_l1 acts1 m15 = go1 at h
    refine AW.seq <| SR <| Md rfl <| Md rfl <| Ac (op_len' rfl rfl sl122 (vt rfl)) rfl <| Ac (op_lss rfl rfl (vt rfl) (vt rfl)) rfl <| Nl <| Cn rfl (fun hc => ?_) (fun hc => ?_)
    · have h := cond_t hc h
      refine AW.skip <| AW.seq <| AW.block <| AW.seq ?_
      obtain ⟨e16, he16, h⟩ := bsome h
      refine Rg <| Md rfl <| Md rfl <| Ac (op_indexs' rfl rfl sl122 (vt rfl) (vt rfl) he16) rfl <| Fp lAction_0 fl121_0 rfl <| Lp1 ty3 rfl <| Nl <| AW.block <| SR <| Ac (op_eql rfl rfl (vt rfl) (vk rfl)) rfl <| As rfl <| Nl <| Cn rfl (fun hc => ?_) (fun hc => ?_)
      · have h := cond_t hc h
        refine AW.seq ?_
        obtain ⟨e17, he17, h⟩ := bsome h
        refine AW.regionAny [⟨[3], [32], [4], []⟩, ⟨[0], [33], [], []⟩, ⟨[7], [34], [], []⟩, ⟨[33, 34], [35], [], []⟩, ⟨[35], [36], [], []⟩, ⟨[36], [37], [], []⟩, ⟨[32, 37], [38], [], []⟩, ⟨[], [8], [], []⟩, ⟨[8, 38], [8], [], []⟩] mixed (by kernel_rfl) <| SLd ty101 4 rfl <| SMd rfl <| SMd rfl <| Sc (lo [33, 34] [] rfl fun S hs hr => op_indexs' rfl rfl sl122 (vh hs 33 rfl rfl) (vh hs 34 rfl rfl) he17) rfl <| SFp lAction_1 fl121_1 rfl <| SLp ty3 rfl <| Sc (lo [32, 37] [] rfl fun S hs hr => op_build (ps := [(0, .tmp 32), (2, .tmp 37)]) (x := (⟨b11, false, e17.Port, 0⟩ : Atom)) rfl rfl rfl (by kernel_rfl) zr126 ⟨_, _, lAtom_0, _, by kernel_rfl, (vh hs 32 rfl rfl), _, _, lAtom_2, _, by kernel_rfl, (vh hs 37 rfl rfl), rfl⟩) rfl <| Sc (locs (us := [(8, ownP 126 kAtom zAtom)]) (ur := []) [] [] rfl fun S hs hr => op_allocO rfl rfl rfl zr126) rfl <| Sc (locs (us := [(8, ownP 126 kAtom (⟨b11, false, e17.Port, 0⟩ : Atom))]) (ur := []) [8, 38] [] rfl fun S hs hr => op_storeO rfl rfl ty126 ((hs 8 rfl).trans rfl) (vh hs 38 rfl rfl)) rfl <| AW.unpackP 8 9 rfl rfl fun g18 => ?_
        refine AW.join (d := []) (ν := Atom) (fun n => F_r32_Do_j2 l12 go1 b11 i14 n = some r) (fun n => [(0, rd (ksl kAction) acts1), (3, ptrL g3 (Lens.id (karr 24 kTern))), (5, ptrL g4 (Lens.id (karr 24 kTern))), (6, raw v13), (7, rd (kint .i64) i14), (8, ptrL g18 (Lens.id kAtom))]) (fun n => [(4, Blk g3 101 (karr 24 kTern) b11), (6, Blk g4 101 (karr 24 kTern) (Vector.replicate 24 zTern)), (9, Blk g18 126 kAtom n), (1001, Row v13 126 kAtom l12)]) ?hx2 ?hy2
        case hy2 =>
          intro b19 h
          unfold F_r32_Do_j2 at h
          change AW _ _ _ ⟨slots [(0, rd (ksl kAction) acts1), (3, ptrL g3 (Lens.id (karr 24 kTern))), (5, ptrL g4 (Lens.id (karr 24 kTern))), (6, raw v13), (7, rd (kint .i64) i14), (8, ptrL g18 (Lens.id kAtom))], ress [(4, Blk g3 101 (karr 24 kTern) b11), (6, Blk g4 101 (karr 24 kTern) (Vector.replicate 24 zTern)), (9, Blk g18 126 kAtom b19), (1001, Row v13 126 kAtom l12)], _⟩
          obtain ⟨l20, hl20, h⟩ := bsome h
          refine Rg <| Mw rfl <| Ld ty126 9 rfl <| Ac (op_buildSliceR (ps := [(0, .tmp 49)]) (l := [b19]) rfl rfl sl88 zr126 rfl rfl ⟨_, _, Lens.idx 1 kAtom 0 (by decide), _, rfl, (vt rfl), rfl⟩ rfl) rfl <| Ct rfl (op_append' 1001 hl20 rfl rfl el88 (vt rfl) rfl (vt rfl)) ?_
          rintro _ ⟨v21, rfl⟩
          refine Aw rfl <| Nl <| Rg <| Md rfl <| Ac (op_add rfl rfl (vt rfl) (vk rfl)) rfl <| As rfl <| Nl ?_
          subst hgo1
          exact ⟨(m15, b11, l20, (IntKind.i64.wrap (i14 + 1)), v21), Nat.lt_succ_self _, ⟨trivial, h⟩, ⟨rfl, ⟨rfl, rfl, rfl, rfl, rfl, trivial⟩, ⟨rfl, rfl, rfl, trivial⟩⟩⟩
        case hx2 =>
          refine SR <| FdA lAtom_2 fl126_2 rfl <| Ld ty3 9 rfl <| Ac (op_eql rfl rfl (vt rfl) (vk rfl)) rfl <| Nl <| Cn rfl (fun hc => ?_) (fun hc => ?_)
          · have h := cond_t hc h
            obtain ⟨e22, he22, h⟩ := bsome h
            refine Rg <| Md rfl <| Md rfl <| Ac (op_indexs' rfl rfl sl122 (vt rfl) (vt rfl) he22) rfl <| Fp lAction_2 fl121_2 rfl <| Lp1 ty3 rfl <| FdA lAtom_3 fl126_3 rfl <| Sto ty3 9 rfl <| Nl ?_
            exact ⟨{ (⟨b11, false, e17.Port, 0⟩ : Atom) with Max := e22.Max }, h, ⟨rfl, ⟨rfl, rfl, rfl, rfl, rfl, rfl, trivial⟩, ⟨rfl, rfl, rfl, rfl, trivial⟩⟩⟩
          · have h := cond_f hc h
            refine AW.skip ?_
            exact ⟨(⟨b11, false, e17.Port, 0⟩ : Atom), h, ⟨rfl, ⟨rfl, rfl, rfl, rfl, rfl, rfl, trivial⟩, ⟨rfl, rfl, rfl, rfl, trivial⟩⟩⟩
      · have h := cond_f hc h
        refine SR <| Ac (op_eql rfl rfl (vt rfl) (vk rfl)) rfl <| As rfl <| Nl <| Cn rfl (fun hc => ?_) (fun hc => ?_)
        · have h := cond_t hc h
          obtain ⟨e23, he23, h⟩ := bsome h
          obtain ⟨l24, hl24, h⟩ := bsome h
          refine AW.regionAny [⟨[6], [54], [], []⟩, ⟨[3], [55], [4], []⟩, ⟨[0], [56], [], []⟩, ⟨[7], [57], [], []⟩, ⟨[56, 57], [58], [], []⟩, ⟨[58], [59], [], []⟩, ⟨[59], [60], [], []⟩, ⟨[55, 60], [61], [], []⟩, ⟨[61], [62], [], []⟩, ⟨[54, 62], [63], [1001], [1001]⟩, ⟨[63], [63, 6], [1002], []⟩] mixed (by kernel_rfl) <| SMw rfl <| SLd ty101 4 rfl <| SMd rfl <| SMd rfl <| Sc (lo [56, 57] [] rfl fun S hs hr => op_indexs' rfl rfl sl122 (vh hs 56 rfl rfl) (vh hs 57 rfl rfl) he23) rfl <| SFp lAction_3 fl121_3 rfl <| SLp ty3 rfl <| Sc (lo [55, 60] [] rfl fun S hs hr => op_build (ps := [(0, .tmp 55), (1, .const (Value.bool true)), (2, .tmp 60)]) (x := (⟨b11, true, e23.Group, 0⟩ : Atom)) rfl rfl rfl (by kernel_rfl) zr126 ⟨_, _, lAtom_0, _, by kernel_rfl, (vh hs 55 rfl rfl), _, _, lAtom_1, _, by kernel_rfl, vb, _, _, lAtom_2, _, by kernel_rfl, (vh hs 60 rfl rfl), rfl⟩) rfl <| Sc (lo [61] [] rfl fun S hs hr => op_buildSliceR (ps := [(0, .tmp 61)]) (l := [(⟨b11, true, e23.Group, 0⟩ : Atom)]) rfl rfl sl88 zr126 rfl rfl ⟨_, _, Lens.idx 1 kAtom 0 (by decide), _, rfl, (vh hs 61 rfl rfl), rfl⟩ rfl) rfl <| Sc (locs (us := [(63, ownR 126 kAtom l24)]) (ur := [(1001, emp)]) [54, 62] [1001] rfl fun S hs hr => op_appendO 1001 hl24 rfl rfl rfl el88 (vh hs 54 rfl rfl) ((hr 1001 rfl).trans rfl) (vh hs 62 rfl rfl)) rfl <| Sc (locs (us := [(63, top), (6, ownR 126 kAtom l24)]) (ur := []) [63] [1002] rfl fun S hs hr => op_assignO 1002 rfl rfl rfl rfl ((hs 63 rfl).trans rfl) ((hr 1002 rfl).trans rfl)) rfl <| AW.unpackR 6 1001 rfl rfl fun v25 => Rg <| Md rfl <| Ac (op_add rfl rfl (vt rfl) (vk rfl)) rfl <| As rfl <| Nl ?_
          subst hgo1
          exact ⟨(m15, b11, l24, (IntKind.i64.wrap (i14 + 1)), v25), Nat.lt_succ_self _, ⟨trivial, h⟩, ⟨rfl, ⟨rfl, rfl, rfl, rfl, rfl, trivial⟩, ⟨rfl, rfl, rfl, trivial⟩⟩⟩
        · have h := cond_f hc h
          obtain ⟨e26, he26, h⟩ := bsome h
          obtain ⟨x27, hx27, h⟩ := bsome h
          obtain ⟨x28, hx28, h⟩ := bsome h
          refine AW.regionAny [⟨[3], [23], [4], []⟩, ⟨[0], [24], [], []⟩, ⟨[7], [25], [], []⟩, ⟨[24, 25], [26], [], []⟩, ⟨[26], [27], [], []⟩, ⟨[27], [28], [], []⟩, ⟨[23, 28], [29], [], []⟩, ⟨[3, 29], [], [4], [4]⟩] mixed (by kernel_rfl) <| SLd ty101 4 rfl <| SMd rfl <| SMd rfl <| Sc (lo [24, 25] [] rfl fun S hs hr => op_indexs' rfl rfl sl122 (vh hs 24 rfl rfl) (vh hs 25 rfl rfl) he26) rfl <| SLp ty121 rfl <| SCl [27] (c_r28_Rewrite _ _ hx27) e272 rfl <| SCl [23, 28] (c_r09_Then _ _ _ hx28) e226 rfl <| SSt ty101 4 rfl <| Rg <| Md rfl <| Ac (op_add rfl rfl (vt rfl) (vk rfl)) rfl <| As rfl <| Nl ?_
          subst hgo1
          exact ⟨(m15, x28, l12, (IntKind.i64.wrap (i14 + 1)), v13), Nat.lt_succ_self _, ⟨trivial, h⟩, ⟨rfl, ⟨rfl, rfl, rfl, rfl, rfl, trivial⟩, ⟨rfl, rfl, rfl, trivial⟩⟩⟩
    · have h := cond_f hc h
      refine AW.exit <| AW.seq <| AW.regionAny [⟨[6], [64], [], []⟩, ⟨[3], [65], [4], []⟩, ⟨[64], [4], [], []⟩, ⟨[5, 65], [], [6], [6]⟩] mixed (by kernel_rfl) <| SMw rfl <| SLd ty101 4 rfl <| Sc (lo [64] [] rfl fun S hs hr => op_assign (A := raw v13) rfl rfl (vh hs 64 rfl rfl)) rfl <| SSt ty101 6 rfl <| AW.freezes [4, 6, 64] 1001 rfl ⟨rfl, rfl, rfl, trivial⟩ rfl <| AW.ret ?_
      obtain rfl := si h
      exact ret2 Tryz.results211 rfl (out_tmp rfl) (out_cell rfl (i := 6) rfl ty101)
def F_r28_like (a1 : Action) (b2 : Action) : Option Bool :=
  some ((decide (a1.Kind = b2.Kind)) && ((decide (a1.Kind ≠ 25)) || (decide (a1.Oxm.Field = b2.Oxm.Field))))
theorem c_r28_like (a1 : Action) (b2 : Action) (r : Bool) (h : F_r28_like a1 b2 = some r) : PCon Tryz.prog 224 [rd kAction a1, rd kAction b2] (rd kbool r) := by
  refine PCon.of (Con.intro0 Tryz.func224 rfl Tryz.ntmps224 rfl fun w H => ?_)
  unfold F_r28_like at h
  refine SR <| Ct rfl (op_box 3 rfl rfl (vt rfl)) ?_
  rintro _ ⟨g3, rfl⟩
  refine Ct rfl (op_box 4 rfl rfl (vt rfl)) ?_
  rintro _ ⟨g4, rfl⟩
  refine Ab rfl <| Nl <| SR <| FdA lAction_0 fl121_0 rfl <| Ld ty3 3 rfl <| FdA lAction_0 fl121_0 rfl <| Ld ty3 4 rfl <| Ac (op_eql rfl rfl (vt rfl) (vt rfl)) rfl <| Md rfl <| Gd rfl (fun hq => op_field lAction_0 rfl rfl fl121_0 (vt rfl)) <| Gd rfl (fun hq => op_load rfl rfl ty3 (vgt rfl hq) (i := 3) rfl) <| Gd rfl (fun hq => op_neq rfl rfl (vgt rfl hq) (vk rfl)) <| AOps.consG (OpG.guardX rfl rfl rfl rfl rfl fun hq => op_move (A := rd kbool (decide (a1.Kind ≠ 25))) rfl rfl (vgt rfl hq)) <| AOps.consG (OpG.guardN rfl rfl rfl rfl rfl fun hq => op_field lAction_5 rfl rfl fl121_5 (vt rfl)) <| AOps.consG (OpG.guardN rfl rfl rfl rfl rfl fun hq => op_field lOxm_0 rfl rfl fl119_0 (vgt rfl hq)) <| AOps.consG (OpG.guardN rfl rfl rfl rfl rfl fun hq => op_load rfl rfl ty3 (vgt rfl hq) (i := 3) rfl) <| AOps.consG (OpG.guardN rfl rfl rfl rfl rfl fun hq => op_field lAction_5 rfl rfl fl121_5 (vt rfl)) <| AOps.consG (OpG.guardN rfl rfl rfl rfl rfl fun hq => op_field lOxm_0 rfl rfl fl119_0 (vgt rfl hq)) <| AOps.consG (OpG.guardN rfl rfl rfl rfl rfl fun hq => op_load rfl rfl ty3 (vgt rfl hq) (i := 4) rfl) <| AOps.consG (OpG.guardN rfl rfl rfl rfl rfl fun hq => op_eql rfl rfl (vgt rfl hq) (vgt rfl hq)) <| Gd rfl (fun hq => op_any rfl rfl (vgx rfl hq) (vgw rfl hq)) <| Ac (op_all rfl rfl (vt rfl) (vt rfl)) rfl <| As rfl <| Nl <| AW.ret ?_
  obtain rfl := si h
  exact ret1 Tryz.results224 rfl (out_tmp rfl)
def F_r28_Write_l2 (l9 : (List Action)) (l2 : (List Action)) (i11 : Int) (go1 : (List Action) → Int → Option (List Action)) : Nat → Int → Int → Option (List Action)
  | 0, _, _ => none
  | m17 + 1, at15, j16 => (bif (decide (j16 < (l9.length : Int))) then (opt (decide (at15 < 0)) (lget l9 j16)).bind fun e18 => (opt (decide (at15 < 0)) (lget l2 i11)).bind fun e19 => (opt (decide (at15 < 0)) (F_r28_like e18 e19)).bind fun x20 => (bif ((decide (at15 < 0)) && x20) then (F_r28_Write_l2 l9 l2 i11 go1 m17) j16 (IntKind.i64.wrap (j16 + 1)) else (F_r28_Write_l2 l9 l2 i11 go1 m17) at15 (IntKind.i64.wrap (j16 + 1))) else (bif (decide (at15 < 0)) then (lget l2 i11).bind fun e21 => (appd l9 [e21]).bind fun l22 => go1 l22 (IntKind.i64.wrap (i11 + 1)) else (lget l2 i11).bind fun e24 => (lget l9 at15).bind fun e25 => go1 (List.set l9 at15.toNat e24) (IntKind.i64.wrap (i11 + 1))))
def F_r28_Write_l1 (l2 : (List Action)) : Nat → (List Action) → Int → Option (List Action)
  | 0, _, _ => none
  | m12 + 1, l9, i11 => (bif (decide (i11 < (l2.length : Int))) then F_r28_Write_l2 l9 l2 i11 (F_r28_Write_l1 l2 m12) ((((l9.length : Int) : Int) - 0).toNat + 1) (-1) 0 else some l9)
def F_r28_Write (set1 : (List Action)) (l2 : (List Action)) : Option (List Action) :=
  (appd [] set1).bind fun l4 => F_r28_Write_l1 l2 ((((l2.length : Int) : Int) - 0).toNat + 1) l4 0
theorem c_r28_Write (set1 : (List Action)) (l2 : (List Action)) (r : (List Action)) (h : F_r28_Write set1 l2 = some r) : PCon Tryz.prog 153 [rd (ksl kAction) set1, rd (ksl kAction) l2] (rd (ksl kAction) r) := by
  refine PCon.of (Con.intro0 Tryz.func153 rfl Tryz.ntmps153 rfl fun w H => ?_)
  unfold F_r28_Write at h
  refine SR <| Ac (op_assign (A := rd (ksl kAction) []) rfl rfl vnil) rfl <| Nl <| AW.seq ?_
  obtain ⟨l4, hl4, h⟩ := bsome h
  refine Rg <| Ct rfl (op_buildSlice 1001 (ps := []) (l := []) rfl rfl sl122 zr121 rfl rfl rfl rfl) ?_
  rintro _ ⟨v3, rfl⟩
  refine Md rfl <| Ct rfl (op_append' 1001 hl4 rfl rfl el122 (vt rfl) rfl (vt rfl)) ?_
  rintro _ ⟨v5, rfl⟩
  refine Aw rfl <| Nl <| AW.seq <| SR <| Ak rfl <| Nl <| AW.block <| AW.loopG (d := []) (ν := Nat × (List Action) × Int × Value) (fun n => True ∧ F_r28_Write_l1 l2 n.1 n.2.1 n.2.2.1 = some r) (fun n => n.1) (fun n => [(1, rd (ksl kAction) l2), (5, raw n.2.2.2), (6, rd (kint .i64) n.2.2.1)]) (fun n => [(1001, Row n.2.2.2 121 kAction n.2.1)]) (((((l2.length : Int) : Int) - 0).toNat + 1), l4, 0, v5) ⟨trivial, h⟩ ⟨rfl, ⟨rfl, rfl, rfl, trivial⟩, ⟨rfl, trivial⟩⟩ ?_
  rintro ⟨m12, l9, i11, v10⟩ ⟨hsf1, h⟩
  change True at hsf1
  change F_r28_Write_l1 l2 m12 l9 i11 = some r at h
  change AW _ _ _ ⟨slots [(1, rd (ksl kAction) l2), (5, raw v10), (6, rd (kint .i64) i11)], ress [(1001, Row v10 121 kAction l9)], _⟩
  cases m12 with
  | zero => cases h
  | succ m12 =>
    unfold F_r28_Write_l1 at h
    generalize hgo1 : F_r28_Write_l1 l2 m12 = go1 at h
    refine AW.seq <| SR <| Md rfl <| Md rfl <| Ac (op_len' rfl rfl sl122 (vt rfl)) rfl <| Ac (op_lss rfl rfl (vt rfl) (vt rfl)) rfl <| Nl <| Cn rfl (fun hc => ?_) (fun hc => ?_)
    · have h := cond_t hc h
      refine AW.skip <| AW.seq <| AW.block <| SR <| Ak rfl <| Nl <| AW.seq <| SR <| Ak rfl <| Nl <| AW.block <| AW.loopG (d := []) (ν := Nat × Int × Int) (fun n => True ∧ F_r28_Write_l2 l9 l2 i11 go1 n.1 n.2.1 n.2.2 = some r) (fun n => n.1) (fun n => [(1, rd (ksl kAction) l2), (5, raw v10), (6, rd (kint .i64) i11), (7, rd (kint .i64) n.2.1), (8, rd (kint .i64) n.2.2)]) (fun n => [(1001, Row v10 121 kAction l9)]) (((((l9.length : Int) : Int) - 0).toNat + 1), (-1), 0) ⟨trivial, h⟩ ⟨rfl, ⟨rfl, rfl, rfl, rfl, rfl, trivial⟩, ⟨rfl, trivial⟩⟩ ?_
      rintro ⟨m17, at15, j16⟩ ⟨hsf2, h⟩
      change True at hsf2
      change F_r28_Write_l2 l9 l2 i11 go1 m17 at15 j16 = some r at h
      change AW _ _ _ ⟨slots [(1, rd (ksl kAction) l2), (5, raw v10), (6, rd (kint .i64) i11), (7, rd (kint .i64) at15), (8, rd (kint .i64) j16)], ress [(1001, Row v10 121 kAction l9)], _⟩
      cases m17 with
      | zero => cases h
      | succ m17 =>
        unfold F_r28_Write_l2 at h
        generalize hgo2 : F_r28_Write_l2 l9 l2 i11 go1 m17 = go2 at h
        refine AW.seq <| SR <| Md rfl <| Mw rfl <| Ac (op_leno 1001 rfl rfl sl122 (vt rfl) rfl) rfl <| Ac (op_lss rfl rfl (vt rfl) (vt rfl)) rfl <| Nl <| Cn rfl (fun hc => ?_) (fun hc => ?_)
        · have h := cond_t hc h
          refine AW.skip <| AW.seq <| AW.block <| AW.seq ?_
          obtain ⟨e18, he18, h⟩ := bsome h
          obtain ⟨e19, he19, h⟩ := bsome h
          obtain ⟨x20, hx20, h⟩ := bsome h
          refine AW.regionAny [⟨[7], [24], [], []⟩, ⟨[24], [25], [], []⟩, ⟨[25], [26], [], []⟩, ⟨[5, 26], [27], [], []⟩, ⟨[8, 26], [28], [], []⟩, ⟨[27, 28, 26], [29], [1001], []⟩, ⟨[29, 26], [30], [1001], []⟩, ⟨[1, 26], [31], [], []⟩, ⟨[6, 26], [32], [], []⟩, ⟨[31, 32, 26], [33], [], []⟩, ⟨[33, 26], [34], [], []⟩, ⟨[30, 34, 26], [35], [], []⟩, ⟨[35, 26], [36], [], []⟩] mixed (by kernel_rfl) <| SMd rfl <| Sc (lo [24] [] rfl fun S hs hr => op_lss rfl rfl (vh hs 24 rfl rfl) (vk rfl)) rfl <| SMd rfl <| Sc (lg [5, 26] [] rfl fun hq S hs hr => op_move (A := raw v10) rfl rfl (vh hs 5 rfl rfl)) rfl <| Sc (lg [8, 26] [] rfl fun hq S hs hr => op_move (A := rd (kint .i64) j16) rfl rfl (vh hs 8 rfl rfl)) rfl <| Sc (lg [27, 28, 26] [1001] rfl fun hq S hs hr => op_indexo' 1001 rfl rfl sl122 (vgt ((hs 27 rfl).trans rfl) hq) ((hr 1001 rfl).trans rfl) (vgt ((hs 28 rfl).trans rfl) hq) (opt_t he18 hq)) rfl <| Sc (lg [29, 26] [1001] rfl fun hq S hs hr => op_loado' 1001 rfl rfl ty121 (vgt ((hs 29 rfl).trans rfl) hq) ((hr 1001 rfl).trans rfl) (lget_of (opt_t he18 hq)).2) rfl <| Sc (lg [1, 26] [] rfl fun hq S hs hr => op_move (A := rd (ksl kAction) l2) rfl rfl (vh hs 1 rfl rfl)) rfl <| Sc (lg [6, 26] [] rfl fun hq S hs hr => op_move (A := rd (kint .i64) i11) rfl rfl (vh hs 6 rfl rfl)) rfl <| Sc (lg [31, 32, 26] [] rfl fun hq S hs hr => op_indexs' rfl rfl sl122 (vgt ((hs 31 rfl).trans rfl) hq) (vgt ((hs 32 rfl).trans rfl) hq) (opt_t he19 hq)) rfl <| Sc (lg [33, 26] [] rfl fun hq S hs hr => op_loadp rfl rfl ty121 (vgt ((hs 33 rfl).trans rfl) hq)) rfl <| Sc (lg [30, 34, 26] [] rfl fun hq S hs hr => op_call (xs := [.tmp 30, .tmp 34]) (c_r28_like _ _ _ (opt_t hx20 hq)) e224 rfl rfl ⟨vgt ((hs 30 rfl).trans rfl) hq, vgt ((hs 34 rfl).trans rfl) hq, trivial⟩) rfl <| Sc (lo [35, 26] [] rfl fun S hs hr => op_all rfl rfl (vh hs 26 rfl rfl) (vh hs 35 rfl rfl)) rfl <| Cn rfl (fun hc => ?_) (fun hc => ?_)
          · have h := cond_t hc h
            refine Rg <| Md rfl <| As rfl <| Nl <| Rg <| Md rfl <| Ac (op_add rfl rfl (vt rfl) (vk rfl)) rfl <| As rfl <| Nl ?_
            subst hgo2
            exact ⟨(m17, j16, (IntKind.i64.wrap (j16 + 1))), Nat.lt_succ_self _, ⟨trivial, h⟩, ⟨rfl, ⟨rfl, rfl, rfl, rfl, rfl, trivial⟩, ⟨rfl, trivial⟩⟩⟩
          · have h := cond_f hc h
            refine AW.skip <| Rg <| Md rfl <| Ac (op_add rfl rfl (vt rfl) (vk rfl)) rfl <| As rfl <| Nl ?_
            subst hgo2
            exact ⟨(m17, at15, (IntKind.i64.wrap (j16 + 1))), Nat.lt_succ_self _, ⟨trivial, h⟩, ⟨rfl, ⟨rfl, rfl, rfl, rfl, rfl, trivial⟩, ⟨rfl, trivial⟩⟩⟩
        · have h := cond_f hc h
          refine AW.exit <| SR <| Md rfl <| Ac (op_lss rfl rfl (vt rfl) (vk rfl)) rfl <| Nl <| Cn rfl (fun hc => ?_) (fun hc => ?_)
          · have h := cond_t hc h
            obtain ⟨e21, he21, h⟩ := bsome h
            obtain ⟨l22, hl22, h⟩ := bsome h
            refine Rg <| Mw rfl <| Md rfl <| Md rfl <| Ac (op_indexs' rfl rfl sl122 (vt rfl) (vt rfl) he21) rfl <| Lp1 ty121 rfl <| Ac (op_buildSliceR (ps := [(0, .tmp 44)]) (l := [e21]) rfl rfl sl122 zr121 rfl rfl ⟨_, _, Lens.idx 1 kAction 0 (by decide), _, rfl, (vt rfl), rfl⟩ rfl) rfl <| Ct rfl (op_append' 1001 hl22 rfl rfl el122 (vt rfl) rfl (vt rfl)) ?_
            rintro _ ⟨v23, rfl⟩
            refine Aw rfl <| Nl <| Rg <| Md rfl <| Ac (op_add rfl rfl (vt rfl) (vk rfl)) rfl <| As rfl <| Nl ?_
            subst hgo1
            exact ⟨(m12, l22, (IntKind.i64.wrap (i11 + 1)), v23), Nat.lt_succ_self _, ⟨trivial, h⟩, ⟨rfl, ⟨rfl, rfl, rfl, trivial⟩, ⟨rfl, trivial⟩⟩⟩
          · have h := cond_f hc h
            obtain ⟨e24, he24, h⟩ := bsome h
            obtain ⟨e25, he25, h⟩ := bsome h
            refine Rg <| Mw rfl <| Md rfl <| Md rfl <| Md rfl <| Ac (op_indexs' rfl rfl sl122 (vt rfl) (vt rfl) he24) rfl <| Lp1 ty121 rfl <| Ac (op_indexo' 1001 rfl rfl sl122 (vt rfl) rfl (vt rfl) he25) rfl <| Ac (op_storeo' 1001 rfl rfl ty121 (vt rfl) rfl (lget_of he25).2 (vt rfl)) rfl <| Nl <| Rg <| Md rfl <| Ac (op_add rfl rfl (vt rfl) (vk rfl)) rfl <| As rfl <| Nl ?_
            subst hgo1
            exact ⟨(m12, (List.set l9 at15.toNat e24), (IntKind.i64.wrap (i11 + 1)), v10), Nat.lt_succ_self _, ⟨trivial, h⟩, ⟨rfl, ⟨rfl, rfl, rfl, trivial⟩, ⟨rfl, trivial⟩⟩⟩
    · have h := cond_f hc h
      refine AW.exit <| SR <| Mw rfl <| Aw rfl <| Nl <| AW.freezes [4, 5, 54] 1001 rfl ⟨rfl, rfl, rfl, trivial⟩ rfl <| AW.ret ?_
      obtain rfl := si h
      exact ret1 Tryz.results153 rfl (out_tmp rfl)
def F_r28_of_l1 (l1 : (List Action)) (kind2 : Int) : Nat → (List Action) → Int → Option (List Action)
  | 0, _, _ => none
  | m10 + 1, l7, i9 => (bif (decide (i9 < (l1.length : Int))) then (lget l1 i9).bind fun e11 => (bif (decide (e11.Kind = kind2)) then (lget l1 i9).bind fun e12 => (appd l7 [e12]).bind fun l13 => (F_r28_of_l1 l1 kind2 m10) l13 (IntKind.i64.wrap (i9 + 1)) else (F_r28_of_l1 l1 kind2 m10) l7 (IntKind.i64.wrap (i9 + 1))) else some l7)
def F_r28_of (l1 : (List Action)) (kind2 : Int) : Option (List Action) :=
  F_r28_of_l1 l1 kind2 ((((l1.length : Int) : Int) - 0).toNat + 1) [] 0
theorem c_r28_of_o (l1 : (List Action)) (kind2 : Int) (r : (List Action)) (h : F_r28_of l1 kind2 = some r) : Con Tryz.prog 227 [rd (ksl kAction) l1, rd (kint .i64) kind2] emp (fun v => raw v) (fun v => Row v 121 kAction r) := by
  refine Con.intro0 Tryz.func227 rfl Tryz.ntmps227 rfl fun w H => ?_
  unfold F_r28_of at h
  refine AW.seq <| AW.newnil 1001 121 kAction <| Rg <| Ac (op_assign rfl rfl vc) rfl <| Nl <| SR <| Ct rfl (op_buildSlice 1002 (ps := []) (l := []) rfl rfl sl122 zr121 rfl rfl rfl rfl) ?_
  rintro _ ⟨v3, rfl⟩
  refine Aw rfl <| Nl <| AW.seq <| SR <| Ak rfl <| Nl <| AW.block <| AW.loopG (d := []) (ν := Nat × (List Action) × Int × Value) (fun n => True ∧ F_r28_of_l1 l1 kind2 n.1 n.2.1 n.2.2.1 = some r) (fun n => n.1) (fun n => [(0, rd (ksl kAction) l1), (1, rd (kint .i64) kind2), (5, raw n.2.2.2), (6, rd (kint .i64) n.2.2.1)]) (fun n => [(1002, Row n.2.2.2 121 kAction n.2.1)]) (((((l1.length : Int) : Int) - 0).toNat + 1), [], 0, v3) ⟨trivial, h⟩ ⟨rfl, ⟨rfl, rfl, rfl, rfl, trivial⟩, ⟨rfl, trivial⟩⟩ ?_
  rintro ⟨m10, l7, i9, v8⟩ ⟨hsf1, h⟩
  change True at hsf1
  change F_r28_of_l1 l1 kind2 m10 l7 i9 = some r at h
  change AW _ _ _ ⟨slots [(0, rd (ksl kAction) l1), (1, rd (kint .i64) kind2), (5, raw v8), (6, rd (kint .i64) i9)], ress [(1002, Row v8 121 kAction l7)], _⟩
  cases m10 with
  | zero => cases h
  | succ m10 =>
    unfold F_r28_of_l1 at h
    generalize hgo1 : F_r28_of_l1 l1 kind2 m10 = go1 at h
    refine AW.seq <| SR <| Md rfl <| Md rfl <| Ac (op_len' rfl rfl sl122 (vt rfl)) rfl <| Ac (op_lss rfl rfl (vt rfl) (vt rfl)) rfl <| Nl <| Cn rfl (fun hc => ?_) (fun hc => ?_)
    · have h := cond_t hc h
      refine AW.skip <| AW.seq <| AW.block <| AW.seq ?_
      obtain ⟨e11, he11, h⟩ := bsome h
      refine Rg <| Md rfl <| Md rfl <| Ac (op_indexs' rfl rfl sl122 (vt rfl) (vt rfl) he11) rfl <| Fp lAction_0 fl121_0 rfl <| Lp1 ty3 rfl <| Md rfl <| Ac (op_eql rfl rfl (vt rfl) (vt rfl)) rfl <| Nl <| Cn rfl (fun hc => ?_) (fun hc => ?_)
      · have h := cond_t hc h
        obtain ⟨e12, he12, h⟩ := bsome h
        obtain ⟨l13, hl13, h⟩ := bsome h
        refine Rg <| Mw rfl <| Md rfl <| Md rfl <| Ac (op_indexs' rfl rfl sl122 (vt rfl) (vt rfl) he12) rfl <| Lp1 ty121 rfl <| Ac (op_buildSliceR (ps := [(0, .tmp 25)]) (l := [e12]) rfl rfl sl122 zr121 rfl rfl ⟨_, _, Lens.idx 1 kAction 0 (by decide), _, rfl, (vt rfl), rfl⟩ rfl) rfl <| Ct rfl (op_append' 1002 hl13 rfl rfl el122 (vt rfl) rfl (vt rfl)) ?_
        rintro _ ⟨v14, rfl⟩
        refine Aw rfl <| Nl <| Rg <| Md rfl <| Ac (op_add rfl rfl (vt rfl) (vk rfl)) rfl <| As rfl <| Nl ?_
        subst hgo1
        exact ⟨(m10, l13, (IntKind.i64.wrap (i9 + 1)), v14), Nat.lt_succ_self _, ⟨trivial, h⟩, ⟨rfl, ⟨rfl, rfl, rfl, rfl, trivial⟩, ⟨rfl, trivial⟩⟩⟩
      · have h := cond_f hc h
        refine AW.skip <| Rg <| Md rfl <| Ac (op_add rfl rfl (vt rfl) (vk rfl)) rfl <| As rfl <| Nl ?_
        subst hgo1
        exact ⟨(m10, l7, (IntKind.i64.wrap (i9 + 1)), v8), Nat.lt_succ_self _, ⟨trivial, h⟩, ⟨rfl, ⟨rfl, rfl, rfl, rfl, trivial⟩, ⟨rfl, trivial⟩⟩⟩
    · have h := cond_f hc h
      refine AW.exit <| SR <| Mw rfl <| Aw rfl <| Nl <| AW.ret ?_
      obtain rfl := si h
      exact ret1R (i := 1002) Tryz.results227 rfl rfl rfl
theorem c_r28_of (l1 : (List Action)) (kind2 : Int) (r : (List Action)) (h : F_r28_of l1 kind2 = some r) : PCon Tryz.prog 227 [rd (ksl kAction) l1, rd (kint .i64) kind2] (rd (ksl kAction) r) := PCon.of_row (c_r28_of_o l1 kind2 r h)
def F_r28_fields_l3 (at11 : Int) (l1 : (List Action)) (i8 : Int) (go1 : (List Action) → Int → Option (List Action)) : Nat → (List Action) → Int → Option (List Action)
  | 0, _, _ => none
  | m21 + 1, l19, j20 => (bif (decide (j20 > at11)) then (lget l19 (IntKind.i64.wrap (j20 - 1))).bind fun e22 => (lget l19 j20).bind fun e23 => (F_r28_fields_l3 at11 l1 i8 go1 m21) (List.set l19 j20.toNat e22) (IntKind.i64.wrap (j20 - 1)) else (lget l1 i8).bind fun e24 => (lget l19 at11).bind fun e25 => go1 (List.set l19 at11.toNat e24) (IntKind.i64.wrap (i8 + 1)))
def F_r28_fields_l2 (l6 : (List Action)) (l1 : (List Action)) (i8 : Int) (go1 : (List Action) → Int → Option (List Action)) : Nat → Int → Option (List Action)
  | 0, _ => none
  | m12 + 1, at11 => (opt (decide (at11 > 0)) (lget l6 (IntKind.i64.wrap (at11 - 1)))).bind fun e13 => (opt (decide (at11 > 0)) (lget l1 i8)).bind fun e14 => (bif ((decide (at11 > 0)) && (decide (e13.Oxm.Field > e14.Oxm.Field))) then (F_r28_fields_l2 l6 l1 i8 go1 m12) (IntKind.i64.wrap (at11 - 1)) else (appd l6 [(⟨0, 0, 0, 0, 0, zOxm⟩ : Action)]).bind fun l15 => F_r28_fields_l3 at11 l1 i8 go1 ((((IntKind.i64.wrap ((l15.length : Int) - 1)) : Int) - at11).toNat + 1) l15 (IntKind.i64.wrap ((l15.length : Int) - 1)))
def F_r28_fields_l1 (l1 : (List Action)) : Nat → (List Action) → Int → Option (List Action)
  | 0, _, _ => none
  | m9 + 1, l6, i8 => (bif (decide (i8 < (l1.length : Int))) then F_r28_fields_l2 l6 l1 i8 (F_r28_fields_l1 l1 m9) fuel0 (l6.length : Int) else some l6)
def F_r28_fields (l1 : (List Action)) : Option (List Action) :=
  F_r28_fields_l1 l1 ((((l1.length : Int) : Int) - 0).toNat + 1) [] 0
theorem c_r28_fields (l1 : (List Action)) (r : (List Action)) (h : F_r28_fields l1 = some r) : PCon Tryz.prog 228 [rd (ksl kAction) l1] (rd (ksl kAction) r) := by
  refine PCon.of (Con.intro0 Tryz.func228 rfl Tryz.ntmps228 rfl fun w H => ?_)
  unfold F_r28_fields at h
  refine SR <| Ac (op_assign (A := rd (ksl kAction) []) rfl rfl vnil) rfl <| Nl <| SR <| Ct rfl (op_buildSlice 1001 (ps := []) (l := []) rfl rfl sl122 zr121 rfl rfl rfl rfl) ?_
  rintro _ ⟨v2, rfl⟩
  refine Aw rfl <| Nl <| AW.seq <| SR <| Ak rfl <| Nl <| AW.block <| AW.loopG (d := []) (ν := Nat × (List Action) × Int × Value) (fun n => True ∧ F_r28_fields_l1 l1 n.1 n.2.1 n.2.2.1 = some r) (fun n => n.1) (fun n => [(0, rd (ksl kAction) l1), (3, raw n.2.2.2), (4, rd (kint .i64) n.2.2.1)]) (fun n => [(1001, Row n.2.2.2 121 kAction n.2.1)]) (((((l1.length : Int) : Int) - 0).toNat + 1), [], 0, v2) ⟨trivial, h⟩ ⟨rfl, ⟨rfl, rfl, rfl, trivial⟩, ⟨rfl, trivial⟩⟩ ?_
  rintro ⟨m9, l6, i8, v7⟩ ⟨hsf1, h⟩
  change True at hsf1
  change F_r28_fields_l1 l1 m9 l6 i8 = some r at h
  change AW _ _ _ ⟨slots [(0, rd (ksl kAction) l1), (3, raw v7), (4, rd (kint .i64) i8)], ress [(1001, Row v7 121 kAction l6)], _⟩
  cases m9 with
  | zero => cases h
  | succ m9 =>
    unfold F_r28_fields_l1 at h
    generalize hgo1 : F_r28_fields_l1 l1 m9 = go1 at h
    refine AW.seq <| SR <| Md rfl <| Md rfl <| Ac (op_len' rfl rfl sl122 (vt rfl)) rfl <| Ac (op_lss rfl rfl (vt rfl) (vt rfl)) rfl <| Nl <| Cn rfl (fun hc => ?_) (fun hc => ?_)
    · have h := cond_t hc h
      refine AW.skip <| AW.seq <| AW.block <| SR <| Mw rfl <| Ac (op_leno 1001 rfl rfl sl122 (vt rfl) rfl) rfl <| As rfl <| Nl <| AW.seq <| AW.block <| AW.loopG (d := []) (ν := Nat × Int) (fun n => True ∧ F_r28_fields_l2 l6 l1 i8 go1 n.1 n.2 = some r) (fun n => n.1) (fun n => [(0, rd (ksl kAction) l1), (3, raw v7), (4, rd (kint .i64) i8), (5, rd (kint .i64) n.2)]) (fun n => [(1001, Row v7 121 kAction l6)]) (fuel0, (l6.length : Int)) ⟨trivial, h⟩ ⟨rfl, ⟨rfl, rfl, rfl, rfl, trivial⟩, ⟨rfl, trivial⟩⟩ ?_
      rintro ⟨m12, at11⟩ ⟨hsf2, h⟩
      change True at hsf2
      change F_r28_fields_l2 l6 l1 i8 go1 m12 at11 = some r at h
      change AW _ _ _ ⟨slots [(0, rd (ksl kAction) l1), (3, raw v7), (4, rd (kint .i64) i8), (5, rd (kint .i64) at11)], ress [(1001, Row v7 121 kAction l6)], _⟩
      cases m12 with
      | zero => cases h
      | succ m12 =>
        unfold F_r28_fields_l2 at h
        generalize hgo2 : F_r28_fields_l2 l6 l1 i8 go1 m12 = go2 at h
        refine AW.seq <| AW.seq ?_
        obtain ⟨e13, he13, h⟩ := bsome h
        obtain ⟨e14, he14, h⟩ := bsome h
        refine AW.regionAny [⟨[5], [16], [], []⟩, ⟨[16], [17], [], []⟩, ⟨[17], [18], [], []⟩, ⟨[3, 18], [19], [], []⟩, ⟨[5, 18], [20], [], []⟩, ⟨[20, 18], [21], [], []⟩, ⟨[19, 21, 18], [22], [1001], []⟩, ⟨[22, 18], [23], [], []⟩, ⟨[23, 18], [24], [], []⟩, ⟨[24, 18], [25], [1001], []⟩, ⟨[0, 18], [26], [], []⟩, ⟨[4, 18], [27], [], []⟩, ⟨[26, 27, 18], [28], [], []⟩, ⟨[28, 18], [29], [], []⟩, ⟨[29, 18], [30], [], []⟩, ⟨[30, 18], [31], [], []⟩, ⟨[25, 31, 18], [32], [], []⟩, ⟨[32, 18], [33], [], []⟩] mixed (by kernel_rfl) <| SMd rfl <| Sc (lo [16] [] rfl fun S hs hr => op_gtr rfl rfl (vh hs 16 rfl rfl) (vk rfl)) rfl <| SMd rfl <| Sc (lg [3, 18] [] rfl fun hq S hs hr => op_move (A := raw v7) rfl rfl (vh hs 3 rfl rfl)) rfl <| Sc (lg [5, 18] [] rfl fun hq S hs hr => op_move (A := rd (kint .i64) at11) rfl rfl (vh hs 5 rfl rfl)) rfl <| Sc (lg [20, 18] [] rfl fun hq S hs hr => op_sub rfl rfl (vgt ((hs 20 rfl).trans rfl) hq) (vk rfl)) rfl <| Sc (lg [19, 21, 18] [1001] rfl fun hq S hs hr => op_indexo' 1001 rfl rfl sl122 (vgt ((hs 19 rfl).trans rfl) hq) ((hr 1001 rfl).trans rfl) (vgt ((hs 21 rfl).trans rfl) hq) (opt_t he13 hq)) rfl <| Sc (lg [22, 18] [] rfl fun hq S hs hr => op_fieldo lAction_5 rfl rfl fl121_5 (vgt ((hs 22 rfl).trans rfl) hq)) rfl <| Sc (lg [23, 18] [] rfl fun hq S hs hr => op_fieldo lOxm_0 rfl rfl fl119_0 (vgt ((hs 23 rfl).trans rfl) hq)) rfl <| Sc (lg [24, 18] [1001] rfl fun hq S hs hr => op_loado' 1001 rfl rfl ty3 (vgt ((hs 24 rfl).trans rfl) hq) ((hr 1001 rfl).trans rfl) (lget_of (opt_t he13 hq)).2) rfl <| Sc (lg [0, 18] [] rfl fun hq S hs hr => op_move (A := rd (ksl kAction) l1) rfl rfl (vh hs 0 rfl rfl)) rfl <| Sc (lg [4, 18] [] rfl fun hq S hs hr => op_move (A := rd (kint .i64) i8) rfl rfl (vh hs 4 rfl rfl)) rfl <| Sc (lg [26, 27, 18] [] rfl fun hq S hs hr => op_indexs' rfl rfl sl122 (vgt ((hs 26 rfl).trans rfl) hq) (vgt ((hs 27 rfl).trans rfl) hq) (opt_t he14 hq)) rfl <| Sc (lg [28, 18] [] rfl fun hq S hs hr => op_fieldp lAction_5 rfl rfl fl121_5 (vgt ((hs 28 rfl).trans rfl) hq)) rfl <| Sc (lg [29, 18] [] rfl fun hq S hs hr => op_fieldp lOxm_0 rfl rfl fl119_0 (vgt ((hs 29 rfl).trans rfl) hq)) rfl <| Sc (lg [30, 18] [] rfl fun hq S hs hr => op_loadp rfl rfl ty3 (vgt ((hs 30 rfl).trans rfl) hq)) rfl <| Sc (lg [25, 31, 18] [] rfl fun hq S hs hr => op_gtr rfl rfl (vgt ((hs 25 rfl).trans rfl) hq) (vgt ((hs 31 rfl).trans rfl) hq)) rfl <| Sc (lo [32, 18] [] rfl fun S hs hr => op_all rfl rfl (vh hs 18 rfl rfl) (vh hs 32 rfl rfl)) rfl <| Cn rfl (fun hc => ?_) (fun hc => ?_)
        · have h := cond_t hc h
          refine AW.skip <| AW.block <| Rg <| Md rfl <| Ac (op_sub rfl rfl (vt rfl) (vk rfl)) rfl <| As rfl <| Nl ?_
          subst hgo2
          exact ⟨(m12, (IntKind.i64.wrap (at11 - 1))), Nat.lt_succ_self _, ⟨trivial, h⟩, ⟨rfl, ⟨rfl, rfl, rfl, rfl, trivial⟩, ⟨rfl, trivial⟩⟩⟩
        · have h := cond_f hc h
          refine AW.exit <| AW.seq ?_
          obtain ⟨l15, hl15, h⟩ := bsome h
          refine Rg <| Mw rfl <| Ac (op_build (ps := []) (x := (⟨0, 0, 0, 0, 0, zOxm⟩ : Action)) rfl rfl rfl (by kernel_rfl) zr121 rfl) rfl <| Ac (op_buildSliceR (ps := [(0, .tmp 37)]) (l := [(⟨0, 0, 0, 0, 0, zOxm⟩ : Action)]) rfl rfl sl122 zr121 rfl rfl ⟨_, _, Lens.idx 1 kAction 0 (by decide), _, rfl, (vt rfl), rfl⟩ rfl) rfl <| Ct rfl (op_append' 1001 hl15 rfl rfl el122 (vt rfl) rfl (vt rfl)) ?_
          rintro _ ⟨v16, rfl⟩
          refine Aw rfl <| Nl <| AW.seq <| SR <| Mw rfl <| Ac (op_leno 1001 rfl rfl sl122 (vt rfl) rfl) rfl <| Ac (op_sub rfl rfl (vt rfl) (vk rfl)) rfl <| As rfl <| Nl <| AW.block <| AW.loopG (d := []) (ν := Nat × (List Action) × Int) (fun n => True ∧ F_r28_fields_l3 at11 l1 i8 go1 n.1 n.2.1 n.2.2 = some r) (fun n => n.1) (fun n => [(0, rd (ksl kAction) l1), (3, raw v16), (4, rd (kint .i64) i8), (5, rd (kint .i64) at11), (6, rd (kint .i64) n.2.2)]) (fun n => [(1001, Row v16 121 kAction n.2.1)]) (((((IntKind.i64.wrap ((l15.length : Int) - 1)) : Int) - at11).toNat + 1), l15, (IntKind.i64.wrap ((l15.length : Int) - 1))) ⟨trivial, h⟩ ⟨rfl, ⟨rfl, rfl, rfl, rfl, rfl, trivial⟩, ⟨rfl, trivial⟩⟩ ?_
          rintro ⟨m21, l19, j20⟩ ⟨hsf3, h⟩
          change True at hsf3
          change F_r28_fields_l3 at11 l1 i8 go1 m21 l19 j20 = some r at h
          change AW _ _ _ ⟨slots [(0, rd (ksl kAction) l1), (3, raw v16), (4, rd (kint .i64) i8), (5, rd (kint .i64) at11), (6, rd (kint .i64) j20)], ress [(1001, Row v16 121 kAction l19)], _⟩
          cases m21 with
          | zero => cases h
          | succ m21 =>
            unfold F_r28_fields_l3 at h
            generalize hgo3 : F_r28_fields_l3 at11 l1 i8 go1 m21 = go3 at h
            refine AW.seq <| SR <| Md rfl <| Md rfl <| Ac (op_gtr rfl rfl (vt rfl) (vt rfl)) rfl <| Nl <| Cn rfl (fun hc => ?_) (fun hc => ?_)
            · have h := cond_t hc h
              refine AW.skip <| AW.seq <| AW.block ?_
              obtain ⟨e22, he22, h⟩ := bsome h
              obtain ⟨e23, he23, h⟩ := bsome h
              refine Rg <| Mw rfl <| Md rfl <| Mw rfl <| Md rfl <| Ac (op_sub rfl rfl (vt rfl) (vk rfl)) rfl <| Ac (op_indexo' 1001 rfl rfl sl122 (vt rfl) rfl (vt rfl) he22) rfl <| Ac (op_loado' 1001 rfl rfl ty121 (vt rfl) rfl (lget_of he22).2) rfl <| Ac (op_indexo' 1001 rfl rfl sl122 (vt rfl) rfl (vt rfl) he23) rfl <| Ac (op_storeo' 1001 rfl rfl ty121 (vt rfl) rfl (lget_of he23).2 (vt rfl)) rfl <| Nl <| Rg <| Md rfl <| Ac (op_sub rfl rfl (vt rfl) (vk rfl)) rfl <| As rfl <| Nl ?_
              subst hgo3
              exact ⟨(m21, (List.set l19 j20.toNat e22), (IntKind.i64.wrap (j20 - 1))), Nat.lt_succ_self _, ⟨trivial, h⟩, ⟨rfl, ⟨rfl, rfl, rfl, rfl, rfl, trivial⟩, ⟨rfl, trivial⟩⟩⟩
            · have h := cond_f hc h
              refine AW.exit ?_
              obtain ⟨e24, he24, h⟩ := bsome h
              obtain ⟨e25, he25, h⟩ := bsome h
              refine Rg <| Mw rfl <| Md rfl <| Md rfl <| Md rfl <| Ac (op_indexs' rfl rfl sl122 (vt rfl) (vt rfl) he24) rfl <| Lp1 ty121 rfl <| Ac (op_indexo' 1001 rfl rfl sl122 (vt rfl) rfl (vt rfl) he25) rfl <| Ac (op_storeo' 1001 rfl rfl ty121 (vt rfl) rfl (lget_of he25).2 (vt rfl)) rfl <| Nl <| Rg <| Md rfl <| Ac (op_add rfl rfl (vt rfl) (vk rfl)) rfl <| As rfl <| Nl ?_
              subst hgo1
              exact ⟨(m9, (List.set l19 at11.toNat e24), (IntKind.i64.wrap (i8 + 1)), v16), Nat.lt_succ_self _, ⟨trivial, h⟩, ⟨rfl, ⟨rfl, rfl, rfl, trivial⟩, ⟨rfl, trivial⟩⟩⟩
    · have h := cond_f hc h
      refine AW.exit <| SR <| Mw rfl <| Aw rfl <| Nl <| AW.freezes [2, 3, 63] 1001 rfl ⟨rfl, rfl, rfl, trivial⟩ rfl <| AW.ret ?_
      obtain rfl := si h
      exact ret1 Tryz.results228 rfl (out_tmp rfl)
def F_r28_List (set1 : (List Action)) : Option (List Action) :=
  (F_r28_of set1 18).bind fun x2 => (F_r28_of set1 17).bind fun x4 => (appd x2 x4).bind fun l5 => (F_r28_of set1 25).bind fun x7 => (F_r28_fields x7).bind fun x8 => (appd l5 x8).bind fun l9 => (F_r28_of set1 22).bind fun x11 => (bif (decide ((x11.length : Int) > 0)) then (appd l9 x11).bind fun l12 => some l12 else (F_r28_of set1 0).bind fun x14 => (appd l9 x14).bind fun l15 => some l15)
theorem c_r28_List (set1 : (List Action)) (r : (List Action)) (h : F_r28_List set1 = some r) : PCon Tryz.prog 155 [rd (ksl kAction) set1] (rd (ksl kAction) r) := by
  refine PCon.of (Con.intro0 Tryz.func155 rfl Tryz.ntmps155 rfl fun w H => ?_)
  unfold F_r28_List at h
  refine SR <| Ac (op_assign (A := rd (ksl kAction) []) rfl rfl vnil) rfl <| Nl <| AW.seq ?_
  obtain ⟨x2, hx2, h⟩ := bsome h
  obtain ⟨x4, hx4, h⟩ := bsome h
  obtain ⟨l5, hl5, h⟩ := bsome h
  refine Rg <| Md rfl <| Ct rfl (op_callR 1001 (xs := [.tmp 5, .const (Value.int IntKind.i64 18)]) (c_r28_of_o _ _ _ hx2) e227 rfl rfl ⟨vt rfl, vk rfl, trivial⟩ rfl) ?_
  rintro _ ⟨v3, rfl⟩
  refine Md rfl <| Ac (op_call (xs := [.tmp 7, .const (Value.int IntKind.i64 17)]) (c_r28_of _ _ _ hx4) e227 rfl rfl ⟨vt rfl, vk rfl, trivial⟩) rfl <| Ct rfl (op_append' 1001 hl5 rfl rfl el122 (vt rfl) rfl (vt rfl)) ?_
  rintro _ ⟨v6, rfl⟩
  refine Aw rfl <| Nl <| AW.seq ?_
  obtain ⟨x7, hx7, h⟩ := bsome h
  obtain ⟨x8, hx8, h⟩ := bsome h
  obtain ⟨l9, hl9, h⟩ := bsome h
  refine Rg <| Mw rfl <| Md rfl <| Ac (op_call (xs := [.tmp 11, .const (Value.int IntKind.i64 25)]) (c_r28_of _ _ _ hx7) e227 rfl rfl ⟨vt rfl, vk rfl, trivial⟩) rfl <| Cl [12] (c_r28_fields _ _ hx8) e228 rfl <| Ct rfl (op_append' 1001 hl9 rfl rfl el122 (vt rfl) rfl (vt rfl)) ?_
  rintro _ ⟨v10, rfl⟩
  refine Aw rfl <| Nl <| AW.seq <| AW.seq ?_
  obtain ⟨x11, hx11, h⟩ := bsome h
  refine Rg <| Md rfl <| Ac (op_call (xs := [.tmp 15, .const (Value.int IntKind.i64 22)]) (c_r28_of _ _ _ hx11) e227 rfl rfl ⟨vt rfl, vk rfl, trivial⟩) rfl <| As rfl <| Nl <| SR <| Md rfl <| Ac (op_len' rfl rfl sl122 (vt rfl)) rfl <| Ac (op_gtr rfl rfl (vt rfl) (vk rfl)) rfl <| Nl <| Cn rfl (fun hc => ?_) (fun hc => ?_)
  · have h := cond_t hc h
    refine AW.seq ?_
    obtain ⟨l12, hl12, h⟩ := bsome h
    refine Rg <| Mw rfl <| Md rfl <| Ct rfl (op_append' 1001 hl12 rfl rfl el122 (vt rfl) rfl (vt rfl)) ?_
    rintro _ ⟨v13, rfl⟩
    refine Aw rfl <| Nl <| AW.freezes [2, 22] 1001 rfl ⟨rfl, rfl, trivial⟩ rfl <| AW.ret ?_
    obtain rfl := si h
    exact ret1 Tryz.results155 rfl (out_tmp rfl)
  · have h := cond_f hc h
    refine AW.skip <| AW.seq ?_
    obtain ⟨x14, hx14, h⟩ := bsome h
    obtain ⟨l15, hl15, h⟩ := bsome h
    refine Rg <| Mw rfl <| Md rfl <| Ac (op_call (xs := [.tmp 24, .const (Value.int IntKind.i64 0)]) (c_r28_of _ _ _ hx14) e227 rfl rfl ⟨vt rfl, vk rfl, trivial⟩) rfl <| Ct rfl (op_append' 1001 hl15 rfl rfl el122 (vt rfl) rfl (vt rfl)) ?_
    rintro _ ⟨v16, rfl⟩
    refine Aw rfl <| Nl <| AW.freezes [2, 26] 1001 rfl ⟨rfl, rfl, trivial⟩ rfl <| AW.ret ?_
    obtain rfl := si h
    exact ret1 Tryz.results155 rfl (out_tmp rfl)
def F_r33_walk_s_l1 (x12 : (List Int)) (table2 : Int) (s1 : Switch) (r4 : (Vector Tern 24)) (cu3 : (Vector Tern 24)) (R_r33_one : (Switch → Int → Flow → (Vector Tern 24) → (Vector Tern 24) → (List Atom) → (List Action) → Option (List Rule))) (atoms5 : (List Atom)) (set6 : (List Action)) : Nat → (List Rule) → Int → Option (List Rule)
  | 0, _, _ => none
  | m19 + 1, l16, i18 => (bif (decide (i18 < (x12.length : Int))) then (chk 4 table2).bind fun j20 => (lget x12 i18).bind fun e21 => (lget (Vector.get s1.Tables j20) e21).bind fun e22 => (F_r21_Cube e22).bind fun x24 => (F_r09_Before r4 x24).bind fun x25 => (bif (!x25.2) then (F_r33_walk_s_l1 x12 table2 s1 r4 cu3 R_r33_one atoms5 set6 m19) l16 (IntKind.i64.wrap (i18 + 1)) else (F_r06_Meet x25.1 cu3).bind fun x27 => (bif x27.2 then (R_r33_one s1 table2 e22 x27.1 r4 atoms5 set6).bind fun x29 => (appd l16 x29).bind fun l30 => (F_r33_walk_s_l1 x12 table2 s1 r4 cu3 R_r33_one atoms5 set6 m19) l30 (IntKind.i64.wrap (i18 + 1)) else (F_r33_walk_s_l1 x12 table2 s1 r4 cu3 R_r33_one atoms5 set6 m19) l16 (IntKind.i64.wrap (i18 + 1)))) else (appd [] atoms5).bind fun l33 => (appd l16 [(⟨cu3, l33⟩ : Rule)]).bind fun l34 => some l34)
def F_r33_walk_s (R_r33_walk : (Switch → Int → (Vector Tern 24) → (Vector Tern 24) → (List Atom) → (List Action) → Option (List Rule))) (R_r33_one : (Switch → Int → Flow → (Vector Tern 24) → (Vector Tern 24) → (List Atom) → (List Action) → Option (List Rule))) (s1 : Switch) (table2 : Int) (cu3 : (Vector Tern 24)) (r4 : (Vector Tern 24)) (atoms5 : (List Atom)) (set6 : (List Action)) : Option (List Rule) :=
  (chk 4 table2).bind fun j11 => (F_r27_Order (Vector.get s1.Tables j11)).bind fun x12 => F_r33_walk_s_l1 x12 table2 s1 r4 cu3 R_r33_one atoms5 set6 ((((x12.length : Int) : Int) - 0).toNat + 1) [] 0
theorem c_r33_walk_s (R_r33_walk : (Switch → Int → (Vector Tern 24) → (Vector Tern 24) → (List Atom) → (List Action) → Option (List Rule))) (hR_r33_walk : ∀ (s1 : Switch) (table2 : Int) (cu3 : (Vector Tern 24)) (r4 : (Vector Tern 24)) (atoms5 : (List Atom)) (set6 : (List Action)) (r : (List Rule)), R_r33_walk s1 table2 cu3 r4 atoms5 set6 = some r → PCon Tryz.prog 78 [rd kSwitch s1, rd (kint .i64) table2, rd (karr 24 kTern) cu3, rd (karr 24 kTern) r4, rd (ksl kAtom) atoms5, rd (ksl kAction) set6] (rd (ksl kRule) r)) (R_r33_one : (Switch → Int → Flow → (Vector Tern 24) → (Vector Tern 24) → (List Atom) → (List Action) → Option (List Rule))) (hR_r33_one : ∀ (s1 : Switch) (table2 : Int) (f3 : Flow) (cu4 : (Vector Tern 24)) (r5 : (Vector Tern 24)) (atoms6 : (List Atom)) (set7 : (List Action)) (r : (List Rule)), R_r33_one s1 table2 f3 cu4 r5 atoms6 set7 = some r → PCon Tryz.prog 143 [rd kSwitch s1, rd (kint .i64) table2, rd kFlow f3, rd (karr 24 kTern) cu4, rd (karr 24 kTern) r5, rd (ksl kAtom) atoms6, rd (ksl kAction) set7] (rd (ksl kRule) r)) (s1 : Switch) (table2 : Int) (cu3 : (Vector Tern 24)) (r4 : (Vector Tern 24)) (atoms5 : (List Atom)) (set6 : (List Action)) (r : (List Rule)) (h : F_r33_walk_s R_r33_walk R_r33_one s1 table2 cu3 r4 atoms5 set6 = some r) : PCon Tryz.prog 78 [rd kSwitch s1, rd (kint .i64) table2, rd (karr 24 kTern) cu3, rd (karr 24 kTern) r4, rd (ksl kAtom) atoms5, rd (ksl kAction) set6] (rd (ksl kRule) r) := by
  refine PCon.of (Con.intro0 Tryz.func78 rfl Tryz.ntmps78 rfl fun w H => ?_)
  unfold F_r33_walk_s at h
  refine SR <| Ct rfl (op_box 7 rfl rfl (vt rfl)) ?_
  rintro _ ⟨g7, rfl⟩
  refine Ct rfl (op_box 9 rfl rfl (vt rfl)) ?_
  rintro _ ⟨g8, rfl⟩
  refine Ct rfl (op_box 10 rfl rfl (vt rfl)) ?_
  rintro _ ⟨g9, rfl⟩
  refine Ac (op_assign (A := rd (ksl kRule) []) rfl rfl vnil) rfl <| Nl <| SR <| Ct rfl (op_buildSlice 1001 (ps := []) (l := []) rfl rfl sl32 zr90 rfl rfl rfl rfl) ?_
  rintro _ ⟨v10, rfl⟩
  refine Aw rfl <| Nl <| AW.seq ?_
  obtain ⟨j11, hj11, h⟩ := bsome h
  obtain ⟨x12, hx12, h⟩ := bsome h
  refine Rg <| Md rfl <| FdA lSwitch_0 fl26_0 rfl <| Ac (op_index' rfl rfl ar23 (vt rfl) (vt rfl) hj11) rfl <| Ld ty22 7 rfl <| Cl [24] (c_r27_Order _ _ hx12) e139 rfl <| As rfl <| Nl <| AW.seq <| SR <| Ak rfl <| Nl <| AW.block <| AW.loopG (d := []) (ν := Nat × (List Rule) × Int × Value) (fun n => True ∧ F_r33_walk_s_l1 x12 table2 s1 r4 cu3 R_r33_one atoms5 set6 n.1 n.2.1 n.2.2.1 = some r) (fun n => n.1) (fun n => [(1, rd (kint .i64) table2), (4, rd (ksl kAtom) atoms5), (5, rd (ksl kAction) set6), (6, ptrL g7 (Lens.id kSwitch)), (8, ptrL g8 (Lens.id (karr 24 kTern))), (9, ptrL g9 (Lens.id (karr 24 kTern))), (13, raw n.2.2.2), (14, rd (ksl (kint .i64)) x12), (15, rd (kint .i64) n.2.2.1)]) (fun n => [(7, Blk g7 26 kSwitch s1), (9, Blk g8 87 (karr 24 kTern) cu3), (10, Blk g9 101 (karr 24 kTern) r4), (1001, Row n.2.2.2 90 kRule n.2.1)]) (((((x12.length : Int) : Int) - 0).toNat + 1), [], 0, v10) ⟨trivial, h⟩ ⟨rfl, ⟨rfl, rfl, rfl, rfl, rfl, rfl, rfl, rfl, rfl, trivial⟩, ⟨rfl, rfl, rfl, rfl, trivial⟩⟩ ?_
  rintro ⟨m19, l16, i18, v17⟩ ⟨hsf1, h⟩
  change True at hsf1
  change F_r33_walk_s_l1 x12 table2 s1 r4 cu3 R_r33_one atoms5 set6 m19 l16 i18 = some r at h
  change AW _ _ _ ⟨slots [(1, rd (kint .i64) table2), (4, rd (ksl kAtom) atoms5), (5, rd (ksl kAction) set6), (6, ptrL g7 (Lens.id kSwitch)), (8, ptrL g8 (Lens.id (karr 24 kTern))), (9, ptrL g9 (Lens.id (karr 24 kTern))), (13, raw v17), (14, rd (ksl (kint .i64)) x12), (15, rd (kint .i64) i18)], ress [(7, Blk g7 26 kSwitch s1), (9, Blk g8 87 (karr 24 kTern) cu3), (10, Blk g9 101 (karr 24 kTern) r4), (1001, Row v17 90 kRule l16)], _⟩
  cases m19 with
  | zero => cases h
  | succ m19 =>
    unfold F_r33_walk_s_l1 at h
    generalize hgo1 : F_r33_walk_s_l1 x12 table2 s1 r4 cu3 R_r33_one atoms5 set6 m19 = go1 at h
    refine AW.seq <| SR <| Md rfl <| Md rfl <| Ac (op_len' rfl rfl sl37 (vt rfl)) rfl <| Ac (op_lss rfl rfl (vt rfl) (vt rfl)) rfl <| Nl <| Cn rfl (fun hc => ?_) (fun hc => ?_)
    · have h := cond_t hc h
      refine AW.skip <| AW.seq <| AW.block <| AW.seq ?_
      obtain ⟨j20, hj20, h⟩ := bsome h
      obtain ⟨e21, he21, h⟩ := bsome h
      obtain ⟨e22, he22, h⟩ := bsome h
      refine AW.regionAny [⟨[1], [32], [], []⟩, ⟨[6], [33], [], []⟩, ⟨[33, 32], [34], [], []⟩, ⟨[34], [35], [7], []⟩, ⟨[14], [36], [], []⟩, ⟨[15], [37], [], []⟩, ⟨[36, 37], [38], [], []⟩, ⟨[38], [39], [], []⟩, ⟨[35, 39], [40], [], []⟩, ⟨[40], [41], [], []⟩, ⟨[], [16], [], []⟩, ⟨[16, 41], [16], [], []⟩] mixed (by kernel_rfl) <| SMd rfl <| SFd lSwitch_0 fl26_0 rfl <| Sc (lo [33, 32] [] rfl fun S hs hr => op_index' rfl rfl ar23 (vh hs 33 rfl rfl) (vh hs 32 rfl rfl) hj20) rfl <| SLd ty22 7 rfl <| SMd rfl <| SMd rfl <| Sc (lo [36, 37] [] rfl fun S hs hr => op_indexs' rfl rfl sl37 (vh hs 36 rfl rfl) (vh hs 37 rfl rfl) he21) rfl <| SLp ty3 rfl <| Sc (lo [35, 39] [] rfl fun S hs hr => op_indexs' rfl rfl sl22 (vh hs 35 rfl rfl) (vh hs 39 rfl rfl) he22) rfl <| SLp ty61 rfl <| Sc (locs (us := [(16, ownP 61 kFlow zFlow)]) (ur := []) [] [] rfl fun S hs hr => op_allocO rfl rfl rfl zr61) rfl <| Sc (locs (us := [(16, ownP 61 kFlow e22)]) (ur := []) [16, 41] [] rfl fun S hs hr => op_storeO rfl rfl ty61 ((hs 16 rfl).trans rfl) (vh hs 41 rfl rfl)) rfl <| AW.unpackP 16 17 rfl rfl fun g23 => AW.seq ?_
      obtain ⟨x24, hx24, h⟩ := bsome h
      obtain ⟨x25, hx25, h⟩ := bsome h
      refine AW.regionAny [⟨[9], [43], [10], []⟩, ⟨[16], [44], [17], []⟩, ⟨[44], [45], [], []⟩, ⟨[43, 45], [46], [], []⟩, ⟨[46], [42], [], []⟩, ⟨[42], [47], [], []⟩, ⟨[42], [48], [], []⟩, ⟨[], [17], [], []⟩, ⟨[17, 47], [17], [], []⟩, ⟨[48], [18], [], []⟩] mixed (by kernel_rfl) <| SLd ty101 10 rfl <| SLd ty61 17 rfl <| SCl [44] (c_r21_Cube _ _ hx24) e141 rfl <| SCl [43, 45] (c_r09_Before _ _ _ hx25) e140 rfl <| Sc (lo [46] [] rfl fun S hs hr => op_move (A := tup2 (rd (karr 24 kTern) x25.1) (rd kbool x25.2)) rfl rfl (vh hs 46 rfl rfl)) rfl <| Sc (lo [42] [] rfl fun S hs hr => op_fst rfl rfl (vh hs 42 rfl rfl)) rfl <| Sc (lo [42] [] rfl fun S hs hr => op_snd rfl rfl (vh hs 42 rfl rfl)) rfl <| Sc (locs (us := [(17, ownP 87 (karr 24 kTern) (Vector.replicate 24 zTern))]) (ur := []) [] [] rfl fun S hs hr => op_allocO rfl rfl rfl zr87) rfl <| Sc (locs (us := [(17, ownP 87 (karr 24 kTern) x25.1)]) (ur := []) [17, 47] [] rfl fun S hs hr => op_storeO rfl rfl ty87 ((hs 17 rfl).trans rfl) (vh hs 47 rfl rfl)) rfl <| SAs rfl <| AW.unpackP 17 18 rfl rfl fun g26 => AW.seq <| SR <| Md rfl <| Ac (op_not rfl rfl (vt rfl)) rfl <| Nl <| Cn rfl (fun hc => ?_) (fun hc => ?_)
      · have h := cond_t hc h
        refine AW.exit <| Rg <| Md rfl <| Ac (op_add rfl rfl (vt rfl) (vk rfl)) rfl <| As rfl <| Nl ?_
        subst hgo1
        exact ⟨(m19, l16, (IntKind.i64.wrap (i18 + 1)), v17), Nat.lt_succ_self _, ⟨trivial, h⟩, ⟨rfl, ⟨rfl, rfl, rfl, rfl, rfl, rfl, rfl, rfl, rfl, trivial⟩, ⟨rfl, rfl, rfl, rfl, trivial⟩⟩⟩
      · have h := cond_f hc h
        refine AW.skip <| AW.seq ?_
        obtain ⟨x27, hx27, h⟩ := bsome h
        refine Rg <| Ld ty87 18 rfl <| Ld ty87 9 rfl <| Cl [52, 53] (c_r06_Meet _ _ _ hx27) e142 rfl <| Mt2 rfl <| Ac (op_fst rfl rfl (vt rfl)) rfl <| Ac (op_snd rfl rfl (vt rfl)) rfl <| Ct rfl (op_alloc 20 rfl rfl zr87) ?_
        rintro _ ⟨g28, rfl⟩
        refine Sto ty87 20 rfl <| As rfl <| Nl <| SR <| Md rfl <| Nl <| Cn rfl (fun hc => ?_) (fun hc => ?_)
        · have h := cond_t hc h
          obtain ⟨x29, hx29, h⟩ := bsome h
          obtain ⟨l30, hl30, h⟩ := bsome h
          refine Rg <| Mw rfl <| Ld ty26 7 rfl <| Md rfl <| Ld ty61 17 rfl <| Ld ty87 20 rfl <| Ld ty101 10 rfl <| Md rfl <| Md rfl <| Cl [59, 60, 61, 62, 63, 64, 65] (hR_r33_one _ _ _ _ _ _ _ _ hx29) e143 rfl <| Ct rfl (op_append' 1001 hl30 rfl rfl el32 (vt rfl) rfl (vt rfl)) ?_
          rintro _ ⟨v31, rfl⟩
          refine Aw rfl <| Nl <| Rg <| Md rfl <| Ac (op_add rfl rfl (vt rfl) (vk rfl)) rfl <| As rfl <| Nl ?_
          subst hgo1
          exact ⟨(m19, l30, (IntKind.i64.wrap (i18 + 1)), v31), Nat.lt_succ_self _, ⟨trivial, h⟩, ⟨rfl, ⟨rfl, rfl, rfl, rfl, rfl, rfl, rfl, rfl, rfl, trivial⟩, ⟨rfl, rfl, rfl, rfl, trivial⟩⟩⟩
        · have h := cond_f hc h
          refine AW.skip <| Rg <| Md rfl <| Ac (op_add rfl rfl (vt rfl) (vk rfl)) rfl <| As rfl <| Nl ?_
          subst hgo1
          exact ⟨(m19, l16, (IntKind.i64.wrap (i18 + 1)), v17), Nat.lt_succ_self _, ⟨trivial, h⟩, ⟨rfl, ⟨rfl, rfl, rfl, rfl, rfl, rfl, rfl, rfl, rfl, trivial⟩, ⟨rfl, rfl, rfl, rfl, trivial⟩⟩⟩
    · have h := cond_f hc h
      refine AW.exit <| AW.seq ?_
      obtain ⟨l33, hl33, h⟩ := bsome h
      obtain ⟨l34, hl34, h⟩ := bsome h
      refine AW.regionAny [⟨[13], [68], [], []⟩, ⟨[8], [69], [9], []⟩, ⟨[], [70], [1003], []⟩, ⟨[4], [71], [], []⟩, ⟨[70, 71], [70, 72], [1004], []⟩, ⟨[69, 72], [73], [], []⟩, ⟨[73], [74], [], []⟩, ⟨[68, 74], [75], [1001], [1001]⟩, ⟨[75], [75, 12], [1005], []⟩] mixed (by kernel_rfl) <| SMw rfl <| SLd ty87 9 rfl <| Sc (locs (us := [(70, ownR 126 kAtom ([] : List Atom))]) (ur := []) [] [1003] rfl fun S hs hr => op_ownR (op_buildSlice 1003 (ps := []) (l := []) rfl rfl sl88 zr126 rfl rfl rfl rfl) rfl ((hr 1003 rfl).trans rfl)) rfl <| SMd rfl <| Sc (locs (us := [(70, top), (72, rd (ksl kAtom) l33)]) (ur := []) [70, 71] [1004] rfl fun S hs hr => op_appendF 1004 rfl hl33 rfl rfl rfl el88 ((hs 70 rfl).trans rfl) ((hr 1004 rfl).trans rfl) (fun v => vtS rfl ((hs 71 rfl).trans rfl))) rfl <| Sc (lo [69, 72] [] rfl fun S hs hr => op_build (ps := [(0, .tmp 69), (1, .tmp 72)]) (x := (⟨cu3, l33⟩ : Rule)) rfl rfl rfl (by kernel_rfl) zr90 ⟨_, _, lRule_0, _, by kernel_rfl, (vh hs 69 rfl rfl), _, _, lRule_1, _, by kernel_rfl, (vh hs 72 rfl rfl), rfl⟩) rfl <| Sc (lo [73] [] rfl fun S hs hr => op_buildSliceR (ps := [(0, .tmp 73)]) (l := [(⟨cu3, l33⟩ : Rule)]) rfl rfl sl32 zr90 rfl rfl ⟨_, _, Lens.idx 1 kRule 0 (by decide), _, rfl, (vh hs 73 rfl rfl), rfl⟩ rfl) rfl <| Sc (locs (us := [(75, ownR 90 kRule l34)]) (ur := [(1001, emp)]) [68, 74] [1001] rfl fun S hs hr => op_appendO 1001 hl34 rfl rfl rfl el32 (vh hs 68 rfl rfl) ((hr 1001 rfl).trans rfl) (vh hs 74 rfl rfl)) rfl <| Sc (locs (us := [(75, top), (12, ownR 90 kRule l34)]) (ur := []) [75] [1005] rfl fun S hs hr => op_assignO 1005 rfl rfl rfl rfl ((hs 75 rfl).trans rfl) ((hr 1005 rfl).trans rfl)) rfl <| AW.unpackR 12 1001 rfl rfl fun v35 => AW.freezes [12] 1001 rfl ⟨rfl, trivial⟩ rfl <| AW.ret ?_
      obtain rfl := si h
      exact ret1 Tryz.results78 rfl (out_tmp rfl)
end Go.Proofs.YtknpgojdkobgjaaGreat.W
set_option linter.unusedVariables false
set_option maxRecDepth 4000
set_option linter.unusedSimpArgs false
namespace Go.Proofs.YtknpgojdkobgjaaGreat.W
open Go Go.Wb
theorem e151 : Ent Tryz.prog 151 := Ent.mk Tryz.func151 rfl rfl
theorem e78 : Ent Tryz.prog 78 := Ent.mk Tryz.func78 rfl rfl
theorem e155 : Ent Tryz.prog 155 := Ent.mk Tryz.func155 rfl rfl
theorem e211 : Ent Tryz.prog 211 := Ent.mk Tryz.func211 rfl rfl
theorem e153 : Ent Tryz.prog 153 := Ent.mk Tryz.func153 rfl rfl
theorem e79 : Ent Tryz.prog 79 := Ent.mk Tryz.func79 rfl rfl
theorem e84 : Ent Tryz.prog 84 := Ent.mk Tryz.func84 rfl rfl
theorem e81 : Ent Tryz.prog 81 := Ent.mk Tryz.func81 rfl rfl
theorem e82 : Ent Tryz.prog 82 := Ent.mk Tryz.func82 rfl rfl
theorem e20 : Ent Tryz.prog 20 := Ent.mk Tryz.func20 rfl rfl
theorem e21 : Ent Tryz.prog 21 := Ent.mk Tryz.func21 rfl rfl
theorem e23 : Ent Tryz.prog 23 := Ent.mk Tryz.func23 rfl rfl
theorem e24 : Ent Tryz.prog 24 := Ent.mk Tryz.func24 rfl rfl
theorem e26 : Ent Tryz.prog 26 := Ent.mk Tryz.func26 rfl rfl
def F_r33_one_s_j4 (f3 : Flow) (table2 : Int) (R_r33_walk : (Switch → Int → (Vector Tern 24) → (Vector Tern 24) → (List Atom) → (List Action) → Option (List Rule))) (s1 : Switch) (cu4 : (Vector Tern 24)) (l15 : (List Atom)) (set19 : (List Action)) (b20 : (Vector Tern 24)) : Option (List Rule) :=
  (F_r14_Of f3.Insts 1).bind fun x21 => (bif ((x21.2 && (decide (x21.1.Table > table2))) && (decide (x21.1.Table < 4))) then (R_r33_walk s1 x21.1.Table cu4 b20 l15 set19).bind fun x23 => some x23 else (F_r28_List set19).bind fun x24 => (F_r32_Do x24 b20).bind fun x25 => (appd l15 x25.1).bind fun l27 => some [(⟨cu4, l27⟩ : Rule)])
def F_r33_one_s_j3 (f3 : Flow) (b17 : (Vector Tern 24)) (table2 : Int) (R_r33_walk : (Switch → Int → (Vector Tern 24) → (Vector Tern 24) → (List Atom) → (List Action) → Option (List Rule))) (s1 : Switch) (cu4 : (Vector Tern 24)) (l15 : (List Atom)) (set19 : (List Action)) : Option (List Rule) :=
  (F_r14_Of f3.Insts 2).bind fun x28 => (bif x28.2 then (F_r09_Set b17 1 x28.1.Value x28.1.Mask).bind fun x30 => F_r33_one_s_j4 f3 table2 R_r33_walk s1 cu4 l15 set19 x30 else F_r33_one_s_j4 f3 table2 R_r33_walk s1 cu4 l15 set19 b17)
def F_r33_one_s_j2 (f3 : Flow) (b17 : (Vector Tern 24)) (table2 : Int) (R_r33_walk : (Switch → Int → (Vector Tern 24) → (Vector Tern 24) → (List Atom) → (List Action) → Option (List Rule))) (s1 : Switch) (cu4 : (Vector Tern 24)) (l15 : (List Atom)) (set18 : (List Action)) : Option (List Rule) :=
  (F_r14_Of f3.Insts 3).bind fun x31 => (bif x31.2 then (F_r28_Write set18 x31.1.Acts).bind fun x33 => F_r33_one_s_j3 f3 b17 table2 R_r33_walk s1 cu4 l15 x33 else F_r33_one_s_j3 f3 b17 table2 R_r33_walk s1 cu4 l15 set18)
def F_r33_one_s_j1 (f3 : Flow) (table2 : Int) (R_r33_walk : (Switch → Int → (Vector Tern 24) → (Vector Tern 24) → (List Atom) → (List Action) → Option (List Rule))) (s1 : Switch) (cu4 : (Vector Tern 24)) (set7 : (List Action)) (l15 : (List Atom)) (b17 : (Vector Tern 24)) : Option (List Rule) :=
  (F_r14_Of f3.Insts 5).bind fun x34 => (bif x34.2 then F_r33_one_s_j2 f3 b17 table2 R_r33_walk s1 cu4 l15 [] else F_r33_one_s_j2 f3 b17 table2 R_r33_walk s1 cu4 l15 set7)
def F_r33_one_s (R_r33_walk : (Switch → Int → (Vector Tern 24) → (Vector Tern 24) → (List Atom) → (List Action) → Option (List Rule))) (R_r33_one : (Switch → Int → Flow → (Vector Tern 24) → (Vector Tern 24) → (List Atom) → (List Action) → Option (List Rule))) (s1 : Switch) (table2 : Int) (f3 : Flow) (cu4 : (Vector Tern 24)) (r5 : (Vector Tern 24)) (atoms6 : (List Atom)) (set7 : (List Action)) : Option (List Rule) :=
  (appd [] atoms6).bind fun l13 => (F_r14_Of f3.Insts 4).bind fun x36 => (bif x36.2 then (F_r32_Do x36.1.Acts r5).bind fun x38 => (appd l13 x38.1).bind fun l40 => F_r33_one_s_j1 f3 table2 R_r33_walk s1 cu4 set7 l40 x38.2 else F_r33_one_s_j1 f3 table2 R_r33_walk s1 cu4 set7 l13 r5)
theorem c_r33_one_s (R_r33_walk : (Switch → Int → (Vector Tern 24) → (Vector Tern 24) → (List Atom) → (List Action) → Option (List Rule))) (hR_r33_walk : ∀ (s1 : Switch) (table2 : Int) (cu3 : (Vector Tern 24)) (r4 : (Vector Tern 24)) (atoms5 : (List Atom)) (set6 : (List Action)) (r : (List Rule)), R_r33_walk s1 table2 cu3 r4 atoms5 set6 = some r → PCon Tryz.prog 78 [rd kSwitch s1, rd (kint .i64) table2, rd (karr 24 kTern) cu3, rd (karr 24 kTern) r4, rd (ksl kAtom) atoms5, rd (ksl kAction) set6] (rd (ksl kRule) r)) (R_r33_one : (Switch → Int → Flow → (Vector Tern 24) → (Vector Tern 24) → (List Atom) → (List Action) → Option (List Rule))) (hR_r33_one : ∀ (s1 : Switch) (table2 : Int) (f3 : Flow) (cu4 : (Vector Tern 24)) (r5 : (Vector Tern 24)) (atoms6 : (List Atom)) (set7 : (List Action)) (r : (List Rule)), R_r33_one s1 table2 f3 cu4 r5 atoms6 set7 = some r → PCon Tryz.prog 143 [rd kSwitch s1, rd (kint .i64) table2, rd kFlow f3, rd (karr 24 kTern) cu4, rd (karr 24 kTern) r5, rd (ksl kAtom) atoms6, rd (ksl kAction) set7] (rd (ksl kRule) r)) (s1 : Switch) (table2 : Int) (f3 : Flow) (cu4 : (Vector Tern 24)) (r5 : (Vector Tern 24)) (atoms6 : (List Atom)) (set7 : (List Action)) (r : (List Rule)) (h : F_r33_one_s R_r33_walk R_r33_one s1 table2 f3 cu4 r5 atoms6 set7 = some r) : PCon Tryz.prog 143 [rd kSwitch s1, rd (kint .i64) table2, rd kFlow f3, rd (karr 24 kTern) cu4, rd (karr 24 kTern) r5, rd (ksl kAtom) atoms6, rd (ksl kAction) set7] (rd (ksl kRule) r) := by
  refine PCon.of (Con.intro0 Tryz.func143 rfl Tryz.ntmps143 rfl fun w H => ?_)
  unfold F_r33_one_s at h
  refine SR <| Ct rfl (op_box 8 rfl rfl (vt rfl)) ?_
  rintro _ ⟨g8, rfl⟩
  refine Ct rfl (op_box 10 rfl rfl (vt rfl)) ?_
  rintro _ ⟨g9, rfl⟩
  refine Ct rfl (op_box 11 rfl rfl (vt rfl)) ?_
  rintro _ ⟨g10, rfl⟩
  refine Ct rfl (op_box 12 rfl rfl (vt rfl)) ?_
  rintro _ ⟨g11, rfl⟩
  refine Ac (op_assign (A := rd (ksl kRule) []) rfl rfl vnil) rfl <| Nl <| AW.seq ?_
  obtain ⟨l13, hl13, h⟩ := bsome h
  refine Rg <| Ct rfl (op_buildSlice 1001 (ps := []) (l := []) rfl rfl sl88 zr126 rfl rfl rfl rfl) ?_
  rintro _ ⟨v12, rfl⟩
  refine Md rfl <| Ct rfl (op_append' 1001 hl13 rfl rfl el88 (vt rfl) rfl (vt rfl)) ?_
  rintro _ ⟨v14, rfl⟩
  refine Aw rfl <| Nl ?_
  refine AW.join (d := []) (ν := (List Atom) × (Vector Tern 24) × Value) (fun n => F_r33_one_s_j1 f3 table2 R_r33_walk s1 cu4 set7 n.1 n.2.1 = some r) (fun n => [(1, rd (kint .i64) table2), (5, raw n.2.2), (6, rd (ksl kAction) set7), (7, ptrL g8 (Lens.id kSwitch)), (9, ptrL g9 (Lens.id kFlow)), (10, ptrL g10 (Lens.id (karr 24 kTern))), (11, ptrL g11 (Lens.id (karr 24 kTern)))]) (fun n => [(8, Blk g8 26 kSwitch s1), (10, Blk g9 61 kFlow f3), (11, Blk g10 87 (karr 24 kTern) cu4), (12, Blk g11 101 (karr 24 kTern) n.2.1), (1001, Row n.2.2 126 kAtom n.1)]) ?hx1 ?hy1
  case hy1 =>
    rintro ⟨l15, b17, v16⟩ h
    unfold F_r33_one_s_j1 at h
    change AW _ _ _ ⟨slots [(1, rd (kint .i64) table2), (5, raw v16), (6, rd (ksl kAction) set7), (7, ptrL g8 (Lens.id kSwitch)), (9, ptrL g9 (Lens.id kFlow)), (10, ptrL g10 (Lens.id (karr 24 kTern))), (11, ptrL g11 (Lens.id (karr 24 kTern)))], ress [(8, Blk g8 26 kSwitch s1), (10, Blk g9 61 kFlow f3), (11, Blk g10 87 (karr 24 kTern) cu4), (12, Blk g11 101 (karr 24 kTern) b17), (1001, Row v16 126 kAtom l15)], _⟩
    refine AW.join (d := []) (ν := (List Action)) (fun n => F_r33_one_s_j2 f3 b17 table2 R_r33_walk s1 cu4 l15 n = some r) (fun n => [(1, rd (kint .i64) table2), (5, raw v16), (6, rd (ksl kAction) n), (7, ptrL g8 (Lens.id kSwitch)), (9, ptrL g9 (Lens.id kFlow)), (10, ptrL g10 (Lens.id (karr 24 kTern))), (11, ptrL g11 (Lens.id (karr 24 kTern)))]) (fun n => [(8, Blk g8 26 kSwitch s1), (10, Blk g9 61 kFlow f3), (11, Blk g10 87 (karr 24 kTern) cu4), (12, Blk g11 101 (karr 24 kTern) b17), (1001, Row v16 126 kAtom l15)]) ?hx2 ?hy2
    case hy2 =>
      intro set18 h
      unfold F_r33_one_s_j2 at h
      change AW _ _ _ ⟨slots [(1, rd (kint .i64) table2), (5, raw v16), (6, rd (ksl kAction) set18), (7, ptrL g8 (Lens.id kSwitch)), (9, ptrL g9 (Lens.id kFlow)), (10, ptrL g10 (Lens.id (karr 24 kTern))), (11, ptrL g11 (Lens.id (karr 24 kTern)))], ress [(8, Blk g8 26 kSwitch s1), (10, Blk g9 61 kFlow f3), (11, Blk g10 87 (karr 24 kTern) cu4), (12, Blk g11 101 (karr 24 kTern) b17), (1001, Row v16 126 kAtom l15)], _⟩
      refine AW.join (d := []) (ν := (List Action)) (fun n => F_r33_one_s_j3 f3 b17 table2 R_r33_walk s1 cu4 l15 n = some r) (fun n => [(1, rd (kint .i64) table2), (5, raw v16), (6, rd (ksl kAction) n), (7, ptrL g8 (Lens.id kSwitch)), (9, ptrL g9 (Lens.id kFlow)), (10, ptrL g10 (Lens.id (karr 24 kTern))), (11, ptrL g11 (Lens.id (karr 24 kTern)))]) (fun n => [(8, Blk g8 26 kSwitch s1), (10, Blk g9 61 kFlow f3), (11, Blk g10 87 (karr 24 kTern) cu4), (12, Blk g11 101 (karr 24 kTern) b17), (1001, Row v16 126 kAtom l15)]) ?hx3 ?hy3
      case hy3 =>
        intro set19 h
        unfold F_r33_one_s_j3 at h
        change AW _ _ _ ⟨slots [(1, rd (kint .i64) table2), (5, raw v16), (6, rd (ksl kAction) set19), (7, ptrL g8 (Lens.id kSwitch)), (9, ptrL g9 (Lens.id kFlow)), (10, ptrL g10 (Lens.id (karr 24 kTern))), (11, ptrL g11 (Lens.id (karr 24 kTern)))], ress [(8, Blk g8 26 kSwitch s1), (10, Blk g9 61 kFlow f3), (11, Blk g10 87 (karr 24 kTern) cu4), (12, Blk g11 101 (karr 24 kTern) b17), (1001, Row v16 126 kAtom l15)], _⟩
        refine AW.join (d := []) (ν := (Vector Tern 24)) (fun n => F_r33_one_s_j4 f3 table2 R_r33_walk s1 cu4 l15 set19 n = some r) (fun n => [(1, rd (kint .i64) table2), (5, raw v16), (6, rd (ksl kAction) set19), (7, ptrL g8 (Lens.id kSwitch)), (9, ptrL g9 (Lens.id kFlow)), (10, ptrL g10 (Lens.id (karr 24 kTern))), (11, ptrL g11 (Lens.id (karr 24 kTern)))]) (fun n => [(8, Blk g8 26 kSwitch s1), (10, Blk g9 61 kFlow f3), (11, Blk g10 87 (karr 24 kTern) cu4), (12, Blk g11 101 (karr 24 kTern) n), (1001, Row v16 126 kAtom l15)]) ?hx4 ?hy4
        case hy4 =>
          intro b20 h
          unfold F_r33_one_s_j4 at h
          change AW _ _ _ ⟨slots [(1, rd (kint .i64) table2), (5, raw v16), (6, rd (ksl kAction) set19), (7, ptrL g8 (Lens.id kSwitch)), (9, ptrL g9 (Lens.id kFlow)), (10, ptrL g10 (Lens.id (karr 24 kTern))), (11, ptrL g11 (Lens.id (karr 24 kTern)))], ress [(8, Blk g8 26 kSwitch s1), (10, Blk g9 61 kFlow f3), (11, Blk g10 87 (karr 24 kTern) cu4), (12, Blk g11 101 (karr 24 kTern) b20), (1001, Row v16 126 kAtom l15)], _⟩
          refine AW.seq ?_
          obtain ⟨x21, hx21, h⟩ := bsome h
          refine Rg <| FdA lFlow_6 fl61_6 rfl <| Ld ty59 10 rfl <| Ac (op_call (xs := [.tmp 83, .const (Value.int IntKind.i64 1)]) (c_r14_Of _ _ _ hx21) e151 rfl rfl ⟨vt rfl, vk rfl, trivial⟩) rfl <| Mt2 rfl <| Ac (op_fst rfl rfl (vt rfl)) rfl <| Ac (op_snd rfl rfl (vt rfl)) rfl <| Ct rfl (op_alloc 26 rfl rfl zr124) ?_
          rintro _ ⟨g22, rfl⟩
          refine Sto ty124 26 rfl <| As rfl <| Nl <| AW.seq <| SR <| Md rfl <| Md rfl <| Gd rfl (fun hq => op_field lInst_1 rfl rfl fl124_1 (vt rfl)) <| Gd rfl (fun hq => op_load rfl rfl ty3 (vgt rfl hq) (i := 26) rfl) <| Gd rfl (fun hq => op_move (A := rd (kint .i64) table2) rfl rfl (vt rfl)) <| Gd rfl (fun hq => op_gtr rfl rfl (vgt rfl hq) (vgt rfl hq)) <| Ac (op_all rfl rfl (vt rfl) (vt rfl)) rfl <| Md rfl <| Gd rfl (fun hq => op_field lInst_1 rfl rfl fl124_1 (vt rfl)) <| Gd rfl (fun hq => op_load rfl rfl ty3 (vgt rfl hq) (i := 26) rfl) <| Gd rfl (fun hq => op_lss rfl rfl (vgt rfl hq) (vk rfl)) <| Ac (op_all rfl rfl (vt rfl) (vt rfl)) rfl <| Nl <| Cn rfl (fun hc => ?_) (fun hc => ?_)
          · have h := cond_t hc h
            refine AW.seq <| AW.freezes [5] 1001 rfl ⟨rfl, trivial⟩ rfl ?_
            obtain ⟨x23, hx23, h⟩ := bsome h
            refine Rg <| Ld ty26 8 rfl <| FdA lInst_1 fl124_1 rfl <| Ld ty3 26 rfl <| Ld ty87 11 rfl <| Ld ty101 12 rfl <| Md rfl <| Md rfl <| Cl [99, 101, 102, 103, 104, 105] (hR_r33_walk _ _ _ _ _ _ _ hx23) e78 rfl <| As rfl <| Nl <| AW.ret ?_
            obtain rfl := si h
            exact ret1 Tryz.results143 rfl (out_tmp rfl)
          · have h := cond_f hc h
            refine AW.skip <| AW.seq ?_
            obtain ⟨x24, hx24, h⟩ := bsome h
            obtain ⟨x25, hx25, h⟩ := bsome h
            refine AW.regionAny [⟨[6], [108], [], []⟩, ⟨[108], [109], [], []⟩, ⟨[11], [110], [12], []⟩, ⟨[109, 110], [111], [], []⟩, ⟨[111], [107], [], []⟩, ⟨[107], [112], [], []⟩, ⟨[107], [113], [], []⟩, ⟨[], [28], [], []⟩, ⟨[112], [27], [], []⟩, ⟨[28, 113], [28], [], []⟩] mixed (by kernel_rfl) <| SMd rfl <| SCl [108] (c_r28_List _ _ hx24) e155 rfl <| SLd ty101 12 rfl <| SCl [109, 110] (c_r32_Do _ _ _ hx25) e211 rfl <| Sc (lo [111] [] rfl fun S hs hr => op_move (A := tup2 (rd (ksl kAtom) x25.1) (rd (karr 24 kTern) x25.2)) rfl rfl (vh hs 111 rfl rfl)) rfl <| Sc (lo [107] [] rfl fun S hs hr => op_fst rfl rfl (vh hs 107 rfl rfl)) rfl <| Sc (lo [107] [] rfl fun S hs hr => op_snd rfl rfl (vh hs 107 rfl rfl)) rfl <| Sc (locs (us := [(28, ownP 101 (karr 24 kTern) (Vector.replicate 24 zTern))]) (ur := []) [] [] rfl fun S hs hr => op_allocO rfl rfl rfl zr101) rfl <| SAs rfl <| Sc (locs (us := [(28, ownP 101 (karr 24 kTern) x25.2)]) (ur := []) [28, 113] [] rfl fun S hs hr => op_storeO rfl rfl ty101 ((hs 28 rfl).trans rfl) (vh hs 113 rfl rfl)) rfl <| AW.unpackP 28 29 rfl rfl fun g26 => AW.seq ?_
            obtain ⟨l27, hl27, h⟩ := bsome h
            refine AW.regionAny [⟨[10], [114], [11], []⟩, ⟨[5], [115], [], []⟩, ⟨[27], [116], [], []⟩, ⟨[115, 116], [117], [1001], [1001]⟩, ⟨[114, 117], [118], [], []⟩, ⟨[118], [119], [], []⟩, ⟨[119], [14], [], []⟩] mixed (by kernel_rfl) <| SLd ty87 11 rfl <| SMw rfl <| SMd rfl <| Sc (locs (us := [(117, rd (ksl kAtom) l27)]) (ur := [(1001, emp)]) [115, 116] [1001] rfl fun S hs hr => op_appendG 1001 rfl hl27 rfl rfl rfl el88 (vh hs 115 rfl rfl) ((hr 1001 rfl).trans rfl) (vh hs 116 rfl rfl)) rfl <| Sc (lo [114, 117] [] rfl fun S hs hr => op_build (ps := [(0, .tmp 114), (1, .tmp 117)]) (x := (⟨cu4, l27⟩ : Rule)) rfl rfl rfl (by kernel_rfl) zr90 ⟨_, _, lRule_0, _, by kernel_rfl, (vh hs 114 rfl rfl), _, _, lRule_1, _, by kernel_rfl, (vh hs 117 rfl rfl), rfl⟩) rfl <| Sc (lo [118] [] rfl fun S hs hr => op_buildSliceR (ps := [(0, .tmp 118)]) (l := [(⟨cu4, l27⟩ : Rule)]) rfl rfl sl32 zr90 rfl rfl ⟨_, _, Lens.idx 1 kRule 0 (by decide), _, rfl, (vh hs 118 rfl rfl), rfl⟩ rfl) rfl <| SAs rfl <| AW.ret ?_
            obtain rfl := si h
            exact ret1 Tryz.results143 rfl (out_tmp rfl)
        case hx4 =>
          refine AW.seq ?_
          obtain ⟨x28, hx28, h⟩ := bsome h
          refine Rg <| FdA lFlow_6 fl61_6 rfl <| Ld ty59 10 rfl <| Ac (op_call (xs := [.tmp 70, .const (Value.int IntKind.i64 2)]) (c_r14_Of _ _ _ hx28) e151 rfl rfl ⟨vt rfl, vk rfl, trivial⟩) rfl <| Mt2 rfl <| Ac (op_fst rfl rfl (vt rfl)) rfl <| Ac (op_snd rfl rfl (vt rfl)) rfl <| Ct rfl (op_alloc 24 rfl rfl zr124) ?_
          rintro _ ⟨g29, rfl⟩
          refine Sto ty124 24 rfl <| As rfl <| Nl <| SR <| Md rfl <| Nl <| Cn rfl (fun hc => ?_) (fun hc => ?_)
          · have h := cond_t hc h
            obtain ⟨x30, hx30, h⟩ := bsome h
            refine Rg <| Ld ty101 12 rfl <| FdA lInst_2 fl124_2 rfl <| Ld ty42 24 rfl <| FdA lInst_3 fl124_3 rfl <| Ld ty42 24 rfl <| Ac (op_call (xs := [.tmp 75, .const (Value.int IntKind.i64 1), .tmp 77, .tmp 79]) (c_r09_Set _ _ _ _ _ hx30) e154 rfl rfl ⟨vt rfl, vk rfl, vt rfl, vt rfl, trivial⟩) rfl <| Sto ty101 12 rfl <| Nl ?_
            exact ⟨x30, h, ⟨rfl, ⟨rfl, rfl, rfl, rfl, rfl, rfl, rfl, trivial⟩, ⟨rfl, rfl, rfl, rfl, rfl, trivial⟩⟩⟩
          · have h := cond_f hc h
            refine AW.skip ?_
            exact ⟨b17, h, ⟨rfl, ⟨rfl, rfl, rfl, rfl, rfl, rfl, rfl, trivial⟩, ⟨rfl, rfl, rfl, rfl, rfl, trivial⟩⟩⟩
      case hx3 =>
        refine AW.seq ?_
        obtain ⟨x31, hx31, h⟩ := bsome h
        refine Rg <| FdA lFlow_6 fl61_6 rfl <| Ld ty59 10 rfl <| Ac (op_call (xs := [.tmp 59, .const (Value.int IntKind.i64 3)]) (c_r14_Of _ _ _ hx31) e151 rfl rfl ⟨vt rfl, vk rfl, trivial⟩) rfl <| Mt2 rfl <| Ac (op_fst rfl rfl (vt rfl)) rfl <| Ac (op_snd rfl rfl (vt rfl)) rfl <| Ct rfl (op_alloc 22 rfl rfl zr124) ?_
        rintro _ ⟨g32, rfl⟩
        refine Sto ty124 22 rfl <| As rfl <| Nl <| SR <| Md rfl <| Nl <| Cn rfl (fun hc => ?_) (fun hc => ?_)
        · have h := cond_t hc h
          obtain ⟨x33, hx33, h⟩ := bsome h
          refine Rg <| Md rfl <| FdA lInst_4 fl124_4 rfl <| Ld ty122 22 rfl <| Cl [64, 66] (c_r28_Write _ _ _ hx33) e153 rfl <| As rfl <| Nl ?_
          exact ⟨x33, h, ⟨rfl, ⟨rfl, rfl, rfl, rfl, rfl, rfl, rfl, trivial⟩, ⟨rfl, rfl, rfl, rfl, rfl, trivial⟩⟩⟩
        · have h := cond_f hc h
          refine AW.skip ?_
          exact ⟨set18, h, ⟨rfl, ⟨rfl, rfl, rfl, rfl, rfl, rfl, rfl, trivial⟩, ⟨rfl, rfl, rfl, rfl, rfl, trivial⟩⟩⟩
    case hx2 =>
      refine AW.seq ?_
      obtain ⟨x34, hx34, h⟩ := bsome h
      refine Rg <| FdA lFlow_6 fl61_6 rfl <| Ld ty59 10 rfl <| Ac (op_call (xs := [.tmp 52, .const (Value.int IntKind.i64 5)]) (c_r14_Of _ _ _ hx34) e151 rfl rfl ⟨vt rfl, vk rfl, trivial⟩) rfl <| Mt2 rfl <| Ac (op_fst rfl rfl (vt rfl)) rfl <| Ac (op_snd rfl rfl (vt rfl)) rfl <| Ct rfl (op_alloc 20 rfl rfl zr124) ?_
      rintro _ ⟨g35, rfl⟩
      refine Sto ty124 20 rfl <| As rfl <| Nl <| SR <| Md rfl <| Nl <| Cn rfl (fun hc => ?_) (fun hc => ?_)
      · have h := cond_t hc h
        refine Rg <| Ac (op_assign (A := rd (ksl kAction) []) rfl rfl vnil) rfl <| Nl ?_
        exact ⟨[], h, ⟨rfl, ⟨rfl, rfl, rfl, rfl, rfl, rfl, rfl, trivial⟩, ⟨rfl, rfl, rfl, rfl, rfl, trivial⟩⟩⟩
      · have h := cond_f hc h
        refine AW.skip ?_
        exact ⟨set7, h, ⟨rfl, ⟨rfl, rfl, rfl, rfl, rfl, rfl, rfl, trivial⟩, ⟨rfl, rfl, rfl, rfl, rfl, trivial⟩⟩⟩
  case hx1 =>
    refine AW.seq ?_
    obtain ⟨x36, hx36, h⟩ := bsome h
    refine Rg <| FdA lFlow_6 fl61_6 rfl <| Ld ty59 10 rfl <| Ac (op_call (xs := [.tmp 34, .const (Value.int IntKind.i64 4)]) (c_r14_Of _ _ _ hx36) e151 rfl rfl ⟨vt rfl, vk rfl, trivial⟩) rfl <| Mt2 rfl <| Ac (op_fst rfl rfl (vt rfl)) rfl <| Ac (op_snd rfl rfl (vt rfl)) rfl <| Ct rfl (op_alloc 16 rfl rfl zr124) ?_
    rintro _ ⟨g37, rfl⟩
    refine Sto ty124 16 rfl <| As rfl <| Nl <| SR <| Md rfl <| Nl <| Cn rfl (fun hc => ?_) (fun hc => ?_)
    · have h := cond_t hc h
      refine AW.seq ?_
      obtain ⟨x38, hx38, h⟩ := bsome h
      refine Rg <| FdA lInst_4 fl124_4 rfl <| Ld ty122 16 rfl <| Ld ty101 12 rfl <| Cl [41, 42] (c_r32_Do _ _ _ hx38) e211 rfl <| Mt2 rfl <| Ac (op_fst rfl rfl (vt rfl)) rfl <| Ac (op_snd rfl rfl (vt rfl)) rfl <| Ct rfl (op_alloc 19 rfl rfl zr101) ?_
      rintro _ ⟨g39, rfl⟩
      refine As rfl <| Sto ty101 19 rfl <| Nl ?_
      obtain ⟨l40, hl40, h⟩ := bsome h
      refine AW.endT <| AW.regionAny [⟨[5], [46], [], []⟩, ⟨[17], [47], [], []⟩, ⟨[46, 47], [48], [1001], [1001]⟩, ⟨[18], [49], [19], []⟩, ⟨[48], [48, 5], [1002], []⟩, ⟨[11, 49], [], [12], [12]⟩] mixed (by kernel_rfl) <| SMw rfl <| SMd rfl <| Sc (locs (us := [(48, ownR 126 kAtom l40)]) (ur := [(1001, emp)]) [46, 47] [1001] rfl fun S hs hr => op_appendO 1001 hl40 rfl rfl rfl el88 (vh hs 46 rfl rfl) ((hr 1001 rfl).trans rfl) (vh hs 47 rfl rfl)) rfl <| SLd ty101 19 rfl <| Sc (locs (us := [(48, top), (5, ownR 126 kAtom l40)]) (ur := []) [48] [1002] rfl fun S hs hr => op_assignO 1002 rfl rfl rfl rfl ((hs 48 rfl).trans rfl) ((hr 1002 rfl).trans rfl)) rfl <| SSt ty101 12 rfl <| EndT.unpackR 5 1001 rfl rfl fun v41 => EndT.done ?_
      exact ⟨(l40, x38.2, v41), h, ⟨rfl, ⟨rfl, rfl, rfl, rfl, rfl, rfl, rfl, trivial⟩, ⟨rfl, rfl, rfl, rfl, rfl, trivial⟩⟩⟩
    · have h := cond_f hc h
      refine AW.skip ?_
      exact ⟨(l13, r5, v14), h, ⟨rfl, ⟨rfl, rfl, rfl, rfl, rfl, rfl, rfl, trivial⟩, ⟨rfl, rfl, rfl, rfl, rfl, trivial⟩⟩⟩
def FR_r33_walk__r33_one : Nat → (Switch → Int → (Vector Tern 24) → (Vector Tern 24) → (List Atom) → (List Action) → Option (List Rule)) × (Switch → Int → Flow → (Vector Tern 24) → (Vector Tern 24) → (List Atom) → (List Action) → Option (List Rule))
  | 0 => ((fun _ _ _ _ _ _ => none), (fun _ _ _ _ _ _ _ => none))
  | n + 1 => ((F_r33_walk_s (FR_r33_walk__r33_one n).1 (FR_r33_walk__r33_one n).2), (F_r33_one_s (FR_r33_walk__r33_one n).1 (FR_r33_walk__r33_one n).2))
theorem cR_r33_walk__r33_one : ∀ n : Nat, (∀ (s1 : Switch) (table2 : Int) (cu3 : (Vector Tern 24)) (r4 : (Vector Tern 24)) (atoms5 : (List Atom)) (set6 : (List Action)) (r : (List Rule)), (FR_r33_walk__r33_one n).1 s1 table2 cu3 r4 atoms5 set6 = some r → PCon Tryz.prog 78 [rd kSwitch s1, rd (kint .i64) table2, rd (karr 24 kTern) cu3, rd (karr 24 kTern) r4, rd (ksl kAtom) atoms5, rd (ksl kAction) set6] (rd (ksl kRule) r)) ∧ (∀ (s1 : Switch) (table2 : Int) (f3 : Flow) (cu4 : (Vector Tern 24)) (r5 : (Vector Tern 24)) (atoms6 : (List Atom)) (set7 : (List Action)) (r : (List Rule)), (FR_r33_walk__r33_one n).2 s1 table2 f3 cu4 r5 atoms6 set7 = some r → PCon Tryz.prog 143 [rd kSwitch s1, rd (kint .i64) table2, rd kFlow f3, rd (karr 24 kTern) cu4, rd (karr 24 kTern) r5, rd (ksl kAtom) atoms6, rd (ksl kAction) set7] (rd (ksl kRule) r))
  | 0 => ⟨(by intros; rename_i h; cases h), (by intros; rename_i h; cases h)⟩
  | n + 1 => by
    have ih := cR_r33_walk__r33_one n
    exact ⟨(c_r33_walk_s (FR_r33_walk__r33_one n).1 ih.1 (FR_r33_walk__r33_one n).2 ih.2), (c_r33_one_s (FR_r33_walk__r33_one n).1 ih.1 (FR_r33_walk__r33_one n).2 ih.2)⟩
def F_r33_walk (s1 : Switch) (table2 : Int) (cu3 : (Vector Tern 24)) (r4 : (Vector Tern 24)) (atoms5 : (List Atom)) (set6 : (List Action)) : Option (List Rule) := (FR_r33_walk__r33_one fuel0).1 s1 table2 cu3 r4 atoms5 set6
theorem c_r33_walk : ∀ (s1 : Switch) (table2 : Int) (cu3 : (Vector Tern 24)) (r4 : (Vector Tern 24)) (atoms5 : (List Atom)) (set6 : (List Action)) (r : (List Rule)), F_r33_walk s1 table2 cu3 r4 atoms5 set6 = some r → PCon Tryz.prog 78 [rd kSwitch s1, rd (kint .i64) table2, rd (karr 24 kTern) cu3, rd (karr 24 kTern) r4, rd (ksl kAtom) atoms5, rd (ksl kAction) set6] (rd (ksl kRule) r) := (cR_r33_walk__r33_one fuel0).1
def F_r33_List (s1 : Switch) : Option (List Rule) :=
  (F_r06_All).bind fun x3 => (F_r09_None).bind fun x4 => (F_r33_walk s1 0 x3 x4 [] []).bind fun x5 => some x5
theorem c_r33_List (s1 : Switch) (r : (List Rule)) (h : F_r33_List s1 = some r) : PCon Tryz.prog 23 [rd kSwitch s1] (rd (ksl kRule) r) := by
  refine PCon.of (Con.intro0 Tryz.func23 rfl Tryz.ntmps23 rfl fun w H => ?_)
  unfold F_r33_List at h
  refine SR <| Ct rfl (op_box 2 rfl rfl (vt rfl)) ?_
  rintro _ ⟨g2, rfl⟩
  refine Ac (op_assign (A := rd (ksl kRule) []) rfl rfl vnil) rfl <| Nl <| AW.seq ?_
  obtain ⟨x3, hx3, h⟩ := bsome h
  obtain ⟨x4, hx4, h⟩ := bsome h
  obtain ⟨x5, hx5, h⟩ := bsome h
  refine AW.regionAny [⟨[1], [3], [2], []⟩, ⟨[], [4], [], []⟩, ⟨[], [5], [], []⟩, ⟨[3, 4, 5], [6], [], []⟩, ⟨[6], [2], [], []⟩] mixed (by kernel_rfl) <| SLd ty26 2 rfl <| SCl [] (c_r06_All _ hx3) e79 rfl <| SCl [] (c_r09_None _ hx4) e80 rfl <| Sc (lo [3, 4, 5] [] rfl fun S hs hr => op_call (xs := [.tmp 3, .const (Value.int IntKind.i64 0), .tmp 4, .tmp 5, .const (Value.slice none 0 0), .const (Value.slice none 0 0)]) (c_r33_walk _ _ _ _ _ _ _ hx5) e78 rfl rfl ⟨vt ((hs 3 rfl).trans rfl), vk rfl, vt ((hs 4 rfl).trans rfl), vt ((hs 5 rfl).trans rfl), vnil, vnil, trivial⟩) rfl <| SAs rfl <| AW.ret ?_
  obtain rfl := si h
  exact ret1 Tryz.results23 rfl (out_tmp rfl)
def F_slices_EqualFunc_Rule_Rule_l1 (s22 : (List Rule)) (eq3 : (Rule → Rule → Option Bool)) : (List Rule) → Nat → Option Bool
  | [], i4 => some true
  | x6 :: l5, i4 => (lget s22 (i4 : Int)).bind fun e8 => (eq3 x6 e8).bind fun x10 => (bif (!x10) then some false else (F_slices_EqualFunc_Rule_Rule_l1 s22 eq3 l5) (i4 + 1))
def F_slices_EqualFunc_Rule_Rule (s11 : (List Rule)) (s22 : (List Rule)) (eq3 : (Rule → Rule → Option Bool)) : Option Bool :=
  (bif (decide ((s11.length : Int) ≠ (s22.length : Int))) then some false else F_slices_EqualFunc_Rule_Rule_l1 s22 eq3 s11 0)
theorem c_slices_EqualFunc_Rule_Rule (s11 : (List Rule)) (s22 : (List Rule)) (eq3 : (Rule → Rule → Option Bool)) (r : Bool) (h : F_slices_EqualFunc_Rule_Rule s11 s22 eq3 = some r) : PCon Tryz.prog 81 [rd (ksl kRule) s11, rd (ksl kRule) s22, fn2 Tryz.prog kRule kRule kbool eq3] (rd kbool r) := by
  refine PCon.of (Con.intro0 Tryz.func81 rfl Tryz.ntmps81 rfl fun w H => ?_)
  unfold F_slices_EqualFunc_Rule_Rule at h
  refine SR <| Ab rfl <| Nl <| AW.seq <| SR <| Md rfl <| Ac (op_len' rfl rfl sl32 (vt rfl)) rfl <| Md rfl <| Ac (op_len' rfl rfl sl32 (vt rfl)) rfl <| Ac (op_neq rfl rfl (vt rfl) (vt rfl)) rfl <| Nl <| Cn rfl (fun hc => ?_) (fun hc => ?_)
  · have h := cond_t hc h
    refine SR <| Ab rfl <| Nl <| AW.ret ?_
    obtain rfl := si h
    exact ret1 Tryz.results81 rfl (out_tmp rfl)
  · have h := cond_f hc h
    refine AW.skip <| AW.seq <| SR <| Md rfl <| Ac (op_len' rfl rfl sl32 (vt rfl)) rfl <| Mk rfl <| Nl <| AW.block <| AW.loopG (d := []) (ν := (List Rule) × Nat) (fun n => Sfx s11 n.2 n.1 ∧ F_slices_EqualFunc_Rule_Rule_l1 s22 eq3 n.1 n.2 = some r) (fun n => n.1.length) (fun n => [(1, rd (ksl kRule) s22), (2, fn2 Tryz.prog kRule kRule kbool eq3), (15, rd (ksl kRule) s11), (16, rd (kint .i64) (s11.length : Int)), (17, rd (kint .i64) (n.2 : Int))]) (fun n => []) (s11, 0) ⟨Sfx.start _, h⟩ ⟨rfl, ⟨rfl, rfl, rfl, rfl, rfl, trivial⟩, trivial⟩ ?_
    rintro ⟨l5, i4⟩ ⟨hsf1, h⟩
    change Sfx s11 i4 l5 at hsf1
    change F_slices_EqualFunc_Rule_Rule_l1 s22 eq3 l5 i4 = some r at h
    change AW _ _ _ ⟨slots [(1, rd (ksl kRule) s22), (2, fn2 Tryz.prog kRule kRule kbool eq3), (15, rd (ksl kRule) s11), (16, rd (kint .i64) (s11.length : Int)), (17, rd (kint .i64) (i4 : Int))], ress [], _⟩
    cases l5 with
    | nil =>
      unfold F_slices_EqualFunc_Rule_Rule_l1 at h
      refine SR <| Ac (op_lss rfl rfl (vt rfl) (vt rfl)) rfl <| Nl <| AW.seq <| Cn rfl (fun hc => absurd (of_decide_eq_true hc) hsf1.nil) (fun hc => ?_)
      refine AW.exit <| SR <| Ab rfl <| Nl <| AW.ret ?_
      obtain rfl := si h
      exact ret1 Tryz.results81 rfl (out_tmp rfl)
    | cons x6 l5 =>
      unfold F_slices_EqualFunc_Rule_Rule_l1 at h
      generalize hgo1 : F_slices_EqualFunc_Rule_Rule_l1 s22 eq3 l5 = go1 at h
      refine SR <| Ac (op_lss rfl rfl (vt rfl) (vt rfl)) rfl <| Nl <| AW.seq <| Cn rfl (fun hc => ?_) (fun hc => absurd hsf1.cons (of_decide_eq_false hc))
      have hlti4 := of_decide_eq_true hc
      refine AW.skip <| AW.seq <| AW.block <| SR <| Md rfl <| Ac (op_indexs' rfl rfl sl32 (vt rfl) (vt rfl) hsf1.lget) rfl <| Lp1 ty90 rfl <| Ct rfl (op_alloc 9 rfl rfl zr90) ?_
      rintro _ ⟨g7, rfl⟩
      refine As rfl <| Sto ty90 9 rfl <| Nl <| AW.seq ?_
      obtain ⟨e8, he8, h⟩ := bsome h
      refine Rg <| Md rfl <| Md rfl <| Ac (op_indexs' rfl rfl sl32 (vt rfl) (vt rfl) he8) rfl <| Lp1 ty90 rfl <| Ct rfl (op_alloc 10 rfl rfl zr90) ?_
      rintro _ ⟨g9, rfl⟩
      refine Sto ty90 10 rfl <| Nl <| AW.seq ?_
      obtain ⟨x10, hx10, h⟩ := bsome h
      refine Rg <| Ac (op_move (A := fn2 Tryz.prog kRule kRule kbool eq3) rfl rfl (vt rfl)) rfl <| Ld ty90 9 rfl <| Ld ty90 10 rfl <| Ac (op_call2 hx10 rfl rfl (vt rfl) (vt rfl) (vt rfl)) rfl <| Ac (op_not rfl rfl (vt rfl)) rfl <| Nl <| Cn rfl (fun hc => ?_) (fun hc => ?_)
      · have h := cond_t hc h
        refine SR <| Ab rfl <| Nl <| AW.ret ?_
        obtain rfl := si h
        exact ret1 Tryz.results81 rfl (out_tmp rfl)
      · have h := cond_f hc h
        refine AW.skip <| Rg <| Ac (op_incr (t := 16) rfl rfl (vt rfl) (vk rfl) (vt rfl) hlti4) rfl <| Md rfl <| Nl ?_
        subst hgo1
        exact ⟨(l5, i4 + 1), Nat.lt_succ_self _, ⟨hsf1.next, h⟩, ⟨rfl, ⟨rfl, rfl, rfl, rfl, rfl, trivial⟩, trivial⟩⟩
def F_r32_Same_l1 (a1 : (List Atom)) (b2 : (List Atom)) : Nat → Int → Option Bool
  | 0, _ => none
  | m5 + 1, i4 => (bif (decide (i4 < (a1.length : Int))) then (lget a1 i4).bind fun e6 => (lget b2 i4).bind fun e7 => (opt (!(!(e6.Group == e7.Group))) (lget a1 i4)).bind fun e8 => (opt (!(!(e6.Group == e7.Group))) (lget b2 i4)).bind fun e9 => (opt (!((!(e6.Group == e7.Group)) || (decide (e8.Port ≠ e9.Port)))) (lget a1 i4)).bind fun e10 => (opt (!((!(e6.Group == e7.Group)) || (decide (e8.Port ≠ e9.Port)))) (lget b2 i4)).bind fun e11 => (opt (!(((!(e6.Group == e7.Group)) || (decide (e8.Port ≠ e9.Port))) || (decide (e10.Max ≠ e11.Max)))) (lget a1 i4)).bind fun e12 => (opt (!(((!(e6.Group == e7.Group)) || (decide (e8.Port ≠ e9.Port))) || (decide (e10.Max ≠ e11.Max)))) (F_r09_Clean e12.Rewrite)).bind fun x13 => (opt (!(((!(e6.Group == e7.Group)) || (decide (e8.Port ≠ e9.Port))) || (decide (e10.Max ≠ e11.Max)))) (lget b2 i4)).bind fun e14 => (opt (!(((!(e6.Group == e7.Group)) || (decide (e8.Port ≠ e9.Port))) || (decide (e10.Max ≠ e11.Max)))) (F_r09_Clean e14.Rewrite)).bind fun x15 => (bif ((((!(e6.Group == e7.Group)) || (decide (e8.Port ≠ e9.Port))) || (decide (e10.Max ≠ e11.Max))) || (decide (x13 ≠ x15))) then some false else (F_r32_Same_l1 a1 b2 m5) (IntKind.i64.wrap (i4 + 1))) else some true)
def F_r32_Same (a1 : (List Atom)) (b2 : (List Atom)) : Option Bool :=
  (bif (decide ((a1.length : Int) ≠ (b2.length : Int))) then some false else F_r32_Same_l1 a1 b2 ((((a1.length : Int) : Int) - 0).toNat + 1) 0)
theorem c_r32_Same (a1 : (List Atom)) (b2 : (List Atom)) (r : Bool) (h : F_r32_Same a1 b2 = some r) : PCon Tryz.prog 84 [rd (ksl kAtom) a1, rd (ksl kAtom) b2] (rd kbool r) := by
  refine PCon.of (Con.intro0 Tryz.func84 rfl Tryz.ntmps84 rfl fun w H => ?_)
  unfold F_r32_Same at h
  refine SR <| Ab rfl <| Nl <| AW.seq <| SR <| Md rfl <| Ac (op_len' rfl rfl sl88 (vt rfl)) rfl <| Md rfl <| Ac (op_len' rfl rfl sl88 (vt rfl)) rfl <| Ac (op_neq rfl rfl (vt rfl) (vt rfl)) rfl <| Nl <| Cn rfl (fun hc => ?_) (fun hc => ?_)
  · have h := cond_t hc h
    refine SR <| Ab rfl <| Nl <| AW.ret ?_
    obtain rfl := si h
    exact ret1 Tryz.results84 rfl (out_tmp rfl)
  · have h := cond_f hc h
    refine AW.skip <| AW.seq <| SR <| Ak rfl <| Nl <| AW.block <| AW.loopG (d := []) (ν := Nat × Int) (fun n => True ∧ F_r32_Same_l1 a1 b2 n.1 n.2 = some r) (fun n => n.1) (fun n => [(0, rd (ksl kAtom) a1), (1, rd (ksl kAtom) b2), (5, rd (kint .i64) n.2)]) (fun n => []) (((((a1.length : Int) : Int) - 0).toNat + 1), 0) ⟨trivial, h⟩ ⟨rfl, ⟨rfl, rfl, rfl, trivial⟩, trivial⟩ ?_
    rintro ⟨m5, i4⟩ ⟨hsf1, h⟩
    change True at hsf1
    change F_r32_Same_l1 a1 b2 m5 i4 = some r at h
    change AW _ _ _ ⟨slots [(0, rd (ksl kAtom) a1), (1, rd (ksl kAtom) b2), (5, rd (kint .i64) i4)], ress [], _⟩
    cases m5 with
    | zero => cases h
    | succ m5 =>
      unfold F_r32_Same_l1 at h
      generalize hgo1 : F_r32_Same_l1 a1 b2 m5 = go1 at h
      refine AW.seq <| SR <| Md rfl <| Md rfl <| Ac (op_len' rfl rfl sl88 (vt rfl)) rfl <| Ac (op_lss rfl rfl (vt rfl) (vt rfl)) rfl <| Nl <| Cn rfl (fun hc => ?_) (fun hc => ?_)
      · have h := cond_t hc h
        refine AW.skip <| AW.seq <| AW.block <| AW.seq ?_
        obtain ⟨e6, he6, h⟩ := bsome h
        obtain ⟨e7, he7, h⟩ := bsome h
        obtain ⟨e8, he8, h⟩ := bsome h
        obtain ⟨e9, he9, h⟩ := bsome h
        obtain ⟨e10, he10, h⟩ := bsome h
        obtain ⟨e11, he11, h⟩ := bsome h
        obtain ⟨e12, he12, h⟩ := bsome h
        obtain ⟨x13, hx13, h⟩ := bsome h
        obtain ⟨e14, he14, h⟩ := bsome h
        obtain ⟨x15, hx15, h⟩ := bsome h
        refine AW.regionAny [⟨[0], [17], [], []⟩, ⟨[5], [18], [], []⟩, ⟨[17, 18], [19], [], []⟩, ⟨[19], [20], [], []⟩, ⟨[20], [21], [], []⟩, ⟨[1], [22], [], []⟩, ⟨[5], [23], [], []⟩, ⟨[22, 23], [24], [], []⟩, ⟨[24], [25], [], []⟩, ⟨[25], [26], [], []⟩, ⟨[21, 26], [27], [], []⟩, ⟨[27], [28], [], []⟩, ⟨[0, 28], [29], [], []⟩, ⟨[5, 28], [30], [], []⟩, ⟨[29, 30, 28], [31], [], []⟩, ⟨[31, 28], [32], [], []⟩, ⟨[32, 28], [33], [], []⟩, ⟨[1, 28], [34], [], []⟩, ⟨[5, 28], [35], [], []⟩, ⟨[34, 35, 28], [36], [], []⟩, ⟨[36, 28], [37], [], []⟩, ⟨[37, 28], [38], [], []⟩, ⟨[33, 38, 28], [39], [], []⟩, ⟨[39, 28], [40], [], []⟩, ⟨[40], [41], [], []⟩, ⟨[0, 41], [42], [], []⟩, ⟨[5, 41], [43], [], []⟩, ⟨[42, 43, 41], [44], [], []⟩, ⟨[44, 41], [45], [], []⟩, ⟨[45, 41], [46], [], []⟩, ⟨[1, 41], [47], [], []⟩, ⟨[5, 41], [48], [], []⟩, ⟨[47, 48, 41], [49], [], []⟩, ⟨[49, 41], [50], [], []⟩, ⟨[50, 41], [51], [], []⟩, ⟨[46, 51, 41], [52], [], []⟩, ⟨[52, 41], [53], [], []⟩, ⟨[53], [54], [], []⟩, ⟨[0, 54], [55], [], []⟩, ⟨[5, 54], [56], [], []⟩, ⟨[55, 56, 54], [57], [], []⟩, ⟨[57, 54], [58], [], []⟩, ⟨[58, 54], [59], [], []⟩, ⟨[59, 54], [60], [], []⟩, ⟨[1, 54], [61], [], []⟩, ⟨[5, 54], [62], [], []⟩, ⟨[61, 62, 54], [63], [], []⟩, ⟨[63, 54], [64], [], []⟩, ⟨[64, 54], [65], [], []⟩, ⟨[65, 54], [66], [], []⟩, ⟨[60, 66, 54], [67], [], []⟩, ⟨[67, 54], [68], [], []⟩] mixed (by kernel_rfl) <| SMd rfl <| SMd rfl <| Sc (lo [17, 18] [] rfl fun S hs hr => op_indexs' rfl rfl sl88 (vh hs 17 rfl rfl) (vh hs 18 rfl rfl) he6) rfl <| SFp lAtom_1 fl126_1 rfl <| SLp ty4 rfl <| SMd rfl <| SMd rfl <| Sc (lo [22, 23] [] rfl fun S hs hr => op_indexs' rfl rfl sl88 (vh hs 22 rfl rfl) (vh hs 23 rfl rfl) he7) rfl <| SFp lAtom_1 fl126_1 rfl <| SLp ty4 rfl <| Sc (lo [21, 26] [] rfl fun S hs hr => op_neqb rfl rfl un4 (vh hs 21 rfl rfl) (vh hs 26 rfl rfl)) rfl <| SMd rfl <| Sc (lg [0, 28] [] rfl fun hq S hs hr => op_move (A := rd (ksl kAtom) a1) rfl rfl (vh hs 0 rfl rfl)) rfl <| Sc (lg [5, 28] [] rfl fun hq S hs hr => op_move (A := rd (kint .i64) i4) rfl rfl (vh hs 5 rfl rfl)) rfl <| Sc (lg [29, 30, 28] [] rfl fun hq S hs hr => op_indexs' rfl rfl sl88 (vgt ((hs 29 rfl).trans rfl) hq) (vgt ((hs 30 rfl).trans rfl) hq) (opt_f he8 hq)) rfl <| Sc (lg [31, 28] [] rfl fun hq S hs hr => op_fieldp lAtom_2 rfl rfl fl126_2 (vgt ((hs 31 rfl).trans rfl) hq)) rfl <| Sc (lg [32, 28] [] rfl fun hq S hs hr => op_loadp rfl rfl ty3 (vgt ((hs 32 rfl).trans rfl) hq)) rfl <| Sc (lg [1, 28] [] rfl fun hq S hs hr => op_move (A := rd (ksl kAtom) b2) rfl rfl (vh hs 1 rfl rfl)) rfl <| Sc (lg [5, 28] [] rfl fun hq S hs hr => op_move (A := rd (kint .i64) i4) rfl rfl (vh hs 5 rfl rfl)) rfl <| Sc (lg [34, 35, 28] [] rfl fun hq S hs hr => op_indexs' rfl rfl sl88 (vgt ((hs 34 rfl).trans rfl) hq) (vgt ((hs 35 rfl).trans rfl) hq) (opt_f he9 hq)) rfl <| Sc (lg [36, 28] [] rfl fun hq S hs hr => op_fieldp lAtom_2 rfl rfl fl126_2 (vgt ((hs 36 rfl).trans rfl) hq)) rfl <| Sc (lg [37, 28] [] rfl fun hq S hs hr => op_loadp rfl rfl ty3 (vgt ((hs 37 rfl).trans rfl) hq)) rfl ?_
        refine Sc (lg [33, 38, 28] [] rfl fun hq S hs hr => op_neq rfl rfl (vgt ((hs 33 rfl).trans rfl) hq) (vgt ((hs 38 rfl).trans rfl) hq)) rfl <| Sc (lo [39, 28] [] rfl fun S hs hr => op_any rfl rfl (vh hs 28 rfl rfl) (vh hs 39 rfl rfl)) rfl <| SMd rfl <| Sc (lg [0, 41] [] rfl fun hq S hs hr => op_move (A := rd (ksl kAtom) a1) rfl rfl (vh hs 0 rfl rfl)) rfl <| Sc (lg [5, 41] [] rfl fun hq S hs hr => op_move (A := rd (kint .i64) i4) rfl rfl (vh hs 5 rfl rfl)) rfl <| Sc (lg [42, 43, 41] [] rfl fun hq S hs hr => op_indexs' rfl rfl sl88 (vgt ((hs 42 rfl).trans rfl) hq) (vgt ((hs 43 rfl).trans rfl) hq) (opt_f he10 hq)) rfl <| Sc (lg [44, 41] [] rfl fun hq S hs hr => op_fieldp lAtom_3 rfl rfl fl126_3 (vgt ((hs 44 rfl).trans rfl) hq)) rfl <| Sc (lg [45, 41] [] rfl fun hq S hs hr => op_loadp rfl rfl ty3 (vgt ((hs 45 rfl).trans rfl) hq)) rfl <| Sc (lg [1, 41] [] rfl fun hq S hs hr => op_move (A := rd (ksl kAtom) b2) rfl rfl (vh hs 1 rfl rfl)) rfl <| Sc (lg [5, 41] [] rfl fun hq S hs hr => op_move (A := rd (kint .i64) i4) rfl rfl (vh hs 5 rfl rfl)) rfl <| Sc (lg [47, 48, 41] [] rfl fun hq S hs hr => op_indexs' rfl rfl sl88 (vgt ((hs 47 rfl).trans rfl) hq) (vgt ((hs 48 rfl).trans rfl) hq) (opt_f he11 hq)) rfl <| Sc (lg [49, 41] [] rfl fun hq S hs hr => op_fieldp lAtom_3 rfl rfl fl126_3 (vgt ((hs 49 rfl).trans rfl) hq)) rfl <| Sc (lg [50, 41] [] rfl fun hq S hs hr => op_loadp rfl rfl ty3 (vgt ((hs 50 rfl).trans rfl) hq)) rfl <| Sc (lg [46, 51, 41] [] rfl fun hq S hs hr => op_neq rfl rfl (vgt ((hs 46 rfl).trans rfl) hq) (vgt ((hs 51 rfl).trans rfl) hq)) rfl <| Sc (lo [52, 41] [] rfl fun S hs hr => op_any rfl rfl (vh hs 41 rfl rfl) (vh hs 52 rfl rfl)) rfl <| SMd rfl <| Sc (lg [0, 54] [] rfl fun hq S hs hr => op_move (A := rd (ksl kAtom) a1) rfl rfl (vh hs 0 rfl rfl)) rfl <| Sc (lg [5, 54] [] rfl fun hq S hs hr => op_move (A := rd (kint .i64) i4) rfl rfl (vh hs 5 rfl rfl)) rfl <| Sc (lg [55, 56, 54] [] rfl fun hq S hs hr => op_indexs' rfl rfl sl88 (vgt ((hs 55 rfl).trans rfl) hq) (vgt ((hs 56 rfl).trans rfl) hq) (opt_f he12 hq)) rfl <| Sc (lg [57, 54] [] rfl fun hq S hs hr => op_fieldp lAtom_0 rfl rfl fl126_0 (vgt ((hs 57 rfl).trans rfl) hq)) rfl <| Sc (lg [58, 54] [] rfl fun hq S hs hr => op_loadp rfl rfl ty101 (vgt ((hs 58 rfl).trans rfl) hq)) rfl <| Sc (lg [59, 54] [] rfl fun hq S hs hr => op_call (xs := [.tmp 59]) (c_r09_Clean _ _ (opt_f hx13 hq)) e145 rfl rfl ⟨vgt ((hs 59 rfl).trans rfl) hq, trivial⟩) rfl <| Sc (lg [1, 54] [] rfl fun hq S hs hr => op_move (A := rd (ksl kAtom) b2) rfl rfl (vh hs 1 rfl rfl)) rfl <| Sc (lg [5, 54] [] rfl fun hq S hs hr => op_move (A := rd (kint .i64) i4) rfl rfl (vh hs 5 rfl rfl)) rfl <| Sc (lg [61, 62, 54] [] rfl fun hq S hs hr => op_indexs' rfl rfl sl88 (vgt ((hs 61 rfl).trans rfl) hq) (vgt ((hs 62 rfl).trans rfl) hq) (opt_f he14 hq)) rfl <| Sc (lg [63, 54] [] rfl fun hq S hs hr => op_fieldp lAtom_0 rfl rfl fl126_0 (vgt ((hs 63 rfl).trans rfl) hq)) rfl <| Sc (lg [64, 54] [] rfl fun hq S hs hr => op_loadp rfl rfl ty101 (vgt ((hs 64 rfl).trans rfl) hq)) rfl ?_
        refine Sc (lg [65, 54] [] rfl fun hq S hs hr => op_call (xs := [.tmp 65]) (c_r09_Clean _ _ (opt_f hx15 hq)) e145 rfl rfl ⟨vgt ((hs 65 rfl).trans rfl) hq, trivial⟩) rfl <| Sc (lg [60, 66, 54] [] rfl fun hq S hs hr => op_neqk rfl rfl eqk101 (by decide) rfl eg101 (vgt ((hs 60 rfl).trans rfl) hq) (vgt ((hs 66 rfl).trans rfl) hq)) rfl <| Sc (lo [67, 54] [] rfl fun S hs hr => op_any rfl rfl (vh hs 54 rfl rfl) (vh hs 67 rfl rfl)) rfl <| Cn rfl (fun hc => ?_) (fun hc => ?_)
        · have h := cond_t hc h
          refine SR <| Ab rfl <| Nl <| AW.ret ?_
          obtain rfl := si h
          exact ret1 Tryz.results84 rfl (out_tmp rfl)
        · have h := cond_f hc h
          refine AW.skip <| Rg <| Md rfl <| Ac (op_add rfl rfl (vt rfl) (vk rfl)) rfl <| As rfl <| Nl ?_
          subst hgo1
          exact ⟨(m5, (IntKind.i64.wrap (i4 + 1))), Nat.lt_succ_self _, ⟨trivial, h⟩, ⟨rfl, ⟨rfl, rfl, rfl, trivial⟩, trivial⟩⟩
      · have h := cond_f hc h
        refine AW.exit <| SR <| Ab rfl <| Nl <| AW.ret ?_
        obtain rfl := si h
        exact ret1 Tryz.results84 rfl (out_tmp rfl)
def F_l33_same_1 (x1 : Rule) (y2 : Rule) : Option Bool :=
  (F_r06_Clean x1.Cube).bind fun x5 => (F_r06_Clean y2.Cube).bind fun x6 => (opt (decide (x5 = x6)) (F_r32_Same x1.Atoms y2.Atoms)).bind fun x7 => some ((decide (x5 = x6)) && x7)
theorem c_l33_same_1 (x1 : Rule) (y2 : Rule) (r : Bool) (h : F_l33_same_1 x1 y2 = some r) : PCon Tryz.prog 82 [rd kRule x1, rd kRule y2] (rd kbool r) := by
  refine PCon.of (Con.intro0 Tryz.func82 rfl Tryz.ntmps82 rfl fun w H => ?_)
  unfold F_l33_same_1 at h
  refine SR <| Ct rfl (op_box 3 rfl rfl (vt rfl)) ?_
  rintro _ ⟨g3, rfl⟩
  refine Ct rfl (op_box 4 rfl rfl (vt rfl)) ?_
  rintro _ ⟨g4, rfl⟩
  refine Ab rfl <| Nl <| AW.seq ?_
  obtain ⟨x5, hx5, h⟩ := bsome h
  obtain ⟨x6, hx6, h⟩ := bsome h
  obtain ⟨x7, hx7, h⟩ := bsome h
  refine AW.regionAny [⟨[2], [5], [], []⟩, ⟨[5], [6], [3], []⟩, ⟨[6], [7], [], []⟩, ⟨[3], [8], [], []⟩, ⟨[8], [9], [4], []⟩, ⟨[9], [10], [], []⟩, ⟨[7, 10], [11], [], []⟩, ⟨[11], [12], [], []⟩, ⟨[2, 12], [13], [], []⟩, ⟨[13, 12], [14], [3], []⟩, ⟨[3, 12], [15], [], []⟩, ⟨[15, 12], [16], [4], []⟩, ⟨[14, 16, 12], [17], [], []⟩, ⟨[17, 12], [18], [], []⟩, ⟨[18], [4], [], []⟩] mixed (by kernel_rfl) <| SFd lRule_0 fl90_0 rfl <| SLd ty87 3 rfl <| SCl [6] (c_r06_Clean _ _ hx5) e83 rfl <| SFd lRule_0 fl90_0 rfl <| SLd ty87 4 rfl <| SCl [9] (c_r06_Clean _ _ hx6) e83 rfl <| Sc (lo [7, 10] [] rfl fun S hs hr => op_eqlk rfl rfl eqk87 (by decide) rfl eg87 (vh hs 7 rfl rfl) (vh hs 10 rfl rfl)) rfl <| SMd rfl <| Sc (lg [2, 12] [] rfl fun hq S hs hr => op_field lRule_1 rfl rfl fl90_1 (vh hs 2 rfl rfl)) rfl <| Sc (lg [13, 12] [3] rfl fun hq S hs hr => op_load rfl rfl ty88 (vgt ((hs 13 rfl).trans rfl) hq) (i := 3) ((hr 3 rfl).trans rfl)) rfl <| Sc (lg [3, 12] [] rfl fun hq S hs hr => op_field lRule_1 rfl rfl fl90_1 (vh hs 3 rfl rfl)) rfl <| Sc (lg [15, 12] [4] rfl fun hq S hs hr => op_load rfl rfl ty88 (vgt ((hs 15 rfl).trans rfl) hq) (i := 4) ((hr 4 rfl).trans rfl)) rfl <| Sc (lg [14, 16, 12] [] rfl fun hq S hs hr => op_call (xs := [.tmp 14, .tmp 16]) (c_r32_Same _ _ _ (opt_t hx7 hq)) e84 rfl rfl ⟨vgt ((hs 14 rfl).trans rfl) hq, vgt ((hs 16 rfl).trans rfl) hq, trivial⟩) rfl <| Sc (lo [17, 12] [] rfl fun S hs hr => op_all rfl rfl (vh hs 12 rfl rfl) (vh hs 17 rfl rfl)) rfl <| SAs rfl <| AW.ret ?_
  obtain rfl := si h
  exact ret1 Tryz.results82 rfl (out_tmp rfl)
def F_l33_same (a1 : (List Rule)) (b2 : (List Rule)) : Option Bool :=
  (F_slices_EqualFunc_Rule_Rule a1 b2 F_l33_same_1).bind fun x3 => some x3
theorem c_l33_same (a1 : (List Rule)) (b2 : (List Rule)) (r : Bool) (h : F_l33_same a1 b2 = some r) : PCon Tryz.prog 24 [rd (ksl kRule) a1, rd (ksl kRule) b2] (rd kbool r) := by
  refine PCon.of (Con.intro0 Tryz.func24 rfl Tryz.ntmps24 rfl fun w H => ?_)
  unfold F_l33_same at h
  refine SR <| Ab rfl <| Nl <| AW.seq ?_
  obtain ⟨x3, hx3, h⟩ := bsome h
  refine Rg <| Md rfl <| Md rfl <| Ac (op_call (xs := [.tmp 5, .tmp 6, .func 82]) (c_slices_EqualFunc_Rule_Rule _ _ _ _ hx3) e81 rfl rfl ⟨vt rfl, vt rfl, vf2 e82 c_l33_same_1, trivial⟩) rfl <| As rfl <| Nl <| AW.ret ?_
  obtain rfl := si h
  exact ret1 Tryz.results24 rfl (out_tmp rfl)
def F_l33_all_b1 (most2 : Int) (l7 : (List Rule)) (x10 : Rule) : Option (Lp (List Rule)) :=
  (appd l7 [x10]).bind fun l13 => (bif (decide ((l13.length : Int) ≥ most2)) then some (.out (.exit 0) l13) else some (.go l13))
def F_l33_all (s1 : Switch) (most2 : Int) : Option (List Rule) :=
  (F_walk_Rules s1).bind fun x6 => (Itr.run x6 (List Rule) (F_l33_all_b1 most2) (.go [])).bind fun z9 => lpCase z9 (fun s15 => some s15) (fun c s15 => bif cExit 0 c then some s15 else none)
theorem c_l33_all (s1 : Switch) (most2 : Int) (r : (List Rule)) (h : F_l33_all s1 most2 = some r) : PCon Tryz.prog 26 [rd kSwitch s1, rd (kint .i64) most2] (rd (ksl kRule) r) := by
  refine PCon.of (Con.intro0 Tryz.func26 rfl Tryz.ntmps26 rfl fun w H => ?_)
  unfold F_l33_all at h
  refine SR <| Ct rfl (op_box 3 rfl rfl (vt rfl)) ?_
  rintro _ ⟨g3, rfl⟩
  refine Ct rfl (op_box 4 rfl rfl (vt rfl)) ?_
  rintro _ ⟨g4, rfl⟩
  refine Ac (op_assign (A := rd (ksl kRule) []) rfl rfl vnil) rfl <| Nl <| AW.seq <| AW.newnil 2139 90 kRule <| Rg <| Ct rfl (op_alloc 6 rfl rfl zrr32) ?_
  rintro _ ⟨g5, rfl⟩
  refine Nl <| AW.seq <| AW.seq ?_
  obtain ⟨x6, hx6, h⟩ := bsome h
  refine Rg <| Ld ty26 3 rfl <| Cl [7] (c_walk_Rules _ _ hx6) e22 rfl <| Nl <| AW.block ?_
  obtain ⟨z9, hz9, h⟩ := bsome h
  refine AW.packF 6 2139 (fun v => v) (by decide) rfl rfl <| AW.fit (d := []) (L := [(3, ptrL g4 (Lens.id (kint .i64))), (4, rd (ksl kRule) []), (5, ptrL g5 (Lens.id kraw)), (8, seqA Tryz.prog kRule x6)]) (M := [(6, BoxF g5 32 kraw (fun v => v) 90 kRule []), (4, Blk g4 3 (kint .i64) most2)]) ⟨rfl, ⟨rfl, rfl, rfl, rfl, trivial⟩, ⟨rfl, rfl, trivial⟩⟩ ?_
  refine AW.rangeFunc (σ := (List Rule)) (fun x => [rd kRule x]) (F_l33_all_b1 most2) (fun s => ress ((fun s => [(6, BoxF g5 32 kraw (fun v => v) 90 kRule s), (4, Blk g4 3 (kint .i64) most2)]) s)) (fun _ s => ress ((fun s => [(6, BoxF g5 32 kraw (fun v => v) 90 kRule s), (4, Blk g4 3 (kint .i64) most2)]) s)) [(3, ptrL g4 (Lens.id (kint .i64))), (4, rd (ksl kRule) []), (5, ptrL g5 (Lens.id kraw))] (fun l7 x10 S1 => ∃ (g11 : Nat), Fit S1 [] [(3, ptrL g4 (Lens.id (kint .i64))), (4, rd (ksl kRule) []), (5, ptrL g5 (Lens.id kraw)), (6, ptrL g11 (Lens.id kRule))] [(6, BoxF g5 32 kraw (fun v => v) 90 kRule l7), (4, Blk g4 3 (kint .i64) most2), (7, Blk g11 90 kRule x10)]) 3001 (s0 := []) (sE := z9) rfl (vt rfl) ⟨rfl, inferInstance, rfl, inferInstance, rfl, inferInstance, trivial⟩ rfl (fun _ => rfl) (by intro p hp; have hp : p ∈ [9] := hp; rw [List.mem_singleton.1 hp]; show 9 < 19; decide) ?ha1 ?hb1 (fun Lf => ⟨top, _, _, Lf, _, _, hz9, rfl, rfl, rfl, rfl⟩) ?he1
  case ha1 =>
    rintro l7 x10 r hF l w H X
    refine Rg <| Ct rfl (op_alloc 7 rfl rfl zr90) ?_
    rintro _ ⟨g11, rfl⟩
    refine Sto ty90 7 rfl <| Nl ?_
    exact ⟨rfl, g11, rfl, ⟨rfl, rfl, rfl, rfl, trivial⟩, ⟨rfl, rfl, rfl, trivial⟩⟩
  case hb1 =>
    rintro l7 x10 r h S1 ⟨g11, hfit⟩ l w H X
    refine AW.fit (d := []) (L := [(3, ptrL g4 (Lens.id (kint .i64))), (4, rd (ksl kRule) []), (5, ptrL g5 (Lens.id kraw)), (6, ptrL g11 (Lens.id kRule))]) (M := [(6, BoxF g5 32 kraw (fun v => v) 90 kRule l7), (4, Blk g4 3 (kint .i64) most2), (7, Blk g11 90 kRule x10)]) hfit <| AW.bodyT ?_
    change F_l33_all_b1 most2 l7 x10 = some r at h
    unfold F_l33_all_b1 at h
    refine AW.unboxF 6 2139 (by decide) rfl rfl fun v12 => AW.block <| AW.seq ?_
    obtain ⟨l13, hl13, h⟩ := bsome h
    refine Rg <| Ac (op_loadv v12 rfl rfl tyr32 (vt rfl) (i := 6) rfl rfl) rfl <| Ld ty90 7 rfl <| Ac (op_buildSliceR (ps := [(0, .tmp 11)]) (l := [x10]) rfl rfl sl32 zr90 rfl rfl ⟨_, _, Lens.idx 1 kRule 0 (by decide), _, rfl, (vt rfl), rfl⟩ rfl) rfl <| Ct rfl (op_append' 2139 hl13 rfl rfl el32 (vt rfl) rfl (vt rfl)) ?_
    rintro _ ⟨v14, rfl⟩
    refine Ac (op_store rfl rfl tyr32 (vt rfl) (i := 6) rfl (vrow (i := 2139) rfl rfl)) rfl <| Nl <| SR <| Ac (op_loadv v14 rfl rfl tyr32 (vt rfl) (i := 6) rfl rfl) rfl <| Ac (op_leno 2139 rfl rfl sl32 (vt rfl) rfl) rfl <| Ld ty3 4 rfl <| Ac (op_geq rfl rfl (vt rfl) (vt rfl)) rfl <| Nl <| Cn rfl (fun hc => ?_) (fun hc => ?_)
    · have h := cond_t hc h
      refine AW.exit ?_
      obtain rfl := si h
      exact ⟨_, l13, (Turn.packF 6 2139 (fun v => v) (by decide) rfl rfl), rfl, ⟨rfl, rfl, trivial⟩⟩
    · have h := cond_f hc h
      refine AW.skip ?_
      obtain rfl := si h
      exact ⟨_, l13, (Turn.packF 6 2139 (fun v => v) (by decide) rfl rfl), rfl, ⟨rfl, rfl, trivial⟩⟩
  case he1 =>
    intro D
    cases z9 with
    | go s15 =>
      change _ = some r at h
      refine AW.unboxF 6 2139 (by decide) rfl rfl fun v16 => SR <| Ac (op_loadv v16 rfl rfl tyr32 (vt rfl) (i := 6) rfl rfl) rfl <| Aw rfl <| Nl <| AW.freezes [4, 18] 2139 rfl ⟨rfl, rfl, trivial⟩ rfl <| AW.ret ?_
      obtain rfl := si h
      exact ⟨rfl, 3001, rfl, ret1 Tryz.results26 rfl (out_tmp rfl)⟩
    | out c s15 =>
      change (bif cExit 0 c then _ else _) = some r at h
      cases hc : cExit 0 c with
      | true =>
        rw [hc] at h
        have hc := cExit_of hc
        subst hc
        change _ = some r at h
        refine AW.unboxF 6 2139 (by decide) rfl rfl fun v17 => AW.exit <| SR <| Ac (op_loadv v17 rfl rfl tyr32 (vt rfl) (i := 6) rfl rfl) rfl <| Aw rfl <| Nl <| AW.freezes [4, 18] 2139 rfl ⟨rfl, rfl, trivial⟩ rfl <| AW.ret ?_
        obtain rfl := si h
        exact ⟨rfl, 3001, rfl, ret1 Tryz.results26 rfl (out_tmp rfl)⟩
      | false =>
        rw [hc] at h
        cases h
def F_l33_WalkTells (s1 : Switch) (most2 : Int) : Option Bool :=
  (F_l33_awake).bind fun x4 => (opt (!(!x4)) (F_pl_Switch s1 5)).bind fun x5 => (opt (!((!x4) || (!x5))) (F_walk_Rules s1)).bind fun x6 => (bif (((!x4) || (!x5)) || false) then (F_l33_awake).bind fun x7 => (opt x7 (F_walk_Rules s1)).bind fun x8 => some (x7 && true) else (F_r33_List s1).bind fun x9 => (F_walk_List s1).bind fun x10 => (F_l33_same x10 x9).bind fun x11 => (opt x11 (F_l33_all s1 (IntKind.i64.wrap (1 + (IntKind.i64.wrap most2))))).bind fun x12 => (opt x11 (otake x9 (imin (IntKind.i64.wrap (1 + (IntKind.i64.wrap most2))) (x9.length : Int)))).bind fun s13 => (opt x11 (F_l33_same x12 s13)).bind fun x14 => some (x11 && x14))
theorem c_l33_WalkTells (s1 : Switch) (most2 : Int) (r : Bool) (h : F_l33_WalkTells s1 most2 = some r) : PCon Tryz.prog 3 [rd kSwitch s1, rd (kint .u8) most2] (rd kbool r) := by
  refine PCon.of (Con.intro0 Tryz.func3 rfl Tryz.ntmps3 rfl fun w H => ?_)
  unfold F_l33_WalkTells at h
  refine SR <| Ct rfl (op_box 3 rfl rfl (vt rfl)) ?_
  rintro _ ⟨g3, rfl⟩
  refine Ab rfl <| Nl <| AW.seq <| AW.seq ?_
  obtain ⟨x4, hx4, h⟩ := bsome h
  obtain ⟨x5, hx5, h⟩ := bsome h
  obtain ⟨x6, hx6, h⟩ := bsome h
  refine Rg <| Cl [] (c_l33_awake _ hx4) e20 rfl <| Ac (op_not rfl rfl (vt rfl)) rfl <| Md rfl <| Gd rfl (fun hq => op_load rfl rfl ty26 (vt rfl) (i := 3) rfl) <| Gd rfl (fun hq => op_call (xs := [.tmp 10, .const (Value.int IntKind.i64 5)]) (c_pl_Switch _ _ _ (opt_f hx5 hq)) e21 rfl rfl ⟨vgt rfl hq, vk rfl, trivial⟩) <| Gd rfl (fun hq => op_not rfl rfl (vgt rfl hq)) <| Ac (op_any rfl rfl (vt rfl) (vt rfl)) rfl <| Md rfl <| Gd rfl (fun hq => op_load rfl rfl ty26 (vt rfl) (i := 3) rfl) <| Gd rfl (fun hq => op_call (xs := [.tmp 15]) (c_walk_Rules _ _ (opt_f hx6 hq)) e22 rfl rfl ⟨vgt rfl hq, trivial⟩) <| Gd rfl (fun hq => op_eqlseq rfl rfl uf30 (vgt rfl hq)) <| Ac (op_any rfl rfl (vt rfl) (vt rfl)) rfl <| Nl <| Cn rfl (fun hc => ?_) (fun hc => ?_)
  · have h := cond_t hc h
    refine AW.seq ?_
    obtain ⟨x7, hx7, h⟩ := bsome h
    obtain ⟨x8, hx8, h⟩ := bsome h
    refine Rg <| Cl [] (c_l33_awake _ hx7) e20 rfl <| Md rfl <| Gd rfl (fun hq => op_load rfl rfl ty26 (vt rfl) (i := 3) rfl) <| Gd rfl (fun hq => op_call (xs := [.tmp 21]) (c_walk_Rules _ _ (opt_t hx8 hq)) e22 rfl rfl ⟨vgt rfl hq, trivial⟩) <| Gd rfl (fun hq => op_neqseq rfl rfl uf30 (vgt rfl hq)) <| Ac (op_all rfl rfl (vt rfl) (vt rfl)) rfl <| As rfl <| Nl <| AW.ret ?_
    obtain rfl := si h
    exact ret1 Tryz.results3 rfl (out_tmp rfl)
  · have h := cond_f hc h
    refine AW.skip <| AW.seq ?_
    obtain ⟨x9, hx9, h⟩ := bsome h
    refine Rg <| Ld ty26 3 rfl <| Cl [25] (c_r33_List _ _ hx9) e23 rfl <| Md rfl <| Ac (op_conv rfl rfl us5 un3 (vt rfl)) rfl <| Ac (op_add rfl rfl (vk rfl) (vt rfl)) rfl <| As rfl <| As rfl <| Nl <| AW.seq ?_
    obtain ⟨x10, hx10, h⟩ := bsome h
    obtain ⟨x11, hx11, h⟩ := bsome h
    obtain ⟨x12, hx12, h⟩ := bsome h
    obtain ⟨s13, hs13, h⟩ := bsome h
    obtain ⟨x14, hx14, h⟩ := bsome h
    refine AW.regionAny [⟨[2], [30], [3], []⟩, ⟨[30], [31], [], []⟩, ⟨[5], [32], [], []⟩, ⟨[31, 32], [33], [], []⟩, ⟨[33], [34], [], []⟩, ⟨[2, 34], [35], [3], []⟩, ⟨[6, 34], [36], [], []⟩, ⟨[35, 36, 34], [37], [], []⟩, ⟨[5, 34], [38], [], []⟩, ⟨[6, 34], [39], [], []⟩, ⟨[5, 34], [40], [], []⟩, ⟨[40, 34], [41], [], []⟩, ⟨[39, 41, 34], [42], [], []⟩, ⟨[38, 42, 34], [43], [], []⟩, ⟨[37, 43, 34], [44], [], []⟩, ⟨[44, 34], [45], [], []⟩, ⟨[45], [4], [], []⟩] mixed (by kernel_rfl) <| SLd ty26 3 rfl <| SCl [30] (c_walk_List _ _ hx10) e25 rfl <| SMd rfl <| SCl [31, 32] (c_l33_same _ _ _ hx11) e24 rfl <| SMd rfl <| Sc (lg [2, 34] [3] rfl fun hq S hs hr => op_load rfl rfl ty26 (vh hs 2 rfl rfl) (i := 3) ((hr 3 rfl).trans rfl)) rfl <| Sc (lg [6, 34] [] rfl fun hq S hs hr => op_move (A := rd (kint .i64) (IntKind.i64.wrap (1 + (IntKind.i64.wrap most2)))) rfl rfl (vh hs 6 rfl rfl)) rfl <| Sc (lg [35, 36, 34] [] rfl fun hq S hs hr => op_call (xs := [.tmp 35, .tmp 36]) (c_l33_all _ _ _ (opt_t hx12 hq)) e26 rfl rfl ⟨vgt ((hs 35 rfl).trans rfl) hq, vgt ((hs 36 rfl).trans rfl) hq, trivial⟩) rfl <| Sc (lg [5, 34] [] rfl fun hq S hs hr => op_move (A := rd (ksl kRule) x9) rfl rfl (vh hs 5 rfl rfl)) rfl <| Sc (lg [6, 34] [] rfl fun hq S hs hr => op_move (A := rd (kint .i64) (IntKind.i64.wrap (1 + (IntKind.i64.wrap most2)))) rfl rfl (vh hs 6 rfl rfl)) rfl <| Sc (lg [5, 34] [] rfl fun hq S hs hr => op_move (A := rd (ksl kRule) x9) rfl rfl (vh hs 5 rfl rfl)) rfl <| Sc (lg [40, 34] [] rfl fun hq S hs hr => op_len' rfl rfl sl32 (vgt ((hs 40 rfl).trans rfl) hq)) rfl <| Sc (lg [39, 41, 34] [] rfl fun hq S hs hr => op_min rfl rfl (vgt ((hs 39 rfl).trans rfl) hq) (vgt ((hs 41 rfl).trans rfl) hq)) rfl <| Sc (lg [38, 42, 34] [] rfl fun hq S hs hr => op_slice_h' (opt_t hs13 hq) rfl rfl sl32 (vgt ((hs 38 rfl).trans rfl) hq) (vgt ((hs 42 rfl).trans rfl) hq)) rfl <| Sc (lg [37, 43, 34] [] rfl fun hq S hs hr => op_call (xs := [.tmp 37, .tmp 43]) (c_l33_same _ _ _ (opt_t hx14 hq)) e24 rfl rfl ⟨vgt ((hs 37 rfl).trans rfl) hq, vgt ((hs 43 rfl).trans rfl) hq, trivial⟩) rfl <| Sc (lo [44, 34] [] rfl fun S hs hr => op_all rfl rfl (vh hs 34 rfl rfl) (vh hs 44 rfl rfl)) rfl <| SAs rfl <| AW.ret ?_
    obtain rfl := si h
    exact ret1 Tryz.results3 rfl (out_tmp rfl)
end Go.Proofs.YtknpgojdkobgjaaGreat.W
set_option linter.unusedVariables false
set_option maxRecDepth 4000
set_option linter.unusedSimpArgs false
namespace Go.Proofs.YtknpgojdkobgjaaGreat.W
open Go Go.Wb
end Go.Proofs.YtknpgojdkobgjaaGreat.W
set_option linter.unusedVariables false
set_option maxRecDepth 4000
set_option linter.unusedSimpArgs false
namespace Go.Proofs.YtknpgojdkobgjaaGreat.W
open Go Go.Wb
end Go.Proofs.YtknpgojdkobgjaaGreat.W
set_option linter.unusedVariables false
set_option maxRecDepth 4000
set_option linter.unusedSimpArgs false
namespace Go.Proofs.YtknpgojdkobgjaaGreat.W
open Go Go.Wb
end Go.Proofs.YtknpgojdkobgjaaGreat.W
set_option linter.unusedVariables false
set_option maxRecDepth 4000
set_option linter.unusedSimpArgs false
namespace Go.Proofs.YtknpgojdkobgjaaGreat.W
open Go Go.Wb
end Go.Proofs.YtknpgojdkobgjaaGreat.W
set_option linter.unusedVariables false
set_option maxRecDepth 4000
set_option linter.unusedSimpArgs false
namespace Go.Proofs.YtknpgojdkobgjaaGreat.W
open Go Go.Wb
end Go.Proofs.YtknpgojdkobgjaaGreat.W
set_option linter.unusedVariables false
set_option maxRecDepth 4000
set_option linter.unusedSimpArgs false
namespace Go.Proofs.YtknpgojdkobgjaaGreat.W
open Go Go.Wb
end Go.Proofs.YtknpgojdkobgjaaGreat.W
set_option linter.unusedVariables false
set_option maxRecDepth 4000
set_option linter.unusedSimpArgs false
namespace Go.Proofs.YtknpgojdkobgjaaGreat.W
open Go Go.Wb
end Go.Proofs.YtknpgojdkobgjaaGreat.W
set_option linter.unusedVariables false
set_option maxRecDepth 4000
set_option linter.unusedSimpArgs false
namespace Go.Proofs.YtknpgojdkobgjaaGreat.W
open Go Go.Wb
theorem e52 : Ent Tryz.prog 52 := Ent.mk Tryz.func52 rfl rfl
theorem e53 : Ent Tryz.prog 53 := Ent.mk Tryz.func53 rfl rfl
end Go.Proofs.YtknpgojdkobgjaaGreat.W
set_option linter.unusedVariables false
set_option maxRecDepth 4000
set_option linter.unusedSimpArgs false
namespace Go.Proofs.YtknpgojdkobgjaaGreat.W
open Go Go.Wb
theorem e39 : Ent Tryz.prog 39 := Ent.mk Tryz.func39 rfl rfl
end Go.Proofs.YtknpgojdkobgjaaGreat.W
set_option linter.unusedVariables false
set_option maxRecDepth 4000
set_option linter.unusedSimpArgs false
namespace Go.Proofs.YtknpgojdkobgjaaGreat.W
open Go Go.Wb
end Go.Proofs.YtknpgojdkobgjaaGreat.W
set_option linter.unusedVariables false
set_option maxRecDepth 4000
set_option linter.unusedSimpArgs false
namespace Go.Proofs.YtknpgojdkobgjaaGreat.W
open Go Go.Wb
end Go.Proofs.YtknpgojdkobgjaaGreat.W
set_option linter.unusedVariables false
set_option maxRecDepth 4000
set_option linter.unusedSimpArgs false
namespace Go.Proofs.YtknpgojdkobgjaaGreat.W
open Go Go.Wb
theorem e42 : Ent Tryz.prog 42 := Ent.mk Tryz.func42 rfl rfl
theorem e41 : Ent Tryz.prog 41 := Ent.mk Tryz.func41 rfl rfl
end Go.Proofs.YtknpgojdkobgjaaGreat.W
set_option linter.unusedVariables false
set_option maxRecDepth 4000
set_option linter.unusedSimpArgs false
namespace Go.Proofs.YtknpgojdkobgjaaGreat.W
open Go Go.Wb
end Go.Proofs.YtknpgojdkobgjaaGreat.W
