/- A part of the proof. -/
import Derived.Test.YtknpgojdkobgjaaGreatG0
set_option linter.unusedVariables false
set_option maxRecDepth 4000
set_option linter.unusedSimpArgs false
namespace Go.Proofs.YtknpgojdkobgjaaGreat.W
open Go Go.Wb
theorem e264 : Ent Tryz.prog 264 := Ent.mk Tryz.func264 rfl rfl
theorem e216 : Ent Tryz.prog 216 := Ent.mk Tryz.func216 rfl rfl
theorem e288 : Ent Tryz.prog 288 := Ent.mk Tryz.func288 rfl rfl
theorem e328 : Ent Tryz.prog 328 := Ent.mk Tryz.func328 rfl rfl
theorem e289 : Ent Tryz.prog 289 := Ent.mk Tryz.func289 rfl rfl
theorem e290 : Ent Tryz.prog 290 := Ent.mk Tryz.func290 rfl rfl
theorem e241 : Ent Tryz.prog 241 := Ent.mk Tryz.func241 rfl rfl
theorem e242 : Ent Tryz.prog 242 := Ent.mk Tryz.func242 rfl rfl
def F_inst_Of (l1 : (List Inst)) (kind2 : Int) : Option (Inst × Bool) :=
  (F_slices_IndexFunc_Inst l1 (fun x => F_inst_Of_1 x kind2)).bind fun x5 => (bif (decide (x5 < 0)) then some ((⟨0, 0, zWide, zWide, []⟩ : Inst), false) else (lget l1 x5).bind fun e6 => (F_slices_Clone_Action e6.Acts).bind fun x8 => some ({ e6 with Acts := x8 }, true))
theorem c_inst_Of (l1 : (List Inst)) (kind2 : Int) (r : (Inst × Bool)) (h : F_inst_Of l1 kind2 = some r) : PCon Tryz.prog 204 [rd (ksl kInst) l1, rd (kint .i64) kind2] (tup2 (rd kInst r.1) (rd kbool r.2)) := by
  refine PCon.of (Con.intro0 Tryz.func204 rfl Tryz.ntmps204 rfl fun w H => ?_)
  unfold F_inst_Of at h
  refine SR <| Ct rfl (op_box 4 rfl rfl (vt rfl)) ?_
  rintro _ ⟨g3, rfl⟩
  refine Ct rfl (op_alloc 5 rfl rfl zr124) ?_
  rintro _ ⟨g4, rfl⟩
  refine Ab rfl <| Nl <| AW.seq <| AW.freezeB 3 4 rfl rfl rfl ?_
  obtain ⟨x5, hx5, h⟩ := bsome h
  refine Rg <| Md rfl <| Ac (op_fn1 (cs := [.tmp 3]) (CAs := [rp (kint .i64) kind2]) (fun x => F_inst_Of_1 x kind2) rfl rfl e264 ⟨vt rfl, trivial⟩ (fun x y h => c_inst_Of_1 _ _ y h)) rfl <| Cl [8, 9] (c_slices_IndexFunc_Inst _ _ _ hx5) e263 rfl <| As rfl <| Nl <| AW.seq <| SR <| Md rfl <| Ac (op_lss rfl rfl (vt rfl) (vk rfl)) rfl <| Nl <| Cn rfl (fun hc => ?_) (fun hc => ?_)
  · have h := cond_t hc h
    refine SR <| Ac (op_build (ps := []) (x := (⟨0, 0, zWide, zWide, []⟩ : Inst)) rfl rfl rfl (by kernel_rfl) zr124 rfl) rfl <| Sto ty124 5 rfl <| Ab rfl <| Nl <| AW.ret ?_
    obtain rfl := si h
    exact ret2 Tryz.results204 rfl (out_cell rfl (i := 5) rfl ty124) (out_tmp rfl)
  · have h := cond_f hc h
    refine AW.skip <| AW.seq ?_
    obtain ⟨e6, he6, h⟩ := bsome h
    refine Rg <| Md rfl <| Md rfl <| Ac (op_indexs' rfl rfl sl59 (vt rfl) (vt rfl) he6) rfl <| Lp1 ty124 rfl <| Ct rfl (op_alloc 8 rfl rfl zr124) ?_
    rintro _ ⟨g7, rfl⟩
    refine Sto ty124 8 rfl <| Nl <| AW.seq ?_
    obtain ⟨x8, hx8, h⟩ := bsome h
    refine Rg <| FdA lInst_4 fl124_4 rfl <| Ld ty122 8 rfl <| Cl [19] (c_slices_Clone_Action _ _ hx8) e216 rfl <| FdA lInst_4 fl124_4 rfl <| Sto ty122 8 rfl <| Nl <| SR <| Ld ty124 8 rfl <| Sto ty124 5 rfl <| Ab rfl <| Nl <| AW.ret ?_
    obtain rfl := si h
    exact ret2 Tryz.results204 rfl (out_cell rfl (i := 5) rfl ty124) (out_tmp rfl)
def F_exec_most (a1 : Action) : Option Int :=
  (bif (decide (a1.Port = 4294967293)) then some a1.Max else some 0)
theorem c_exec_most (a1 : Action) (r : Int) (h : F_exec_most a1 = some r) : PCon Tryz.prog 286 [rd kAction a1] (rd (kint .i64) r) := by
  refine PCon.of (Con.intro0 Tryz.func286 rfl Tryz.ntmps286 rfl fun w H => ?_)
  unfold F_exec_most at h
  refine SR <| Ct rfl (op_box 2 rfl rfl (vt rfl)) ?_
  rintro _ ⟨g2, rfl⟩
  refine Ak rfl <| Nl <| AW.seq <| SR <| FdA lAction_1 fl121_1 rfl <| Ld ty3 2 rfl <| Ac (op_eql rfl rfl (vt rfl) (vk rfl)) rfl <| Nl <| Cn rfl (fun hc => ?_) (fun hc => ?_)
  · have h := cond_t hc h
    refine SR <| FdA lAction_2 fl121_2 rfl <| Ld ty3 2 rfl <| As rfl <| Nl <| AW.ret ?_
    obtain rfl := si h
    exact ret1 Tryz.results286 rfl (out_tmp rfl)
  · have h := cond_f hc h
    refine AW.skip <| SR <| Ak rfl <| Nl <| AW.ret ?_
    obtain rfl := si h
    exact ret1 Tryz.results286 rfl (out_tmp rfl)
def F_group_place_1 (g1 : Group) (cp2 : Int) : Option Bool :=
  some (decide (g1.ID = cp2))
theorem c_group_place_1 (g1 : Group) (cp2 : Int) (r : Bool) (h : F_group_place_1 g1 cp2 = some r) : PCon Tryz.prog 288 [rd kGroup g1, rp (kint .i64) cp2] (rd kbool r) := by
  refine PCon.of (Con.intro0 Tryz.func288 rfl Tryz.ntmps288 rfl fun w H => ?_)
  unfold F_group_place_1 at h
  refine SR <| Ct rfl (op_box 3 rfl rfl (vt rfl)) ?_
  rintro _ ⟨g3, rfl⟩
  refine Ab rfl <| Nl <| SR <| FdA lGroup_0 fl164_0 rfl <| Ld ty3 3 rfl <| Lp1 ty3 rfl <| Ac (op_eql rfl rfl (vt rfl) (vt rfl)) rfl <| As rfl <| Nl <| AW.ret ?_
  obtain rfl := si h
  exact ret1 Tryz.results288 rfl (out_tmp rfl)
def F_group_place (l1 : (List Group)) (id2 : Int) : Option Int :=
  (F_slices_IndexFunc_Group l1 (fun x => F_group_place_1 x id2)).bind fun x4 => some x4
theorem c_group_place (l1 : (List Group)) (id2 : Int) (r : Int) (h : F_group_place l1 id2 = some r) : PCon Tryz.prog 241 [rd (ksl kGroup) l1, rd (kint .i64) id2] (rd (kint .i64) r) := by
  refine PCon.of (Con.intro0 Tryz.func241 rfl Tryz.ntmps241 rfl fun w H => ?_)
  unfold F_group_place at h
  refine SR <| Ct rfl (op_box 4 rfl rfl (vt rfl)) ?_
  rintro _ ⟨g3, rfl⟩
  refine Ak rfl <| Nl <| AW.seq <| AW.freezeB 3 4 rfl rfl rfl ?_
  obtain ⟨x4, hx4, h⟩ := bsome h
  refine Rg <| Md rfl <| Ac (op_fn1 (cs := [.tmp 3]) (CAs := [rp (kint .i64) id2]) (fun x => F_group_place_1 x id2) rfl rfl e288 ⟨vt rfl, trivial⟩ (fun x y h => c_group_place_1 _ _ y h)) rfl <| Cl [5, 6] (c_slices_IndexFunc_Group _ _ _ hx4) e162 rfl <| As rfl <| Nl <| AW.ret ?_
  obtain rfl := si h
  exact ret1 Tryz.results241 rfl (out_tmp rfl)
def F_slices_Clone_Group (s : List Group) : Option (List Group) := appd [] s
theorem c_slices_Clone_Group_o (s : List Group) (r : List Group) (h : F_slices_Clone_Group s = some r) : Con Tryz.prog 289 [rd (ksl kGroup) s] emp (fun v => raw v) (fun v => Row v 164 kGroup r) := by
  refine Con.intro0 Tryz.func289 rfl Tryz.ntmps289 rfl fun w H => ?_
  unfold F_slices_Clone_Group at h
  refine AW.newnil 1001 164 kGroup <| SR <| Ac (op_assign (A := raw (.slice none 0 0)) rfl rfl vc) rfl <| Nl <| AW.seq <| SR <| Md rfl <| Ct rfl (op_eqnil rfl rfl sl24 (vt rfl)) ?_
  rintro _ ⟨b, hb, rfl⟩
  refine Nl <| Cn rfl (fun hc => ?_) (fun hc => ?_)
  · obtain rfl := hb hc
    refine SR <| Ac (op_assign (A := raw (.slice none 0 0)) rfl rfl vc) rfl <| Nl <| AW.ret ?_
    obtain rfl := (appd_of h).2
    exact ret1R (i := 1001) Tryz.results289 rfl rfl rfl
  · refine AW.skip <| SR <| Ct rfl (op_buildSlice 1002 (ps := []) (l := []) rfl rfl sl24 zr164 rfl rfl rfl rfl) ?_
    rintro _ ⟨v1, rfl⟩
    refine Md rfl <| Ct rfl (op_append' 1002 h rfl rfl el24 (vt rfl) rfl (vt rfl)) ?_
    rintro _ ⟨v2, rfl⟩
    refine Aw rfl <| Nl <| AW.ret ?_
    exact ret1R (i := 1002) Tryz.results289 rfl rfl rfl
def F_slices_Clone_Bucket (s : List Bucket) : Option (List Bucket) := appd [] s
theorem c_slices_Clone_Bucket_o (s : List Bucket) (r : List Bucket) (h : F_slices_Clone_Bucket s = some r) : Con Tryz.prog 328 [rd (ksl kBucket) s] emp (fun v => raw v) (fun v => Row v 226 kBucket r) := by
  refine Con.intro0 Tryz.func328 rfl Tryz.ntmps328 rfl fun w H => ?_
  unfold F_slices_Clone_Bucket at h
  refine AW.newnil 1001 226 kBucket <| SR <| Ac (op_assign (A := raw (.slice none 0 0)) rfl rfl vc) rfl <| Nl <| AW.seq <| SR <| Md rfl <| Ct rfl (op_eqnil rfl rfl sl162 (vt rfl)) ?_
  rintro _ ⟨b, hb, rfl⟩
  refine Nl <| Cn rfl (fun hc => ?_) (fun hc => ?_)
  · obtain rfl := hb hc
    refine SR <| Ac (op_assign (A := raw (.slice none 0 0)) rfl rfl vc) rfl <| Nl <| AW.ret ?_
    obtain rfl := (appd_of h).2
    exact ret1R (i := 1001) Tryz.results328 rfl rfl rfl
  · refine AW.skip <| SR <| Ct rfl (op_buildSlice 1002 (ps := []) (l := []) rfl rfl sl162 zr226 rfl rfl rfl rfl) ?_
    rintro _ ⟨v1, rfl⟩
    refine Md rfl <| Ct rfl (op_append' 1002 h rfl rfl el162 (vt rfl) rfl (vt rfl)) ?_
    rintro _ ⟨v2, rfl⟩
    refine Aw rfl <| Nl <| AW.ret ?_
    exact ret1R (i := 1002) Tryz.results328 rfl rfl rfl
def F_group_copies_l1 : Nat → Nat → (List Bucket) → Option (List Bucket)
  | 0, i6, l5 => some l5
  | m7 + 1, i6, l5 => (lget l5 (i6 : Int)).bind fun e8 => (F_slices_Clone_Action e8.Acts).bind fun x9 => (lget l5 (i6 : Int)).bind fun e10 => (F_group_copies_l1 m7) (i6 + 1) (List.set l5 (i6 : Int).toNat { e10 with Acts := x9 })
def F_group_copies (l1 : (List Bucket)) : Option (List Bucket) :=
  (F_slices_Clone_Bucket l1).bind fun x2 => F_group_copies_l1 ((x2.length : Int) : Int).toNat 0 x2
theorem c_group_copies (l1 : (List Bucket)) (r : (List Bucket)) (h : F_group_copies l1 = some r) : PCon Tryz.prog 290 [rd (ksl kBucket) l1] (rd (ksl kBucket) r) := by
  refine PCon.of (Con.intro0 Tryz.func290 rfl Tryz.ntmps290 rfl fun w H => ?_)
  unfold F_group_copies at h
  refine SR <| Ac (op_assign (A := rd (ksl kBucket) []) rfl rfl vnil) rfl <| Nl <| AW.seq ?_
  obtain ⟨x2, hx2, h⟩ := bsome h
  refine Rg <| Md rfl <| Ct rfl (op_callR 1001 (xs := [.tmp 5]) (c_slices_Clone_Bucket_o _ _ hx2) e328 rfl rfl ⟨vt rfl, trivial⟩ rfl) ?_
  rintro _ ⟨v3, rfl⟩
  refine Aw rfl <| Nl <| AW.seq <| SR <| Mw rfl <| Ac (op_leno 1001 rfl rfl sl162 (vt rfl) rfl) rfl <| Mk rfl <| Nl <| AW.block <| AW.loopG (d := []) (ν := Nat × Nat × (List Bucket)) (fun n => Cnt (x2.length : Int) n.2.1 n.1 ∧ F_group_copies_l1 n.1 n.2.1 n.2.2 = some r) (fun n => n.1) (fun n => [(3, raw v3), (8, rd (kint .i64) (x2.length : Int)), (9, rd (kint .i64) (n.2.1 : Int))]) (fun n => [(1001, Row v3 226 kBucket n.2.2)]) (((x2.length : Int) : Int).toNat, 0, x2) ⟨Cnt.start _, h⟩ ⟨rfl, ⟨rfl, rfl, rfl, trivial⟩, ⟨rfl, trivial⟩⟩ ?_
  rintro ⟨m7, i6, l5⟩ ⟨hsf1, h⟩
  change Cnt (x2.length : Int) i6 m7 at hsf1
  change F_group_copies_l1 m7 i6 l5 = some r at h
  change AW _ _ _ ⟨slots [(3, raw v3), (8, rd (kint .i64) (x2.length : Int)), (9, rd (kint .i64) (i6 : Int))], ress [(1001, Row v3 226 kBucket l5)], _⟩
  cases m7 with
  | zero =>
    unfold F_group_copies_l1 at h
    refine SR <| Ac (op_lss rfl rfl (vt rfl) (vt rfl)) rfl <| Nl <| AW.seq <| Cn rfl (fun hc => absurd (of_decide_eq_true hc) hsf1.zero) (fun hc => ?_)
    refine AW.exit <| SR <| Mw rfl <| Aw rfl <| Nl <| AW.freezes [2, 3, 23] 1001 rfl ⟨rfl, rfl, rfl, trivial⟩ rfl <| AW.ret ?_
    obtain rfl := si h
    exact ret1 Tryz.results290 rfl (out_tmp rfl)
  | succ m7 =>
    unfold F_group_copies_l1 at h
    generalize hgo1 : F_group_copies_l1 m7 = go1 at h
    refine SR <| Ac (op_lss rfl rfl (vt rfl) (vt rfl)) rfl <| Nl <| AW.seq <| Cn rfl (fun hc => ?_) (fun hc => absurd hsf1.succ (of_decide_eq_false hc))
    have hlti6 := of_decide_eq_true hc
    refine AW.skip <| AW.seq <| AW.block <| SR <| Md rfl <| As rfl <| Nl ?_
    obtain ⟨e8, he8, h⟩ := bsome h
    obtain ⟨x9, hx9, h⟩ := bsome h
    obtain ⟨e10, he10, h⟩ := bsome h
    refine Rg <| Mw rfl <| Md rfl <| Mw rfl <| Md rfl <| Ac (op_indexo' 1001 rfl rfl sl162 (vt rfl) rfl (vt rfl) he8) rfl <| Ac (op_fieldo lBucket_3 rfl rfl fl226_3 (vt rfl)) rfl <| Ac (op_loado' 1001 rfl rfl ty122 (vt rfl) rfl (lget_of he8).2) rfl <| Cl [18] (c_slices_Clone_Action _ _ hx9) e216 rfl <| Ac (op_indexo' 1001 rfl rfl sl162 (vt rfl) rfl (vt rfl) he10) rfl <| Ac (op_fieldo lBucket_3 rfl rfl fl226_3 (vt rfl)) rfl <| Ac (op_storeo' 1001 rfl rfl ty122 (vt rfl) rfl (lget_of he10).2 (vt rfl)) rfl <| Nl <| Rg <| Ac (op_incr (t := 8) rfl rfl (vt rfl) (vk rfl) (vt rfl) hlti6) rfl <| Md rfl <| Nl ?_
    subst hgo1
    exact ⟨(m7, i6 + 1, (List.set l5 (i6 : Int).toNat { e10 with Acts := x9 })), Nat.lt_succ_self _, ⟨hsf1.next, h⟩, ⟨rfl, ⟨rfl, rfl, rfl, trivial⟩, ⟨rfl, trivial⟩⟩⟩
def F_group_fresh_l1 : Nat → Nat → (List Group) → Option (List Group)
  | 0, i6, l5 => some l5
  | m7 + 1, i6, l5 => (lget l5 (i6 : Int)).bind fun e8 => (F_group_copies e8.Buckets).bind fun x9 => (lget l5 (i6 : Int)).bind fun e10 => (F_group_fresh_l1 m7) (i6 + 1) (List.set l5 (i6 : Int).toNat { e10 with Buckets := x9 })
def F_group_fresh (l1 : (List Group)) : Option (List Group) :=
  (F_slices_Clone_Group l1).bind fun x2 => F_group_fresh_l1 ((x2.length : Int) : Int).toNat 0 x2
theorem c_group_fresh (l1 : (List Group)) (r : (List Group)) (h : F_group_fresh l1 = some r) : PCon Tryz.prog 242 [rd (ksl kGroup) l1] (rd (ksl kGroup) r) := by
  refine PCon.of (Con.intro0 Tryz.func242 rfl Tryz.ntmps242 rfl fun w H => ?_)
  unfold F_group_fresh at h
  refine SR <| Ac (op_assign (A := rd (ksl kGroup) []) rfl rfl vnil) rfl <| Nl <| AW.seq ?_
  obtain ⟨x2, hx2, h⟩ := bsome h
  refine Rg <| Md rfl <| Ct rfl (op_callR 1001 (xs := [.tmp 5]) (c_slices_Clone_Group_o _ _ hx2) e289 rfl rfl ⟨vt rfl, trivial⟩ rfl) ?_
  rintro _ ⟨v3, rfl⟩
  refine Aw rfl <| Nl <| AW.seq <| SR <| Mw rfl <| Ac (op_leno 1001 rfl rfl sl24 (vt rfl) rfl) rfl <| Mk rfl <| Nl <| AW.block <| AW.loopG (d := []) (ν := Nat × Nat × (List Group)) (fun n => Cnt (x2.length : Int) n.2.1 n.1 ∧ F_group_fresh_l1 n.1 n.2.1 n.2.2 = some r) (fun n => n.1) (fun n => [(3, raw v3), (8, rd (kint .i64) (x2.length : Int)), (9, rd (kint .i64) (n.2.1 : Int))]) (fun n => [(1001, Row v3 164 kGroup n.2.2)]) (((x2.length : Int) : Int).toNat, 0, x2) ⟨Cnt.start _, h⟩ ⟨rfl, ⟨rfl, rfl, rfl, trivial⟩, ⟨rfl, trivial⟩⟩ ?_
  rintro ⟨m7, i6, l5⟩ ⟨hsf1, h⟩
  change Cnt (x2.length : Int) i6 m7 at hsf1
  change F_group_fresh_l1 m7 i6 l5 = some r at h
  change AW _ _ _ ⟨slots [(3, raw v3), (8, rd (kint .i64) (x2.length : Int)), (9, rd (kint .i64) (i6 : Int))], ress [(1001, Row v3 164 kGroup l5)], _⟩
  cases m7 with
  | zero =>
    unfold F_group_fresh_l1 at h
    refine SR <| Ac (op_lss rfl rfl (vt rfl) (vt rfl)) rfl <| Nl <| AW.seq <| Cn rfl (fun hc => absurd (of_decide_eq_true hc) hsf1.zero) (fun hc => ?_)
    refine AW.exit <| SR <| Mw rfl <| Aw rfl <| Nl <| AW.freezes [2, 3, 23] 1001 rfl ⟨rfl, rfl, rfl, trivial⟩ rfl <| AW.ret ?_
    obtain rfl := si h
    exact ret1 Tryz.results242 rfl (out_tmp rfl)
  | succ m7 =>
    unfold F_group_fresh_l1 at h
    generalize hgo1 : F_group_fresh_l1 m7 = go1 at h
    refine SR <| Ac (op_lss rfl rfl (vt rfl) (vt rfl)) rfl <| Nl <| AW.seq <| Cn rfl (fun hc => ?_) (fun hc => absurd hsf1.succ (of_decide_eq_false hc))
    have hlti6 := of_decide_eq_true hc
    refine AW.skip <| AW.seq <| AW.block <| SR <| Md rfl <| As rfl <| Nl ?_
    obtain ⟨e8, he8, h⟩ := bsome h
    obtain ⟨x9, hx9, h⟩ := bsome h
    obtain ⟨e10, he10, h⟩ := bsome h
    refine Rg <| Mw rfl <| Md rfl <| Mw rfl <| Md rfl <| Ac (op_indexo' 1001 rfl rfl sl24 (vt rfl) rfl (vt rfl) he8) rfl <| Ac (op_fieldo lGroup_2 rfl rfl fl164_2 (vt rfl)) rfl <| Ac (op_loado' 1001 rfl rfl ty162 (vt rfl) rfl (lget_of he8).2) rfl <| Cl [18] (c_group_copies _ _ hx9) e290 rfl <| Ac (op_indexo' 1001 rfl rfl sl24 (vt rfl) rfl (vt rfl) he10) rfl <| Ac (op_fieldo lGroup_2 rfl rfl fl164_2 (vt rfl)) rfl <| Ac (op_storeo' 1001 rfl rfl ty162 (vt rfl) rfl (lget_of he10).2 (vt rfl)) rfl <| Nl <| Rg <| Ac (op_incr (t := 8) rfl rfl (vt rfl) (vk rfl) (vt rfl) hlti6) rfl <| Md rfl <| Nl ?_
    subst hgo1
    exact ⟨(m7, i6 + 1, (List.set l5 (i6 : Int).toNat { e10 with Buckets := x9 })), Nat.lt_succ_self _, ⟨hsf1.next, h⟩, ⟨rfl, ⟨rfl, rfl, rfl, trivial⟩, ⟨rfl, trivial⟩⟩⟩
def F_group_Find (l1 : (List Group)) (id2 : Int) : Option (Group × Bool) :=
  (F_group_place l1 id2).bind fun x4 => (bif (decide (x4 < 0)) then some ((⟨0, 0, []⟩ : Group), false) else (oslice l1 x4 (IntKind.i64.wrap (x4 + 1))).bind fun s5 => (F_group_fresh s5).bind fun x6 => (lget x6 0).bind fun e7 => some (e7, true))
theorem c_group_Find (l1 : (List Group)) (id2 : Int) (r : (Group × Bool)) (h : F_group_Find l1 id2 = some r) : PCon Tryz.prog 180 [rd (ksl kGroup) l1, rd (kint .i64) id2] (tup2 (rd kGroup r.1) (rd kbool r.2)) := by
  refine PCon.of (Con.intro0 Tryz.func180 rfl Tryz.ntmps180 rfl fun w H => ?_)
  unfold F_group_Find at h
  refine SR <| Ct rfl (op_alloc 5 rfl rfl zr164) ?_
  rintro _ ⟨g3, rfl⟩
  refine Ab rfl <| Nl <| AW.seq ?_
  obtain ⟨x4, hx4, h⟩ := bsome h
  refine Rg <| Md rfl <| Md rfl <| Cl [7, 8] (c_group_place _ _ _ hx4) e241 rfl <| As rfl <| Nl <| AW.seq <| SR <| Md rfl <| Ac (op_lss rfl rfl (vt rfl) (vk rfl)) rfl <| Nl <| Cn rfl (fun hc => ?_) (fun hc => ?_)
  · have h := cond_t hc h
    refine SR <| Ac (op_build (ps := []) (x := (⟨0, 0, []⟩ : Group)) rfl rfl rfl (by kernel_rfl) zr164 rfl) rfl <| Sto ty164 5 rfl <| Ab rfl <| Nl <| AW.ret ?_
    obtain rfl := si h
    exact ret2 Tryz.results180 rfl (out_cell rfl (i := 5) rfl ty164) (out_tmp rfl)
  · have h := cond_f hc h
    refine AW.skip <| AW.seq ?_
    obtain ⟨s5, hs5, h⟩ := bsome h
    obtain ⟨x6, hx6, h⟩ := bsome h
    obtain ⟨e7, he7, h⟩ := bsome h
    refine Rg <| Md rfl <| Md rfl <| Md rfl <| Ac (op_add rfl rfl (vt rfl) (vk rfl)) rfl <| Ac (op_slice_lh' hs5 rfl rfl sl24 (vt rfl) (vt rfl) (vt rfl)) rfl <| Cl [17] (c_group_fresh _ _ hx6) e242 rfl <| Ac (op_indexs' rfl rfl sl24 (vt rfl) (vk rfl) he7) rfl <| Lp1 ty164 rfl <| Sto ty164 5 rfl <| Ab rfl <| Nl <| AW.ret ?_
    obtain rfl := si h
    exact ret2 Tryz.results180 rfl (out_cell rfl (i := 5) rfl ty164) (out_tmp rfl)
end Go.Proofs.YtknpgojdkobgjaaGreat.W
set_option linter.unusedVariables false
set_option maxRecDepth 4000
set_option linter.unusedSimpArgs false
namespace Go.Proofs.YtknpgojdkobgjaaGreat.W
open Go Go.Wb
theorem e273 : Ent Tryz.prog 273 := Ent.mk Tryz.func273 rfl rfl
theorem e338 : Ent Tryz.prog 338 := Ent.mk Tryz.func338 rfl rfl
theorem e326 : Ent Tryz.prog 326 := Ent.mk Tryz.func326 rfl rfl
theorem e325 : Ent Tryz.prog 325 := Ent.mk Tryz.func325 rfl rfl
theorem e284 : Ent Tryz.prog 284 := Ent.mk Tryz.func284 rfl rfl
theorem e285 : Ent Tryz.prog 285 := Ent.mk Tryz.func285 rfl rfl
theorem e221 : Ent Tryz.prog 221 := Ent.mk Tryz.func221 rfl rfl
def F_env_Which (e1 : Env) (n2 : Int) : Option Int :=
  (bif (decide (n2 < 1)) then some 0 else (omod e1.Turn n2).bind fun q4 => (bif (decide (q4 < 0)) then some (IntKind.i64.wrap (q4 + n2)) else some q4))
theorem c_env_Which (e1 : Env) (n2 : Int) (r : Int) (h : F_env_Which e1 n2 = some r) : PCon Tryz.prog 284 [rd kEnv e1, rd (kint .i64) n2] (rd (kint .i64) r) := by
  refine PCon.of (Con.intro0 Tryz.func284 rfl Tryz.ntmps284 rfl fun w H => ?_)
  unfold F_env_Which at h
  refine SR <| Ct rfl (op_box 3 rfl rfl (vt rfl)) ?_
  rintro _ ⟨g3, rfl⟩
  refine Ak rfl <| Nl <| AW.seq <| SR <| Md rfl <| Ac (op_lss rfl rfl (vt rfl) (vk rfl)) rfl <| Nl <| Cn rfl (fun hc => ?_) (fun hc => ?_)
  · have h := cond_t hc h
    refine SR <| Ak rfl <| Nl <| AW.ret ?_
    obtain rfl := si h
    exact ret1 Tryz.results284 rfl (out_tmp rfl)
  · have h := cond_f hc h
    refine AW.skip <| AW.seq ?_
    obtain ⟨q4, hq4, h⟩ := bsome h
    refine Rg <| FdA lEnv_0 fl39_0 rfl <| Ld ty3 3 rfl <| Md rfl <| Ac (op_rem rfl rfl (vt rfl) (vt rfl) hq4) rfl <| As rfl <| Nl <| AW.seq <| SR <| Md rfl <| Ac (op_lss rfl rfl (vt rfl) (vk rfl)) rfl <| Nl <| Cn rfl (fun hc => ?_) (fun hc => ?_)
    · have h := cond_t hc h
      refine Rg <| Md rfl <| Md rfl <| Ac (op_add rfl rfl (vt rfl) (vt rfl)) rfl <| As rfl <| Nl <| SR <| Md rfl <| As rfl <| Nl <| AW.ret ?_
      obtain rfl := si h
      exact ret1 Tryz.results284 rfl (out_tmp rfl)
    · have h := cond_f hc h
      refine AW.skip <| SR <| Md rfl <| As rfl <| Nl <| AW.ret ?_
      obtain rfl := si h
      exact ret1 Tryz.results284 rfl (out_tmp rfl)
def F_slices_Index_int_l1 (s1 : (List Int)) (v2 : Int) : Nat → Nat → Option Int
  | 0, i3 => some (-1)
  | m4 + 1, i3 => (lget s1 (i3 : Int)).bind fun e5 => (bif (decide (v2 = e5)) then some (i3 : Int) else (F_slices_Index_int_l1 s1 v2 m4) (i3 + 1))
def F_slices_Index_int (s1 : (List Int)) (v2 : Int) : Option Int :=
  F_slices_Index_int_l1 s1 v2 ((s1.length : Int) : Int).toNat 0
theorem c_slices_Index_int (s1 : (List Int)) (v2 : Int) (r : Int) (h : F_slices_Index_int s1 v2 = some r) : PCon Tryz.prog 273 [rd (ksl (kint .i64)) s1, rd (kint .i64) v2] (rd (kint .i64) r) := by
  refine PCon.of (Con.intro0 Tryz.func273 rfl Tryz.ntmps273 rfl fun w H => ?_)
  unfold F_slices_Index_int at h
  refine SR <| Ak rfl <| Nl <| AW.seq <| SR <| Md rfl <| Ac (op_len' rfl rfl sl37 (vt rfl)) rfl <| Mk rfl <| Nl <| AW.block <| AW.loopG (d := []) (ν := Nat × Nat) (fun n => Cnt (s1.length : Int) n.2 n.1 ∧ F_slices_Index_int_l1 s1 v2 n.1 n.2 = some r) (fun n => n.1) (fun n => [(0, rd (ksl (kint .i64)) s1), (1, rd (kint .i64) v2), (7, rd (kint .i64) (s1.length : Int)), (8, rd (kint .i64) (n.2 : Int))]) (fun n => []) (((s1.length : Int) : Int).toNat, 0) ⟨Cnt.start _, h⟩ ⟨rfl, ⟨rfl, rfl, rfl, rfl, trivial⟩, trivial⟩ ?_
  rintro ⟨m4, i3⟩ ⟨hsf1, h⟩
  change Cnt (s1.length : Int) i3 m4 at hsf1
  change F_slices_Index_int_l1 s1 v2 m4 i3 = some r at h
  change AW _ _ _ ⟨slots [(0, rd (ksl (kint .i64)) s1), (1, rd (kint .i64) v2), (7, rd (kint .i64) (s1.length : Int)), (8, rd (kint .i64) (i3 : Int))], ress [], _⟩
  cases m4 with
  | zero =>
    unfold F_slices_Index_int_l1 at h
    refine SR <| Ac (op_lss rfl rfl (vt rfl) (vt rfl)) rfl <| Nl <| AW.seq <| Cn rfl (fun hc => absurd (of_decide_eq_true hc) hsf1.zero) (fun hc => ?_)
    refine AW.exit <| SR <| Ak rfl <| Nl <| AW.ret ?_
    obtain rfl := si h
    exact ret1 Tryz.results273 rfl (out_tmp rfl)
  | succ m4 =>
    unfold F_slices_Index_int_l1 at h
    generalize hgo1 : F_slices_Index_int_l1 s1 v2 m4 = go1 at h
    refine SR <| Ac (op_lss rfl rfl (vt rfl) (vt rfl)) rfl <| Nl <| AW.seq <| Cn rfl (fun hc => ?_) (fun hc => absurd hsf1.succ (of_decide_eq_false hc))
    have hlti3 := of_decide_eq_true hc
    refine AW.skip <| AW.seq <| AW.block <| SR <| Md rfl <| As rfl <| Nl <| AW.seq ?_
    obtain ⟨e5, he5, h⟩ := bsome h
    refine Rg <| Md rfl <| Md rfl <| Md rfl <| Ac (op_indexs' rfl rfl sl37 (vt rfl) (vt rfl) he5) rfl <| Lp1 ty3 rfl <| Ac (op_eql rfl rfl (vt rfl) (vt rfl)) rfl <| Nl <| Cn rfl (fun hc => ?_) (fun hc => ?_)
    · have h := cond_t hc h
      refine SR <| Md rfl <| As rfl <| Nl <| AW.ret ?_
      obtain rfl := si h
      exact ret1 Tryz.results273 rfl (out_tmp rfl)
    · have h := cond_f hc h
      refine AW.skip <| Rg <| Ac (op_incr (t := 7) rfl rfl (vt rfl) (vk rfl) (vt rfl) hlti3) rfl <| Md rfl <| Nl ?_
      subst hgo1
      exact ⟨(m4, i3 + 1), Nat.lt_succ_self _, ⟨hsf1.next, h⟩, ⟨rfl, ⟨rfl, rfl, rfl, rfl, trivial⟩, trivial⟩⟩
def F_slices_Contains_int (s1 : (List Int)) (v2 : Int) : Option Bool :=
  (F_slices_Index_int s1 v2).bind fun x3 => some (decide (x3 ≥ 0))
theorem c_slices_Contains_int (s1 : (List Int)) (v2 : Int) (r : Bool) (h : F_slices_Contains_int s1 v2 = some r) : PCon Tryz.prog 338 [rd (ksl (kint .i64)) s1, rd (kint .i64) v2] (rd kbool r) := by
  refine PCon.of (Con.intro0 Tryz.func338 rfl Tryz.ntmps338 rfl fun w H => ?_)
  unfold F_slices_Contains_int at h
  refine SR <| Ab rfl <| Nl <| AW.seq ?_
  obtain ⟨x3, hx3, h⟩ := bsome h
  refine Rg <| Md rfl <| Md rfl <| Cl [5, 6] (c_slices_Index_int _ _ _ hx3) e273 rfl <| Ac (op_geq rfl rfl (vt rfl) (vk rfl)) rfl <| As rfl <| Nl <| AW.ret ?_
  obtain rfl := si h
  exact ret1 Tryz.results338 rfl (out_tmp rfl)
def F_env_Up (e1 : Env) (port2 : Int) : Option Bool :=
  (F_slices_Contains_int e1.Down port2).bind fun x4 => some (!x4)
theorem c_env_Up (e1 : Env) (port2 : Int) (r : Bool) (h : F_env_Up e1 port2 = some r) : PCon Tryz.prog 326 [rd kEnv e1, rd (kint .i64) port2] (rd kbool r) := by
  refine PCon.of (Con.intro0 Tryz.func326 rfl Tryz.ntmps326 rfl fun w H => ?_)
  unfold F_env_Up at h
  refine SR <| Ct rfl (op_box 3 rfl rfl (vt rfl)) ?_
  rintro _ ⟨g3, rfl⟩
  refine Ab rfl <| Nl <| AW.seq ?_
  obtain ⟨x4, hx4, h⟩ := bsome h
  refine Rg <| FdA lEnv_1 fl39_1 rfl <| Ld ty37 3 rfl <| Md rfl <| Cl [6, 7] (c_slices_Contains_int _ _ _ hx4) e338 rfl <| Ac (op_not rfl rfl (vt rfl)) rfl <| As rfl <| Nl <| AW.ret ?_
  obtain rfl := si h
  exact ret1 Tryz.results326 rfl (out_tmp rfl)
def F_env_world_up_1 (x1 : Bucket) (cp2 : env_world) : Option Bool :=
  (F_env_Up cp2.Env x1.Watch).bind fun x4 => some x4
theorem c_env_world_up_1 (x1 : Bucket) (cp2 : env_world) (r : Bool) (h : F_env_world_up_1 x1 cp2 = some r) : PCon Tryz.prog 325 [rd kBucket x1, rp kenv_world cp2] (rd kbool r) := by
  refine PCon.of (Con.intro0 Tryz.func325 rfl Tryz.ntmps325 rfl fun w H => ?_)
  unfold F_env_world_up_1 at h
  refine SR <| Ct rfl (op_box 3 rfl rfl (vt rfl)) ?_
  rintro _ ⟨g3, rfl⟩
  refine Ab rfl <| Nl <| AW.seq ?_
  obtain ⟨x4, hx4, h⟩ := bsome h
  refine Rg <| Fp lenv_world_0 fl328_0 rfl <| Lp1 ty39 rfl <| FdA lBucket_1 fl226_1 rfl <| Ld ty3 3 rfl <| Cl [5, 7] (c_env_Up _ _ _ hx4) e326 rfl <| As rfl <| Nl <| AW.ret ?_
  obtain rfl := si h
  exact ret1 Tryz.results325 rfl (out_tmp rfl)
def F_env_world_up (w1 : env_world) : Option Int :=
  (F_slices_IndexFunc_Bucket w1.Group.Buckets (fun x => F_env_world_up_1 x w1)).bind fun x3 => some x3
theorem c_env_world_up (w1 : env_world) (r : Int) (h : F_env_world_up w1 = some r) : PCon Tryz.prog 285 [rd kenv_world w1] (rd (kint .i64) r) := by
  refine PCon.of (Con.intro0 Tryz.func285 rfl Tryz.ntmps285 rfl fun w H => ?_)
  unfold F_env_world_up at h
  refine SR <| Ct rfl (op_box 2 rfl rfl (vt rfl)) ?_
  rintro _ ⟨g2, rfl⟩
  refine Ak rfl <| Nl <| AW.seq <| AW.freezeB 1 2 rfl rfl rfl ?_
  obtain ⟨x3, hx3, h⟩ := bsome h
  refine Rg <| Fp lenv_world_1 fl328_1 rfl <| Fp lGroup_2 fl164_2 rfl <| Lp1 ty162 rfl <| Ac (op_fn1 (cs := [.tmp 1]) (CAs := [rp kenv_world w1]) (fun x => F_env_world_up_1 x w1) rfl rfl e325 ⟨vt rfl, trivial⟩ (fun x y h => c_env_world_up_1 _ _ y h)) rfl <| Cl [5, 6] (c_slices_IndexFunc_Bucket _ _ _ hx3) e231 rfl <| As rfl <| Nl <| AW.ret ?_
  obtain rfl := si h
  exact ret1 Tryz.results285 rfl (out_tmp rfl)
def F_env_Takes_l1 : Nat → Nat → (List Int) → Option (List Int)
  | 0, i10, l8 => some l8
  | m11 + 1, i10, l8 => (appd l8 [(i10 : Int)]).bind fun l12 => (F_env_Takes_l1 m11) (i10 + 1) l12
def F_env_Takes (e1 : Env) (g2 : Group) : Option (List Int) :=
  (bif (decide (((((⟨e1, g2⟩ : env_world).Group).Buckets).length : Int) = 0)) then some [] else (bif (decide ((((⟨e1, g2⟩ : env_world).Group).Kind) = 0)) then F_env_Takes_l1 (((((⟨e1, g2⟩ : env_world).Group).Buckets).length : Int) : Int).toNat 0 [] else (bif (decide ((((⟨e1, g2⟩ : env_world).Group).Kind) = 1)) then (F_env_Which ((⟨e1, g2⟩ : env_world).Env) ((((⟨e1, g2⟩ : env_world).Group).Buckets).length : Int)).bind fun x14 => some [x14] else (bif (decide ((((⟨e1, g2⟩ : env_world).Group).Kind) = 2)) then some [0] else (bif (decide ((((⟨e1, g2⟩ : env_world).Group).Kind) = 3)) then (F_env_world_up (⟨e1, g2⟩ : env_world)).bind fun x15 => (bif (decide (x15 ≥ 0)) then some [x15] else some []) else some [])))))
theorem c_env_Takes (e1 : Env) (g2 : Group) (r : (List Int)) (h : F_env_Takes e1 g2 = some r) : PCon Tryz.prog 238 [rd kEnv e1, rd kGroup g2] (rd (ksl (kint .i64)) r) := by
  refine PCon.of (Con.intro0 Tryz.func238 rfl Tryz.ntmps238 rfl fun w H => ?_)
  unfold F_env_Takes at h
  refine SR <| Ct rfl (op_box 3 rfl rfl (vt rfl)) ?_
  rintro _ ⟨g3, rfl⟩
  refine Ct rfl (op_box 4 rfl rfl (vt rfl)) ?_
  rintro _ ⟨g4, rfl⟩
  refine Ac (op_assign (A := rd (ksl (kint .i64)) []) rfl rfl vnil) rfl <| Nl <| SR <| Ld ty39 3 rfl <| Ld ty164 4 rfl <| Ac (op_build (ps := [(0, .tmp 9), (1, .tmp 10)]) (x := (⟨e1, g2⟩ : env_world)) rfl rfl rfl (by kernel_rfl) zr328 ⟨_, _, lenv_world_0, _, by kernel_rfl, (vt rfl), _, _, lenv_world_1, _, by kernel_rfl, (vt rfl), rfl⟩) rfl <| Ct rfl (op_alloc 6 rfl rfl zr328) ?_
  rintro _ ⟨g5, rfl⟩
  refine Sto ty328 6 rfl <| Nl <| AW.seq <| SR <| FdA lenv_world_1 fl328_1 rfl <| FdA lGroup_2 fl164_2 rfl <| Ld ty162 6 rfl <| Ac (op_len' rfl rfl sl162 (vt rfl)) rfl <| Ac (op_eql rfl rfl (vt rfl) (vk rfl)) rfl <| Nl <| Cn rfl (fun hc => ?_) (fun hc => ?_)
  · have h := cond_t hc h
    refine SR <| Ac (op_assign (A := rd (ksl (kint .i64)) []) rfl rfl vnil) rfl <| Nl <| AW.ret ?_
    obtain rfl := si h
    exact ret1 Tryz.results238 rfl (out_tmp rfl)
  · have h := cond_f hc h
    refine AW.skip <| AW.seq <| SR <| FdA lenv_world_1 fl328_1 rfl <| FdA lGroup_1 fl164_1 rfl <| Ld ty3 6 rfl <| Nl <| AW.block <| SR <| Ac (op_eql rfl rfl (vt rfl) (vk rfl)) rfl <| As rfl <| Nl <| Cn rfl (fun hc => ?_) (fun hc => ?_)
    · have h := cond_t hc h
      refine AW.seq <| AW.newnil 1001 3 (kint .i64) <| Rg <| Ac (op_assign rfl rfl vc) rfl <| Nl <| AW.seq <| SR <| FdA lenv_world_1 fl328_1 rfl <| FdA lGroup_2 fl164_2 rfl <| Ld ty162 6 rfl <| Ac (op_len' rfl rfl sl162 (vt rfl)) rfl <| Mk rfl <| Nl <| AW.block <| AW.loopG (d := []) (ν := Nat × Nat × (List Int) × Value) (fun n => Cnt ((((⟨e1, g2⟩ : env_world).Group).Buckets).length : Int) n.2.1 n.1 ∧ F_env_Takes_l1 n.1 n.2.1 n.2.2.1 = some r) (fun n => n.1) (fun n => [(6, raw n.2.2.2), (25, rd (kint .i64) ((((⟨e1, g2⟩ : env_world).Group).Buckets).length : Int)), (26, rd (kint .i64) (n.2.1 : Int))]) (fun n => [(1001, Row n.2.2.2 3 (kint .i64) n.2.2.1)]) ((((((⟨e1, g2⟩ : env_world).Group).Buckets).length : Int) : Int).toNat, 0, [], (.slice none 0 0)) ⟨Cnt.start _, h⟩ ⟨rfl, ⟨rfl, rfl, rfl, trivial⟩, ⟨rfl, trivial⟩⟩ ?_
      rintro ⟨m11, i10, l8, v9⟩ ⟨hsf1, h⟩
      change Cnt ((((⟨e1, g2⟩ : env_world).Group).Buckets).length : Int) i10 m11 at hsf1
      change F_env_Takes_l1 m11 i10 l8 = some r at h
      change AW _ _ _ ⟨slots [(6, raw v9), (25, rd (kint .i64) ((((⟨e1, g2⟩ : env_world).Group).Buckets).length : Int)), (26, rd (kint .i64) (i10 : Int))], ress [(1001, Row v9 3 (kint .i64) l8)], _⟩
      cases m11 with
      | zero =>
        unfold F_env_Takes_l1 at h
        refine SR <| Ac (op_lss rfl rfl (vt rfl) (vt rfl)) rfl <| Nl <| AW.seq <| Cn rfl (fun hc => absurd (of_decide_eq_true hc) hsf1.zero) (fun hc => ?_)
        refine AW.exit <| SR <| Mw rfl <| Aw rfl <| Nl <| AW.freezes [4, 6, 34] 1001 rfl ⟨rfl, rfl, rfl, trivial⟩ rfl <| AW.ret ?_
        obtain rfl := si h
        exact ret1 Tryz.results238 rfl (out_tmp rfl)
      | succ m11 =>
        unfold F_env_Takes_l1 at h
        generalize hgo1 : F_env_Takes_l1 m11 = go1 at h
        refine SR <| Ac (op_lss rfl rfl (vt rfl) (vt rfl)) rfl <| Nl <| AW.seq <| Cn rfl (fun hc => ?_) (fun hc => absurd hsf1.succ (of_decide_eq_false hc))
        have hlti10 := of_decide_eq_true hc
        refine AW.skip <| AW.seq <| AW.block <| SR <| Md rfl <| As rfl <| Nl ?_
        obtain ⟨l12, hl12, h⟩ := bsome h
        refine Rg <| Mw rfl <| Md rfl <| Ac (op_buildSliceR (ps := [(0, .tmp 30)]) (l := [(i10 : Int)]) rfl rfl sl37 zr3 rfl rfl ⟨_, _, Lens.idx 1 (kint .i64) 0 (by decide), _, rfl, (vt rfl), rfl⟩ rfl) rfl <| Ct rfl (op_append' 1001 hl12 rfl rfl el37 (vt rfl) rfl (vt rfl)) ?_
        rintro _ ⟨v13, rfl⟩
        refine Aw rfl <| Nl <| Rg <| Ac (op_incr (t := 25) rfl rfl (vt rfl) (vk rfl) (vt rfl) hlti10) rfl <| Md rfl <| Nl ?_
        subst hgo1
        exact ⟨(m11, i10 + 1, l12, v13), Nat.lt_succ_self _, ⟨hsf1.next, h⟩, ⟨rfl, ⟨rfl, rfl, rfl, trivial⟩, ⟨rfl, trivial⟩⟩⟩
    · have h := cond_f hc h
      refine SR <| Ac (op_eql rfl rfl (vt rfl) (vk rfl)) rfl <| As rfl <| Nl <| Cn rfl (fun hc => ?_) (fun hc => ?_)
      · have h := cond_t hc h
        refine AW.seq ?_
        obtain ⟨x14, hx14, h⟩ := bsome h
        refine Rg <| FdA lenv_world_0 fl328_0 rfl <| Ld ty39 6 rfl <| FdA lenv_world_1 fl328_1 rfl <| FdA lGroup_2 fl164_2 rfl <| Ld ty162 6 rfl <| Ac (op_len' rfl rfl sl162 (vt rfl)) rfl <| Cl [38, 42] (c_env_Which _ _ _ hx14) e284 rfl <| Ac (op_buildSliceR (ps := [(0, .tmp 43)]) (l := [x14]) rfl rfl sl37 zr3 rfl rfl ⟨_, _, Lens.idx 1 (kint .i64) 0 (by decide), _, rfl, (vt rfl), rfl⟩ rfl) rfl <| As rfl <| Nl <| AW.ret ?_
        obtain rfl := si h
        exact ret1 Tryz.results238 rfl (out_tmp rfl)
      · have h := cond_f hc h
        refine SR <| Ac (op_eql rfl rfl (vt rfl) (vk rfl)) rfl <| As rfl <| Nl <| Cn rfl (fun hc => ?_) (fun hc => ?_)
        · have h := cond_t hc h
          refine SR <| Ac (op_buildSliceR (ps := [(0, .const (Value.int IntKind.i64 0))]) (l := [0]) rfl rfl sl37 zr3 rfl rfl ⟨_, _, Lens.idx 1 (kint .i64) 0 (by decide), _, rfl, (vk rfl), rfl⟩ rfl) rfl <| As rfl <| Nl <| AW.ret ?_
          obtain rfl := si h
          exact ret1 Tryz.results238 rfl (out_tmp rfl)
        · have h := cond_f hc h
          refine SR <| Ac (op_eql rfl rfl (vt rfl) (vk rfl)) rfl <| As rfl <| Nl <| Cn rfl (fun hc => ?_) (fun hc => ?_)
          · have h := cond_t hc h
            refine AW.seq ?_
            obtain ⟨x15, hx15, h⟩ := bsome h
            refine Rg <| Ld ty328 6 rfl <| Cl [50] (c_env_world_up _ _ hx15) e285 rfl <| As rfl <| Nl <| SR <| Md rfl <| Ac (op_geq rfl rfl (vt rfl) (vk rfl)) rfl <| Nl <| Cn rfl (fun hc => ?_) (fun hc => ?_)
            · have h := cond_t hc h
              refine SR <| Md rfl <| Ac (op_buildSliceR (ps := [(0, .tmp 54)]) (l := [x15]) rfl rfl sl37 zr3 rfl rfl ⟨_, _, Lens.idx 1 (kint .i64) 0 (by decide), _, rfl, (vt rfl), rfl⟩ rfl) rfl <| As rfl <| Nl <| AW.ret ?_
              obtain rfl := si h
              exact ret1 Tryz.results238 rfl (out_tmp rfl)
            · have h := cond_f hc h
              refine AW.skip <| SR <| Ac (op_assign (A := rd (ksl (kint .i64)) []) rfl rfl vnil) rfl <| Nl <| AW.ret ?_
              obtain rfl := si h
              exact ret1 Tryz.results238 rfl (out_tmp rfl)
          · have h := cond_f hc h
            refine AW.skip <| SR <| Ac (op_assign (A := rd (ksl (kint .i64)) []) rfl rfl vnil) rfl <| Nl <| AW.ret ?_
            obtain rfl := si h
            exact ret1 Tryz.results238 rfl (out_tmp rfl)
def F_aset_at (a1 : Action) : Option aset_spot :=
  (bif (decide (a1.Kind = 25)) then some (⟨a1.Kind, a1.Oxm.Field⟩ : aset_spot) else some (⟨a1.Kind, 0⟩ : aset_spot))
theorem c_aset_at (a1 : Action) (r : aset_spot) (h : F_aset_at a1 = some r) : PCon Tryz.prog 221 [rd kAction a1] (rd kaset_spot r) := by
  refine PCon.of (Con.intro0 Tryz.func221 rfl Tryz.ntmps221 rfl fun w H => ?_)
  unfold F_aset_at at h
  refine SR <| Ct rfl (op_box 2 rfl rfl (vt rfl)) ?_
  rintro _ ⟨g2, rfl⟩
  refine Ct rfl (op_alloc 3 rfl rfl zr275) ?_
  rintro _ ⟨g3, rfl⟩
  refine Nl <| AW.seq <| SR <| FdA lAction_0 fl121_0 rfl <| Ld ty3 2 rfl <| Ac (op_eql rfl rfl (vt rfl) (vk rfl)) rfl <| Nl <| Cn rfl (fun hc => ?_) (fun hc => ?_)
  · have h := cond_t hc h
    refine SR <| FdA lAction_0 fl121_0 rfl <| Ld ty3 2 rfl <| FdA lAction_5 fl121_5 rfl <| FdA lOxm_0 fl119_0 rfl <| Ld ty3 2 rfl <| Ac (op_build (ps := [(0, .tmp 7), (1, .tmp 10)]) (x := (⟨a1.Kind, a1.Oxm.Field⟩ : aset_spot)) rfl rfl rfl (by kernel_rfl) zr275 ⟨_, _, laset_spot_0, _, by kernel_rfl, (vt rfl), _, _, laset_spot_1, _, by kernel_rfl, (vt rfl), rfl⟩) rfl <| Sto ty275 3 rfl <| Nl <| AW.ret ?_
    obtain rfl := si h
    exact ret1 Tryz.results221 rfl (out_cell rfl (i := 3) rfl ty275)
  · have h := cond_f hc h
    refine AW.skip <| SR <| FdA lAction_0 fl121_0 rfl <| Ld ty3 2 rfl <| Ac (op_build (ps := [(0, .tmp 13)]) (x := (⟨a1.Kind, 0⟩ : aset_spot)) rfl rfl rfl (by kernel_rfl) zr275 ⟨_, _, laset_spot_0, _, by kernel_rfl, (vt rfl), rfl⟩) rfl <| Sto ty275 3 rfl <| Nl <| AW.ret ?_
    obtain rfl := si h
    exact ret1 Tryz.results221 rfl (out_cell rfl (i := 3) rfl ty275)
def F_aset_Write_1 (b1 : Action) (cp2 : Action) : Option Bool :=
  (F_aset_at cp2).bind fun x4 => (F_aset_at b1).bind fun x5 => some (decide (x4 = x5))
theorem c_aset_Write_1 (b1 : Action) (cp2 : Action) (r : Bool) (h : F_aset_Write_1 b1 cp2 = some r) : PCon Tryz.prog 267 [rd kAction b1, rp kAction cp2] (rd kbool r) := by
  refine PCon.of (Con.intro0 Tryz.func267 rfl Tryz.ntmps267 rfl fun w H => ?_)
  unfold F_aset_Write_1 at h
  refine SR <| Ct rfl (op_box 3 rfl rfl (vt rfl)) ?_
  rintro _ ⟨g3, rfl⟩
  refine Ab rfl <| Nl <| AW.seq ?_
  obtain ⟨x4, hx4, h⟩ := bsome h
  obtain ⟨x5, hx5, h⟩ := bsome h
  refine AW.regionAny [⟨[1], [4], [], []⟩, ⟨[4], [5], [], []⟩, ⟨[2], [6], [3], []⟩, ⟨[6], [7], [], []⟩, ⟨[5, 7], [8], [], []⟩, ⟨[8], [3], [], []⟩] mixed (by kernel_rfl) <| SLp ty121 rfl <| SCl [4] (c_aset_at _ _ hx4) e221 rfl <| SLd ty121 3 rfl <| SCl [6] (c_aset_at _ _ hx5) e221 rfl <| Sc (lo [5, 7] [] rfl fun S hs hr => op_eqlk rfl rfl eqk275 (by decide) rfl eg275 (vh hs 5 rfl rfl) (vh hs 7 rfl rfl)) rfl <| SAs rfl <| AW.ret ?_
  obtain rfl := si h
  exact ret1 Tryz.results267 rfl (out_tmp rfl)
end Go.Proofs.YtknpgojdkobgjaaGreat.W
set_option linter.unusedVariables false
set_option maxRecDepth 4000
set_option linter.unusedSimpArgs false
namespace Go.Proofs.YtknpgojdkobgjaaGreat.W
open Go Go.Wb
theorem e267 : Ent Tryz.prog 267 := Ent.mk Tryz.func267 rfl rfl
theorem e266 : Ent Tryz.prog 266 := Ent.mk Tryz.func266 rfl rfl
theorem e218 : Ent Tryz.prog 218 := Ent.mk Tryz.func218 rfl rfl
def F_slices_IndexFunc_Action_l1 (s1 : (List Action)) (f2 : (Action → Option Bool)) : Nat → Nat → Option Int
  | 0, i3 => some (-1)
  | m4 + 1, i3 => (lget s1 (i3 : Int)).bind fun e5 => (f2 e5).bind fun x6 => (bif x6 then some (i3 : Int) else (F_slices_IndexFunc_Action_l1 s1 f2 m4) (i3 + 1))
def F_slices_IndexFunc_Action (s1 : (List Action)) (f2 : (Action → Option Bool)) : Option Int :=
  F_slices_IndexFunc_Action_l1 s1 f2 ((s1.length : Int) : Int).toNat 0
theorem c_slices_IndexFunc_Action (s1 : (List Action)) (f2 : (Action → Option Bool)) (r : Int) (h : F_slices_IndexFunc_Action s1 f2 = some r) : PCon Tryz.prog 266 [rd (ksl kAction) s1, fn1 Tryz.prog kAction kbool f2] (rd (kint .i64) r) := by
  refine PCon.of (Con.intro0 Tryz.func266 rfl Tryz.ntmps266 rfl fun w H => ?_)
  unfold F_slices_IndexFunc_Action at h
  refine SR <| Ak rfl <| Nl <| AW.seq <| SR <| Md rfl <| Ac (op_len' rfl rfl sl122 (vt rfl)) rfl <| Mk rfl <| Nl <| AW.block <| AW.loopG (d := []) (ν := Nat × Nat) (fun n => Cnt (s1.length : Int) n.2 n.1 ∧ F_slices_IndexFunc_Action_l1 s1 f2 n.1 n.2 = some r) (fun n => n.1) (fun n => [(0, rd (ksl kAction) s1), (1, fn1 Tryz.prog kAction kbool f2), (7, rd (kint .i64) (s1.length : Int)), (8, rd (kint .i64) (n.2 : Int))]) (fun n => []) (((s1.length : Int) : Int).toNat, 0) ⟨Cnt.start _, h⟩ ⟨rfl, ⟨rfl, rfl, rfl, rfl, trivial⟩, trivial⟩ ?_
  rintro ⟨m4, i3⟩ ⟨hsf1, h⟩
  change Cnt (s1.length : Int) i3 m4 at hsf1
  change F_slices_IndexFunc_Action_l1 s1 f2 m4 i3 = some r at h
  change AW _ _ _ ⟨slots [(0, rd (ksl kAction) s1), (1, fn1 Tryz.prog kAction kbool f2), (7, rd (kint .i64) (s1.length : Int)), (8, rd (kint .i64) (i3 : Int))], ress [], _⟩
  cases m4 with
  | zero =>
    unfold F_slices_IndexFunc_Action_l1 at h
    refine SR <| Ac (op_lss rfl rfl (vt rfl) (vt rfl)) rfl <| Nl <| AW.seq <| Cn rfl (fun hc => absurd (of_decide_eq_true hc) hsf1.zero) (fun hc => ?_)
    refine AW.exit <| SR <| Ak rfl <| Nl <| AW.ret ?_
    obtain rfl := si h
    exact ret1 Tryz.results266 rfl (out_tmp rfl)
  | succ m4 =>
    unfold F_slices_IndexFunc_Action_l1 at h
    generalize hgo1 : F_slices_IndexFunc_Action_l1 s1 f2 m4 = go1 at h
    refine SR <| Ac (op_lss rfl rfl (vt rfl) (vt rfl)) rfl <| Nl <| AW.seq <| Cn rfl (fun hc => ?_) (fun hc => absurd hsf1.succ (of_decide_eq_false hc))
    have hlti3 := of_decide_eq_true hc
    refine AW.skip <| AW.seq <| AW.block <| SR <| Md rfl <| As rfl <| Nl <| AW.seq ?_
    obtain ⟨e5, he5, h⟩ := bsome h
    obtain ⟨x6, hx6, h⟩ := bsome h
    refine Rg <| Ac (op_move (A := fn1 Tryz.prog kAction kbool f2) rfl rfl (vt rfl)) rfl <| Md rfl <| Md rfl <| Ac (op_indexs' rfl rfl sl122 (vt rfl) (vt rfl) he5) rfl <| Lp1 ty121 rfl <| Ac (op_call1 hx6 rfl rfl (vt rfl) (vt rfl)) rfl <| Nl <| Cn rfl (fun hc => ?_) (fun hc => ?_)
    · have h := cond_t hc h
      refine SR <| Md rfl <| As rfl <| Nl <| AW.ret ?_
      obtain rfl := si h
      exact ret1 Tryz.results266 rfl (out_tmp rfl)
    · have h := cond_f hc h
      refine AW.skip <| Rg <| Ac (op_incr (t := 7) rfl rfl (vt rfl) (vk rfl) (vt rfl) hlti3) rfl <| Md rfl <| Nl ?_
      subst hgo1
      exact ⟨(m4, i3 + 1), Nat.lt_succ_self _, ⟨hsf1.next, h⟩, ⟨rfl, ⟨rfl, rfl, rfl, rfl, trivial⟩, trivial⟩⟩
def F_aset_Write_l1 : (List Action) → Nat → (List Action) → Option (List Action)
  | [], i9, l7 => some l7
  | x11 :: l10, i9, l7 => (F_slices_IndexFunc_Action l7 (fun x => F_aset_Write_1 x x11)).bind fun x13 => (bif (decide (x13 < 0)) then (appd l7 [x11]).bind fun l14 => (F_aset_Write_l1 l10) (i9 + 1) l14 else (lget l7 x13).bind fun e16 => (F_aset_Write_l1 l10) (i9 + 1) (List.set l7 x13.toNat x11))
def F_aset_Write (set1 : (List Action)) (l2 : (List Action)) : Option (List Action) :=
  (F_slices_Clone_Action set1).bind fun x3 => F_aset_Write_l1 l2 0 x3
theorem c_aset_Write (set1 : (List Action)) (l2 : (List Action)) (r : (List Action)) (h : F_aset_Write set1 l2 = some r) : PCon Tryz.prog 206 [rd (ksl kAction) set1, rd (ksl kAction) l2] (rd (ksl kAction) r) := by
  refine PCon.of (Con.intro0 Tryz.func206 rfl Tryz.ntmps206 rfl fun w H => ?_)
  unfold F_aset_Write at h
  refine SR <| Ac (op_assign (A := rd (ksl kAction) []) rfl rfl vnil) rfl <| Nl <| AW.seq ?_
  obtain ⟨x3, hx3, h⟩ := bsome h
  refine Rg <| Md rfl <| Ct rfl (op_callR 1001 (xs := [.tmp 9]) (c_slices_Clone_Action_o _ _ hx3) e216 rfl rfl ⟨vt rfl, trivial⟩ rfl) ?_
  rintro _ ⟨v4, rfl⟩
  refine Aw rfl <| Nl <| AW.seq <| SR <| Md rfl <| Ac (op_len' rfl rfl sl122 (vt rfl)) rfl <| Mk rfl <| Nl <| AW.block <| AW.loopG (d := []) (ν := (List Action) × Nat × (List Action) × Value) (fun n => Sfx l2 n.2.1 n.1 ∧ F_aset_Write_l1 n.1 n.2.1 n.2.2.1 = some r) (fun n => n.1.length) (fun n => [(5, raw n.2.2.2), (11, rd (ksl kAction) l2), (12, rd (kint .i64) (l2.length : Int)), (13, rd (kint .i64) (n.2.1 : Int))]) (fun n => [(1001, Row n.2.2.2 121 kAction n.2.2.1)]) (l2, 0, x3, v4) ⟨Sfx.start _, h⟩ ⟨rfl, ⟨rfl, rfl, rfl, rfl, trivial⟩, ⟨rfl, trivial⟩⟩ ?_
  rintro ⟨l10, i9, l7, v8⟩ ⟨hsf1, h⟩
  change Sfx l2 i9 l10 at hsf1
  change F_aset_Write_l1 l10 i9 l7 = some r at h
  change AW _ _ _ ⟨slots [(5, raw v8), (11, rd (ksl kAction) l2), (12, rd (kint .i64) (l2.length : Int)), (13, rd (kint .i64) (i9 : Int))], ress [(1001, Row v8 121 kAction l7)], _⟩
  cases l10 with
  | nil =>
    unfold F_aset_Write_l1 at h
    refine SR <| Ac (op_lss rfl rfl (vt rfl) (vt rfl)) rfl <| Nl <| AW.seq <| Cn rfl (fun hc => absurd (of_decide_eq_true hc) hsf1.nil) (fun hc => ?_)
    refine AW.exit <| SR <| Mw rfl <| Aw rfl <| Nl <| AW.freezes [4, 5, 31] 1001 rfl ⟨rfl, rfl, rfl, trivial⟩ rfl <| AW.ret ?_
    obtain rfl := si h
    exact ret1 Tryz.results206 rfl (out_tmp rfl)
  | cons x11 l10 =>
    unfold F_aset_Write_l1 at h
    generalize hgo1 : F_aset_Write_l1 l10 = go1 at h
    refine SR <| Ac (op_lss rfl rfl (vt rfl) (vt rfl)) rfl <| Nl <| AW.seq <| Cn rfl (fun hc => ?_) (fun hc => absurd hsf1.cons (of_decide_eq_false hc))
    have hlti9 := of_decide_eq_true hc
    refine AW.skip <| AW.seq <| AW.block <| SR <| Ac (op_indexs' rfl rfl sl122 (vt rfl) (vt rfl) hsf1.lget) rfl <| Lp1 ty121 rfl <| Ct rfl (op_alloc 8 rfl rfl zr121) ?_
    rintro _ ⟨g12, rfl⟩
    refine Sto ty121 8 rfl <| Nl <| AW.seq <| AW.freezeB 7 8 rfl rfl rfl ?_
    obtain ⟨x13, hx13, h⟩ := bsome h
    refine Rg <| Mw rfl <| Ac (op_fn1 (cs := [.tmp 7]) (CAs := [rp kAction x11]) (fun x => F_aset_Write_1 x x11) rfl rfl e267 ⟨vt rfl, trivial⟩ (fun x y h => c_aset_Write_1 _ _ y h)) rfl <| Ac (op_callB (xs := [.tmp 17, .tmp 18]) 1001 (c_slices_IndexFunc_Action _ _ _ hx13) e266 rfl rfl ⟨vL rfl rfl, vB (vt rfl), trivial⟩) rfl <| As rfl <| Nl <| SR <| Md rfl <| Ac (op_lss rfl rfl (vt rfl) (vk rfl)) rfl <| Nl <| Cn rfl (fun hc => ?_) (fun hc => ?_)
    · have h := cond_t hc h
      obtain ⟨l14, hl14, h⟩ := bsome h
      refine Rg <| Mw rfl <| Lp1 ty121 rfl <| Ac (op_buildSliceR (ps := [(0, .tmp 23)]) (l := [x11]) rfl rfl sl122 zr121 rfl rfl ⟨_, _, Lens.idx 1 kAction 0 (by decide), _, rfl, (vt rfl), rfl⟩ rfl) rfl <| Ct rfl (op_append' 1001 hl14 rfl rfl el122 (vt rfl) rfl (vt rfl)) ?_
      rintro _ ⟨v15, rfl⟩
      refine Aw rfl <| Nl <| Rg <| Ac (op_incr (t := 12) rfl rfl (vt rfl) (vk rfl) (vt rfl) hlti9) rfl <| Md rfl <| Nl ?_
      subst hgo1
      exact ⟨(l10, i9 + 1, l14, v15), Nat.lt_succ_self _, ⟨hsf1.next, h⟩, ⟨rfl, ⟨rfl, rfl, rfl, rfl, trivial⟩, ⟨rfl, trivial⟩⟩⟩
    · have h := cond_f hc h
      obtain ⟨e16, he16, h⟩ := bsome h
      refine Rg <| Mw rfl <| Md rfl <| Lp1 ty121 rfl <| Ac (op_indexo' 1001 rfl rfl sl122 (vt rfl) rfl (vt rfl) he16) rfl <| Ac (op_storeo' 1001 rfl rfl ty121 (vt rfl) rfl (lget_of he16).2 (vt rfl)) rfl <| Nl <| Rg <| Ac (op_incr (t := 12) rfl rfl (vt rfl) (vk rfl) (vt rfl) hlti9) rfl <| Md rfl <| Nl ?_
      subst hgo1
      exact ⟨(l10, i9 + 1, (List.set l7 x13.toNat x11), v8), Nat.lt_succ_self _, ⟨hsf1.next, h⟩, ⟨rfl, ⟨rfl, rfl, rfl, rfl, trivial⟩, ⟨rfl, trivial⟩⟩⟩
def F_slices_ContainsFunc_Action (s1 : (List Action)) (f2 : (Action → Option Bool)) : Option Bool :=
  (F_slices_IndexFunc_Action s1 f2).bind fun x3 => some (decide (x3 ≥ 0))
theorem c_slices_ContainsFunc_Action (s1 : (List Action)) (f2 : (Action → Option Bool)) (r : Bool) (h : F_slices_ContainsFunc_Action s1 f2 = some r) : PCon Tryz.prog 213 [rd (ksl kAction) s1, fn1 Tryz.prog kAction kbool f2] (rd kbool r) := by
  refine PCon.of (Con.intro0 Tryz.func213 rfl Tryz.ntmps213 rfl fun w H => ?_)
  unfold F_slices_ContainsFunc_Action at h
  refine SR <| Ab rfl <| Nl <| AW.seq ?_
  obtain ⟨x3, hx3, h⟩ := bsome h
  refine Rg <| Md rfl <| Ac (op_move (A := fn1 Tryz.prog kAction kbool f2) rfl rfl (vt rfl)) rfl <| Cl [5, 6] (c_slices_IndexFunc_Action _ _ _ hx3) e266 rfl <| Ac (op_geq rfl rfl (vt rfl) (vk rfl)) rfl <| As rfl <| Nl <| AW.ret ?_
  obtain rfl := si h
  exact ret1 Tryz.results213 rfl (out_tmp rfl)
def F_aset_List_1 (a1 : Action) : Option Bool :=
  some (decide (a1.Kind = 22))
theorem c_aset_List_1 (a1 : Action) (r : Bool) (h : F_aset_List_1 a1 = some r) : PCon Tryz.prog 214 [rd kAction a1] (rd kbool r) := by
  refine PCon.of (Con.intro0 Tryz.func214 rfl Tryz.ntmps214 rfl fun w H => ?_)
  unfold F_aset_List_1 at h
  refine SR <| Ct rfl (op_box 2 rfl rfl (vt rfl)) ?_
  rintro _ ⟨g2, rfl⟩
  refine Ab rfl <| Nl <| SR <| FdA lAction_0 fl121_0 rfl <| Ld ty3 2 rfl <| Ac (op_eql rfl rfl (vt rfl) (vk rfl)) rfl <| As rfl <| Nl <| AW.ret ?_
  obtain rfl := si h
  exact ret1 Tryz.results214 rfl (out_tmp rfl)
def F_aset_turn (kind1 : Int) : Option Int :=
  (F_slices_Index_int [18, 17, 25, 22, 0] kind1).bind fun x2 => some x2
theorem c_aset_turn (kind1 : Int) (r : Int) (h : F_aset_turn kind1 = some r) : PCon Tryz.prog 218 [rd (kint .i64) kind1] (rd (kint .i64) r) := by
  refine PCon.of (Con.intro0 Tryz.func218 rfl Tryz.ntmps218 rfl fun w H => ?_)
  unfold F_aset_turn at h
  refine SR <| Ak rfl <| Nl <| AW.seq ?_
  obtain ⟨x2, hx2, h⟩ := bsome h
  refine Rg <| Ac (op_buildSliceR (ps := [(0, .const (Value.int IntKind.i64 18)), (1, .const (Value.int IntKind.i64 17)), (2, .const (Value.int IntKind.i64 25)), (3, .const (Value.int IntKind.i64 22)), (4, .const (Value.int IntKind.i64 0))]) (l := [18, 17, 25, 22, 0]) rfl rfl sl37 zr3 rfl rfl ⟨_, _, Lens.idx 5 (kint .i64) 0 (by decide), _, rfl, (vk rfl), _, _, Lens.idx 5 (kint .i64) 1 (by decide), _, rfl, (vk rfl), _, _, Lens.idx 5 (kint .i64) 2 (by decide), _, rfl, (vk rfl), _, _, Lens.idx 5 (kint .i64) 3 (by decide), _, rfl, (vk rfl), _, _, Lens.idx 5 (kint .i64) 4 (by decide), _, rfl, (vk rfl), rfl⟩ rfl) rfl <| Md rfl <| Cl [3, 4] (c_slices_Index_int _ _ _ hx2) e273 rfl <| As rfl <| Nl <| AW.ret ?_
  obtain rfl := si h
  exact ret1 Tryz.results218 rfl (out_tmp rfl)
def F_aset_List_2 (a1 : Action) (cp2 : Bool) : Option Bool :=
  (F_aset_turn a1.Kind).bind fun x4 => some ((decide (x4 < 0)) || (cp2 && (decide (a1.Kind = 0))))
theorem c_aset_List_2 (a1 : Action) (cp2 : Bool) (r : Bool) (h : F_aset_List_2 a1 cp2 = some r) : PCon Tryz.prog 217 [rd kAction a1, rp kbool cp2] (rd kbool r) := by
  refine PCon.of (Con.intro0 Tryz.func217 rfl Tryz.ntmps217 rfl fun w H => ?_)
  unfold F_aset_List_2 at h
  refine SR <| Ct rfl (op_box 3 rfl rfl (vt rfl)) ?_
  rintro _ ⟨g3, rfl⟩
  refine Ab rfl <| Nl <| AW.seq ?_
  obtain ⟨x4, hx4, h⟩ := bsome h
  refine Rg <| FdA lAction_0 fl121_0 rfl <| Ld ty3 3 rfl <| Cl [5] (c_aset_turn _ _ hx4) e218 rfl <| Ac (op_lss rfl rfl (vt rfl) (vk rfl)) rfl <| Md rfl <| Gd rfl (fun hq => op_loadp rfl rfl ty4 (vt rfl)) <| AOps.consG (OpG.guardX rfl rfl rfl rfl rfl fun hq => op_move (A := rd kbool cp2) rfl rfl (vgt rfl hq)) <| AOps.consG (OpG.guardN rfl rfl rfl rfl rfl fun hq => op_field lAction_0 rfl rfl fl121_0 (vt rfl)) <| AOps.consG (OpG.guardN rfl rfl rfl rfl rfl fun hq => op_load rfl rfl ty3 (vgt rfl hq) (i := 3) rfl) <| AOps.consG (OpG.guardN rfl rfl rfl rfl rfl fun hq => op_eql rfl rfl (vgt rfl hq) (vk rfl)) <| Gd rfl (fun hq => op_all rfl rfl (vgx rfl hq) (vgw rfl hq)) <| Ac (op_any rfl rfl (vt rfl) (vt rfl)) rfl <| As rfl <| Nl <| AW.ret ?_
  obtain rfl := si h
  exact ret1 Tryz.results217 rfl (out_tmp rfl)
def F_slices_DeleteFunc_Action_l1 (del3 : (Action → Option Bool)) : Nat → (List Action) → Int → Int → Option (List Action)
  | 0, _, _, _ => none
  | m11 + 1, l8, i9, j10 => (bif (decide (j10 < (l8.length : Int))) then (lget l8 j10).bind fun e12 => (del3 e12).bind fun x14 => (bif (!x14) then (lget l8 i9).bind fun e15 => (F_slices_DeleteFunc_Action_l1 del3 m11) (List.set l8 i9.toNat e12) (IntKind.i64.wrap (i9 + 1)) (IntKind.i64.wrap (j10 + 1)) else (F_slices_DeleteFunc_Action_l1 del3 m11) l8 i9 (IntKind.i64.wrap (j10 + 1))) else (odrop l8 i9).bind fun s16 => (otake (List.take i9.toNat l8 ++ List.replicate (l8.length - i9.toNat) zAction) i9).bind fun s17 => some s17)
def F_slices_DeleteFunc_Action (s1 : (List Action)) (del3 : (Action → Option Bool)) : Option (List Action) :=
  (F_slices_IndexFunc_Action s1 del3).bind fun x4 => (bif (decide (x4 = (-1))) then some s1 else F_slices_DeleteFunc_Action_l1 del3 ((((s1.length : Int) : Int) - (IntKind.i64.wrap (x4 + 1))).toNat + 1) s1 x4 (IntKind.i64.wrap (x4 + 1)))
theorem c_slices_DeleteFunc_Action_o (v2 : Value) (s1 : (List Action)) (del3 : (Action → Option Bool)) (r : (List Action)) (h : F_slices_DeleteFunc_Action s1 del3 = some r) : Con Tryz.prog 215 [raw v2, fn1 Tryz.prog kAction kbool del3] (Row v2 121 kAction s1) (fun v => raw v) (fun v => Row v 121 kAction r) := by
  refine Con.intro Tryz.func215 rfl Tryz.ntmps215 rfl fun w H X => ?_
  unfold F_slices_DeleteFunc_Action at h
  refine AW.seq <| AW.newnil 1001 121 kAction <| Rg <| Ac (op_assign rfl rfl vc) rfl <| Nl <| AW.seq ?_
  obtain ⟨x4, hx4, h⟩ := bsome h
  refine Rg <| Mw rfl <| Ac (op_move (A := fn1 Tryz.prog kAction kbool del3) rfl rfl (vt rfl)) rfl <| Ac (op_callB (xs := [.tmp 8, .tmp 9]) 0 (c_slices_IndexFunc_Action _ _ _ hx4) e266 rfl rfl ⟨vL rfl rfl, vB (vt rfl), trivial⟩) rfl <| As rfl <| Nl <| AW.seq <| SR <| Md rfl <| Ac (op_eql rfl rfl (vt rfl) (vk rfl)) rfl <| Nl <| Cn rfl (fun hc => ?_) (fun hc => ?_)
  · have h := cond_t hc h
    refine SR <| Mw rfl <| Aw rfl <| Nl <| AW.ret ?_
    obtain rfl := si h
    exact ret1R (i := 0) Tryz.results215 rfl rfl rfl
  · have h := cond_f hc h
    refine AW.skip <| AW.seq <| SR <| Md rfl <| Ac (op_add rfl rfl (vt rfl) (vk rfl)) rfl <| As rfl <| Nl <| AW.block <| AW.loopG (d := []) (ν := Nat × (List Action) × Int × Int) (fun n => True ∧ F_slices_DeleteFunc_Action_l1 del3 n.1 n.2.1 n.2.2.1 n.2.2.2 = some r) (fun n => n.1) (fun n => [(0, raw v2), (1, fn1 Tryz.prog kAction kbool del3), (5, rd (kint .i64) n.2.2.1), (6, rd (kint .i64) n.2.2.2)]) (fun n => [(0, Row v2 121 kAction n.2.1)]) (((((s1.length : Int) : Int) - (IntKind.i64.wrap (x4 + 1))).toNat + 1), s1, x4, (IntKind.i64.wrap (x4 + 1))) ⟨trivial, h⟩ ⟨rfl, ⟨rfl, rfl, rfl, rfl, trivial⟩, ⟨rfl, trivial⟩⟩ ?_
    rintro ⟨m11, l8, i9, j10⟩ ⟨hsf1, h⟩
    change True at hsf1
    change F_slices_DeleteFunc_Action_l1 del3 m11 l8 i9 j10 = some r at h
    change AW _ _ _ ⟨slots [(0, raw v2), (1, fn1 Tryz.prog kAction kbool del3), (5, rd (kint .i64) i9), (6, rd (kint .i64) j10)], ress [(0, Row v2 121 kAction l8)], _⟩
    cases m11 with
    | zero => cases h
    | succ m11 =>
      unfold F_slices_DeleteFunc_Action_l1 at h
      generalize hgo1 : F_slices_DeleteFunc_Action_l1 del3 m11 = go1 at h
      refine AW.seq <| SR <| Md rfl <| Mw rfl <| Ac (op_leno 0 rfl rfl sl122 (vt rfl) rfl) rfl <| Ac (op_lss rfl rfl (vt rfl) (vt rfl)) rfl <| Nl <| Cn rfl (fun hc => ?_) (fun hc => ?_)
      · have h := cond_t hc h
        refine AW.skip <| AW.seq <| AW.block <| AW.seq ?_
        obtain ⟨e12, he12, h⟩ := bsome h
        refine Rg <| Mw rfl <| Md rfl <| Ac (op_indexo' 0 rfl rfl sl122 (vt rfl) rfl (vt rfl) he12) rfl <| Ac (op_loado' 0 rfl rfl ty121 (vt rfl) rfl (lget_of he12).2) rfl <| Ct rfl (op_alloc 8 rfl rfl zr121) ?_
        rintro _ ⟨g13, rfl⟩
        refine Sto ty121 8 rfl <| Nl <| AW.seq ?_
        obtain ⟨x14, hx14, h⟩ := bsome h
        refine Rg <| Ac (op_move (A := fn1 Tryz.prog kAction kbool del3) rfl rfl (vt rfl)) rfl <| Ld ty121 8 rfl <| Ac (op_call1 hx14 rfl rfl (vt rfl) (vt rfl)) rfl <| Ac (op_not rfl rfl (vt rfl)) rfl <| Nl <| Cn rfl (fun hc => ?_) (fun hc => ?_)
        · have h := cond_t hc h
          refine AW.seq ?_
          obtain ⟨e15, he15, h⟩ := bsome h
          refine Rg <| Mw rfl <| Md rfl <| Ld ty121 8 rfl <| Ac (op_indexo' 0 rfl rfl sl122 (vt rfl) rfl (vt rfl) he15) rfl <| Ac (op_storeo' 0 rfl rfl ty121 (vt rfl) rfl (lget_of he15).2 (vt rfl)) rfl <| Nl <| Rg <| Md rfl <| Ac (op_add rfl rfl (vt rfl) (vk rfl)) rfl <| As rfl <| Nl <| Rg <| Md rfl <| Ac (op_add rfl rfl (vt rfl) (vk rfl)) rfl <| As rfl <| Nl ?_
          subst hgo1
          exact ⟨(m11, (List.set l8 i9.toNat e12), (IntKind.i64.wrap (i9 + 1)), (IntKind.i64.wrap (j10 + 1))), Nat.lt_succ_self _, ⟨trivial, h⟩, ⟨rfl, ⟨rfl, rfl, rfl, rfl, trivial⟩, ⟨rfl, trivial⟩⟩⟩
        · have h := cond_f hc h
          refine AW.skip <| Rg <| Md rfl <| Ac (op_add rfl rfl (vt rfl) (vk rfl)) rfl <| As rfl <| Nl ?_
          subst hgo1
          exact ⟨(m11, l8, i9, (IntKind.i64.wrap (j10 + 1))), Nat.lt_succ_self _, ⟨trivial, h⟩, ⟨rfl, ⟨rfl, rfl, rfl, rfl, trivial⟩, ⟨rfl, trivial⟩⟩⟩
      · have h := cond_f hc h
        refine AW.exit <| AW.seq ?_
        obtain ⟨s16, hs16, h⟩ := bsome h
        refine Rg <| Mw rfl <| Md rfl <| Ac (op_sliceo_l 0 hs16 rfl rfl sl122 (vt rfl) rfl (vt rfl)) rfl <| Ac (op_clearo 0 rfl rfl sl122 zr121 rfl (vt rfl) rfl (odrop_of hs16).2.1) rfl <| Nl <| AW.seq ?_
        obtain ⟨s17, hs17, h⟩ := bsome h
        refine Rg <| Mw rfl <| Md rfl <| Ct rfl (op_sliceo_h 0 hs17 rfl rfl sl122 (vt rfl) rfl (vt rfl)) ?_
        rintro _ ⟨v18, rfl⟩
        refine Aw rfl <| Nl <| AW.ret ?_
        obtain rfl := si h
        exact ret1R (i := 0) Tryz.results215 rfl rfl rfl
def F_slices_insertionSortCmpFunc_Action_l2 (a3 : Int) (cmp5 : (Action → Action → Option Int)) (go1 : (List Action) → Int → Option (List Action)) (i9 : Int) : Nat → (List Action) → Int → Option (List Action)
  | 0, _, _ => none
  | m15 + 1, l13, j14 => (opt (decide (j14 > a3)) (lget l13 j14)).bind fun e16 => (opt (decide (j14 > a3)) (lget l13 (IntKind.i64.wrap (j14 - 1)))).bind fun e17 => (opt (decide (j14 > a3)) (cmp5 e16 e17)).bind fun x18 => (bif ((decide (j14 > a3)) && (decide (x18 < 0))) then (lget l13 (IntKind.i64.wrap (j14 - 1))).bind fun e19 => (lget l13 j14).bind fun e20 => (lget l13 j14).bind fun e21 => (lget (List.set l13 j14.toNat e19) (IntKind.i64.wrap (j14 - 1))).bind fun e22 => (F_slices_insertionSortCmpFunc_Action_l2 a3 cmp5 go1 i9 m15) (List.set (List.set l13 j14.toNat e19) (IntKind.i64.wrap (j14 - 1)).toNat e20) (IntKind.i64.wrap (j14 - 1)) else go1 l13 (IntKind.i64.wrap (i9 + 1)))
def F_slices_insertionSortCmpFunc_Action_l1 (b4 : Int) (a3 : Int) (cmp5 : (Action → Action → Option Int)) : Nat → (List Action) → Int → Option (List Action)
  | 0, _, _ => none
  | m10 + 1, l8, i9 => (bif (decide (i9 < b4)) then F_slices_insertionSortCmpFunc_Action_l2 a3 cmp5 (F_slices_insertionSortCmpFunc_Action_l1 b4 a3 cmp5 m10) i9 fuel0 l8 i9 else some l8)
def F_slices_insertionSortCmpFunc_Action (data1 : (List Action)) (a3 : Int) (b4 : Int) (cmp5 : (Action → Action → Option Int)) : Option (List Action) :=
  F_slices_insertionSortCmpFunc_Action_l1 b4 a3 cmp5 (((b4 : Int) - (IntKind.i64.wrap (a3 + 1))).toNat + 1) data1 (IntKind.i64.wrap (a3 + 1))
theorem c_slices_insertionSortCmpFunc_Action_o (v2 : Value) (data1 : (List Action)) (a3 : Int) (b4 : Int) (cmp5 : (Action → Action → Option Int)) (r : (List Action)) (h : F_slices_insertionSortCmpFunc_Action data1 a3 b4 cmp5 = some r) : Con Tryz.prog 310 [raw v2, rd (kint .i64) a3, rd (kint .i64) b4, fn2 Tryz.prog kAction kAction (kint .i64) cmp5] (Row v2 121 kAction data1) (fun _ : Unit => top) (fun _ => Row v2 121 kAction r) := by
  refine Con.intro Tryz.func310 rfl Tryz.ntmps310 rfl fun w H X => ?_
  unfold F_slices_insertionSortCmpFunc_Action at h
  refine SR <| Md rfl <| Ac (op_add rfl rfl (vt rfl) (vk rfl)) rfl <| As rfl <| Nl <| AW.block <| AW.loopG (d := []) (ν := Nat × (List Action) × Int) (fun n => True ∧ F_slices_insertionSortCmpFunc_Action_l1 b4 a3 cmp5 n.1 n.2.1 n.2.2 = some r) (fun n => n.1) (fun n => [(0, raw v2), (1, rd (kint .i64) a3), (2, rd (kint .i64) b4), (3, fn2 Tryz.prog kAction kAction (kint .i64) cmp5), (8, rd (kint .i64) n.2.2)]) (fun n => [(0, Row v2 121 kAction n.2.1)]) ((((b4 : Int) - (IntKind.i64.wrap (a3 + 1))).toNat + 1), data1, (IntKind.i64.wrap (a3 + 1))) ⟨trivial, h⟩ ⟨rfl, ⟨rfl, rfl, rfl, rfl, rfl, trivial⟩, ⟨rfl, trivial⟩⟩ ?_
  rintro ⟨m10, l8, i9⟩ ⟨hsf1, h⟩
  change True at hsf1
  change F_slices_insertionSortCmpFunc_Action_l1 b4 a3 cmp5 m10 l8 i9 = some r at h
  change AW _ _ _ ⟨slots [(0, raw v2), (1, rd (kint .i64) a3), (2, rd (kint .i64) b4), (3, fn2 Tryz.prog kAction kAction (kint .i64) cmp5), (8, rd (kint .i64) i9)], ress [(0, Row v2 121 kAction l8)], _⟩
  cases m10 with
  | zero => cases h
  | succ m10 =>
    unfold F_slices_insertionSortCmpFunc_Action_l1 at h
    generalize hgo1 : F_slices_insertionSortCmpFunc_Action_l1 b4 a3 cmp5 m10 = go1 at h
    refine AW.seq <| SR <| Md rfl <| Md rfl <| Ac (op_lss rfl rfl (vt rfl) (vt rfl)) rfl <| Nl <| Cn rfl (fun hc => ?_) (fun hc => ?_)
    · have h := cond_t hc h
      refine AW.skip <| AW.seq <| AW.block <| SR <| Md rfl <| As rfl <| Nl <| AW.block <| AW.loopG (d := []) (ν := Nat × (List Action) × Int) (fun n => True ∧ F_slices_insertionSortCmpFunc_Action_l2 a3 cmp5 go1 i9 n.1 n.2.1 n.2.2 = some r) (fun n => n.1) (fun n => [(0, raw v2), (1, rd (kint .i64) a3), (2, rd (kint .i64) b4), (3, fn2 Tryz.prog kAction kAction (kint .i64) cmp5), (8, rd (kint .i64) i9), (9, rd (kint .i64) n.2.2)]) (fun n => [(0, Row v2 121 kAction n.2.1)]) (fuel0, l8, i9) ⟨trivial, h⟩ ⟨rfl, ⟨rfl, rfl, rfl, rfl, rfl, rfl, trivial⟩, ⟨rfl, trivial⟩⟩ ?_
      rintro ⟨m15, l13, j14⟩ ⟨hsf2, h⟩
      change True at hsf2
      change F_slices_insertionSortCmpFunc_Action_l2 a3 cmp5 go1 i9 m15 l13 j14 = some r at h
      change AW _ _ _ ⟨slots [(0, raw v2), (1, rd (kint .i64) a3), (2, rd (kint .i64) b4), (3, fn2 Tryz.prog kAction kAction (kint .i64) cmp5), (8, rd (kint .i64) i9), (9, rd (kint .i64) j14)], ress [(0, Row v2 121 kAction l13)], _⟩
      cases m15 with
      | zero => cases h
      | succ m15 =>
        unfold F_slices_insertionSortCmpFunc_Action_l2 at h
        generalize hgo2 : F_slices_insertionSortCmpFunc_Action_l2 a3 cmp5 go1 i9 m15 = go2 at h
        refine AW.seq <| AW.seq ?_
        obtain ⟨e16, he16, h⟩ := bsome h
        obtain ⟨e17, he17, h⟩ := bsome h
        obtain ⟨x18, hx18, h⟩ := bsome h
        refine AW.regionAny [⟨[9], [18], [], []⟩, ⟨[1], [19], [], []⟩, ⟨[18, 19], [20], [], []⟩, ⟨[20], [21], [], []⟩, ⟨[3, 21], [22], [], []⟩, ⟨[0, 21], [23], [], []⟩, ⟨[9, 21], [24], [], []⟩, ⟨[23, 24, 21], [25], [0], []⟩, ⟨[25, 21], [26], [0], []⟩, ⟨[0, 21], [27], [], []⟩, ⟨[9, 21], [28], [], []⟩, ⟨[28, 21], [29], [], []⟩, ⟨[27, 29, 21], [30], [0], []⟩, ⟨[30, 21], [31], [0], []⟩, ⟨[22, 26, 31, 21], [32], [], []⟩, ⟨[32, 21], [33], [], []⟩, ⟨[33, 21], [34], [], []⟩] mixed (by kernel_rfl) <| SMd rfl <| SMd rfl <| Sc (lo [18, 19] [] rfl fun S hs hr => op_gtr rfl rfl (vh hs 18 rfl rfl) (vh hs 19 rfl rfl)) rfl <| SMd rfl <| Sc (lg [3, 21] [] rfl fun hq S hs hr => op_move (A := fn2 Tryz.prog kAction kAction (kint .i64) cmp5) rfl rfl (vh hs 3 rfl rfl)) rfl <| Sc (lg [0, 21] [] rfl fun hq S hs hr => op_move (A := raw v2) rfl rfl (vh hs 0 rfl rfl)) rfl <| Sc (lg [9, 21] [] rfl fun hq S hs hr => op_move (A := rd (kint .i64) j14) rfl rfl (vh hs 9 rfl rfl)) rfl <| Sc (lg [23, 24, 21] [0] rfl fun hq S hs hr => op_indexo' 0 rfl rfl sl122 (vgt ((hs 23 rfl).trans rfl) hq) ((hr 0 rfl).trans rfl) (vgt ((hs 24 rfl).trans rfl) hq) (opt_t he16 hq)) rfl <| Sc (lg [25, 21] [0] rfl fun hq S hs hr => op_loado' 0 rfl rfl ty121 (vgt ((hs 25 rfl).trans rfl) hq) ((hr 0 rfl).trans rfl) (lget_of (opt_t he16 hq)).2) rfl <| Sc (lg [0, 21] [] rfl fun hq S hs hr => op_move (A := raw v2) rfl rfl (vh hs 0 rfl rfl)) rfl <| Sc (lg [9, 21] [] rfl fun hq S hs hr => op_move (A := rd (kint .i64) j14) rfl rfl (vh hs 9 rfl rfl)) rfl <| Sc (lg [28, 21] [] rfl fun hq S hs hr => op_sub rfl rfl (vgt ((hs 28 rfl).trans rfl) hq) (vk rfl)) rfl <| Sc (lg [27, 29, 21] [0] rfl fun hq S hs hr => op_indexo' 0 rfl rfl sl122 (vgt ((hs 27 rfl).trans rfl) hq) ((hr 0 rfl).trans rfl) (vgt ((hs 29 rfl).trans rfl) hq) (opt_t he17 hq)) rfl <| Sc (lg [30, 21] [0] rfl fun hq S hs hr => op_loado' 0 rfl rfl ty121 (vgt ((hs 30 rfl).trans rfl) hq) ((hr 0 rfl).trans rfl) (lget_of (opt_t he17 hq)).2) rfl <| Sc (lg [22, 26, 31, 21] [] rfl fun hq S hs hr => op_call2 (opt_t hx18 hq) rfl rfl (vgt ((hs 22 rfl).trans rfl) hq) (vgt ((hs 26 rfl).trans rfl) hq) (vgt ((hs 31 rfl).trans rfl) hq)) rfl <| Sc (lg [32, 21] [] rfl fun hq S hs hr => op_lss rfl rfl (vgt ((hs 32 rfl).trans rfl) hq) (vk rfl)) rfl <| Sc (lo [33, 21] [] rfl fun S hs hr => op_all rfl rfl (vh hs 21 rfl rfl) (vh hs 33 rfl rfl)) rfl <| Cn rfl (fun hc => ?_) (fun hc => ?_)
        · have h := cond_t hc h
          refine AW.skip <| AW.seq <| AW.block <| AW.vlen 0 rfl fun hvl0_273 => ?_
          obtain ⟨e19, he19, h⟩ := bsome h
          obtain ⟨e20, he20, h⟩ := bsome h
          obtain ⟨e21, he21, h⟩ := bsome h
          obtain ⟨e22, he22, h⟩ := bsome h
          refine AW.regionAny [⟨[0], [37], [], []⟩, ⟨[9], [38], [], []⟩, ⟨[0], [39], [], []⟩, ⟨[9], [40], [], []⟩, ⟨[40], [41], [], []⟩, ⟨[0], [42], [], []⟩, ⟨[9], [43], [], []⟩, ⟨[43], [44], [], []⟩, ⟨[42, 44], [45], [], []⟩, ⟨[45], [46], [0], []⟩, ⟨[0], [47], [], []⟩, ⟨[9], [48], [], []⟩, ⟨[47, 48], [49], [], []⟩, ⟨[49], [50], [0], []⟩, ⟨[37, 38], [51], [], []⟩, ⟨[51, 46], [], [0], [0]⟩, ⟨[39, 41], [52], [], []⟩, ⟨[52, 50], [], [0], [0]⟩] mixed (by kernel_rfl) <| SMw rfl <| SMd rfl <| SMw rfl <| SMd rfl <| Sc (lo [40] [] rfl fun S hs hr => op_sub rfl rfl (vh hs 40 rfl rfl) (vk rfl)) rfl <| SMw rfl <| SMd rfl <| Sc (lo [43] [] rfl fun S hs hr => op_sub rfl rfl (vh hs 43 rfl rfl) (vk rfl)) rfl <| Sc (lo [42, 44] [] rfl fun S hs hr => op_indexoP (l := l13) hvl0_273 rfl rfl rfl sl122 (vh hs 42 rfl rfl) (vh hs 44 rfl rfl) he19) rfl <| Sc (lo [45] [0] rfl fun S hs hr => op_loado' 0 rfl rfl ty121 (vh hs 45 rfl rfl) ((hr 0 rfl).trans rfl) (lget_of he19).2) rfl <| SMw rfl <| SMd rfl <| Sc (lo [47, 48] [] rfl fun S hs hr => op_indexoP (l := l13) hvl0_273 rfl rfl rfl sl122 (vh hs 47 rfl rfl) (vh hs 48 rfl rfl) he20) rfl <| Sc (lo [49] [0] rfl fun S hs hr => op_loado' 0 rfl rfl ty121 (vh hs 49 rfl rfl) ((hr 0 rfl).trans rfl) (lget_of he20).2) rfl <| Sc (lo [37, 38] [] rfl fun S hs hr => op_indexoP (l := l13) hvl0_273 rfl rfl rfl sl122 (vh hs 37 rfl rfl) (vh hs 38 rfl rfl) he21) rfl <| Sc (locr [51, 46] [0] rfl fun S hs hr => op_storeo' 0 rfl rfl ty121 (vh hs 51 rfl rfl) ((hr 0 rfl).trans rfl) (lget_of he21).2 (vh hs 46 rfl rfl)) rfl <| Sc (lo [39, 41] [] rfl fun S hs hr => op_indexoP (l := (List.set l13 j14.toNat e19)) hvl0_273 (by simp) rfl rfl sl122 (vh hs 39 rfl rfl) (vh hs 41 rfl rfl) he22) rfl <| Sc (locr [52, 50] [0] rfl fun S hs hr => op_storeo' 0 rfl rfl ty121 (vh hs 52 rfl rfl) ((hr 0 rfl).trans rfl) (lget_of he22).2 (vh hs 50 rfl rfl)) rfl <| Rg <| Md rfl <| Ac (op_sub rfl rfl (vt rfl) (vk rfl)) rfl <| As rfl <| Nl ?_
          subst hgo2
          exact ⟨(m15, (List.set (List.set l13 j14.toNat e19) (IntKind.i64.wrap (j14 - 1)).toNat e20), (IntKind.i64.wrap (j14 - 1))), Nat.lt_succ_self _, ⟨trivial, h⟩, ⟨rfl, ⟨rfl, rfl, rfl, rfl, rfl, rfl, trivial⟩, ⟨rfl, trivial⟩⟩⟩
        · have h := cond_f hc h
          refine AW.exit <| Rg <| Md rfl <| Ac (op_add rfl rfl (vt rfl) (vk rfl)) rfl <| As rfl <| Nl ?_
          subst hgo1
          exact ⟨(m10, l13, (IntKind.i64.wrap (i9 + 1))), Nat.lt_succ_self _, ⟨trivial, h⟩, ⟨rfl, ⟨rfl, rfl, rfl, rfl, rfl, trivial⟩, ⟨rfl, trivial⟩⟩⟩
    · have h := cond_f hc h
      refine AW.exit ?_
      obtain rfl := si h
      exact ret0Y (i := 0) Tryz.results310 rfl rfl
def F_slices_swapRangeCmpFunc_Action_l1 (n5 : Int) (b4 : Int) (a3 : Int) : Nat → (List Action) → Int → Option (List Action)
  | 0, _, _ => none
  | m11 + 1, l9, i10 => (bif (decide (i10 < n5)) then (lget l9 (IntKind.i64.wrap (b4 + i10))).bind fun e12 => (lget l9 (IntKind.i64.wrap (a3 + i10))).bind fun e13 => (lget l9 (IntKind.i64.wrap (a3 + i10))).bind fun e14 => (lget (List.set l9 (IntKind.i64.wrap (a3 + i10)).toNat e12) (IntKind.i64.wrap (b4 + i10))).bind fun e15 => (F_slices_swapRangeCmpFunc_Action_l1 n5 b4 a3 m11) (List.set (List.set l9 (IntKind.i64.wrap (a3 + i10)).toNat e12) (IntKind.i64.wrap (b4 + i10)).toNat e13) (IntKind.i64.wrap (i10 + 1)) else some l9)
def F_slices_swapRangeCmpFunc_Action (data1 : (List Action)) (a3 : Int) (b4 : Int) (n5 : Int) (cmp6 : (Action → Action → Option Int)) : Option (List Action) :=
  F_slices_swapRangeCmpFunc_Action_l1 n5 b4 a3 (((n5 : Int) - 0).toNat + 1) data1 0
theorem c_slices_swapRangeCmpFunc_Action_o (v2 : Value) (data1 : (List Action)) (a3 : Int) (b4 : Int) (n5 : Int) (cmp6 : (Action → Action → Option Int)) (r : (List Action)) (h : F_slices_swapRangeCmpFunc_Action data1 a3 b4 n5 cmp6 = some r) : Con Tryz.prog 343 [raw v2, rd (kint .i64) a3, rd (kint .i64) b4, rd (kint .i64) n5, fn2 Tryz.prog kAction kAction (kint .i64) cmp6] (Row v2 121 kAction data1) (fun _ : Unit => top) (fun _ => Row v2 121 kAction r) := by
  refine Con.intro Tryz.func343 rfl Tryz.ntmps343 rfl fun w H X => ?_
  unfold F_slices_swapRangeCmpFunc_Action at h
  refine SR <| Ak rfl <| Nl <| AW.block <| AW.loopG (d := []) (ν := Nat × (List Action) × Int) (fun n => True ∧ F_slices_swapRangeCmpFunc_Action_l1 n5 b4 a3 n.1 n.2.1 n.2.2 = some r) (fun n => n.1) (fun n => [(0, raw v2), (1, rd (kint .i64) a3), (2, rd (kint .i64) b4), (3, rd (kint .i64) n5), (10, rd (kint .i64) n.2.2)]) (fun n => [(0, Row v2 121 kAction n.2.1)]) ((((n5 : Int) - 0).toNat + 1), data1, 0) ⟨trivial, h⟩ ⟨rfl, ⟨rfl, rfl, rfl, rfl, rfl, trivial⟩, ⟨rfl, trivial⟩⟩ ?_
  rintro ⟨m11, l9, i10⟩ ⟨hsf1, h⟩
  change True at hsf1
  change F_slices_swapRangeCmpFunc_Action_l1 n5 b4 a3 m11 l9 i10 = some r at h
  change AW _ _ _ ⟨slots [(0, raw v2), (1, rd (kint .i64) a3), (2, rd (kint .i64) b4), (3, rd (kint .i64) n5), (10, rd (kint .i64) i10)], ress [(0, Row v2 121 kAction l9)], _⟩
  cases m11 with
  | zero => cases h
  | succ m11 =>
    unfold F_slices_swapRangeCmpFunc_Action_l1 at h
    generalize hgo1 : F_slices_swapRangeCmpFunc_Action_l1 n5 b4 a3 m11 = go1 at h
    refine AW.seq <| SR <| Md rfl <| Md rfl <| Ac (op_lss rfl rfl (vt rfl) (vt rfl)) rfl <| Nl <| Cn rfl (fun hc => ?_) (fun hc => ?_)
    · have h := cond_t hc h
      refine AW.skip <| AW.seq <| AW.block <| AW.vlen 0 rfl fun hvl0_127 => ?_
      obtain ⟨e12, he12, h⟩ := bsome h
      obtain ⟨e13, he13, h⟩ := bsome h
      obtain ⟨e14, he14, h⟩ := bsome h
      obtain ⟨e15, he15, h⟩ := bsome h
      refine AW.regionAny [⟨[0], [16], [], []⟩, ⟨[1], [17], [], []⟩, ⟨[10], [18], [], []⟩, ⟨[17, 18], [19], [], []⟩, ⟨[0], [20], [], []⟩, ⟨[2], [21], [], []⟩, ⟨[10], [22], [], []⟩, ⟨[21, 22], [23], [], []⟩, ⟨[0], [24], [], []⟩, ⟨[2], [25], [], []⟩, ⟨[10], [26], [], []⟩, ⟨[25, 26], [27], [], []⟩, ⟨[24, 27], [28], [], []⟩, ⟨[28], [29], [0], []⟩, ⟨[0], [30], [], []⟩, ⟨[1], [31], [], []⟩, ⟨[10], [32], [], []⟩, ⟨[31, 32], [33], [], []⟩, ⟨[30, 33], [34], [], []⟩, ⟨[34], [35], [0], []⟩, ⟨[16, 19], [36], [], []⟩, ⟨[36, 29], [], [0], [0]⟩, ⟨[20, 23], [37], [], []⟩, ⟨[37, 35], [], [0], [0]⟩] mixed (by kernel_rfl) <| SMw rfl <| SMd rfl <| SMd rfl <| Sc (lo [17, 18] [] rfl fun S hs hr => op_add rfl rfl (vh hs 17 rfl rfl) (vh hs 18 rfl rfl)) rfl <| SMw rfl <| SMd rfl <| SMd rfl <| Sc (lo [21, 22] [] rfl fun S hs hr => op_add rfl rfl (vh hs 21 rfl rfl) (vh hs 22 rfl rfl)) rfl <| SMw rfl <| SMd rfl <| SMd rfl <| Sc (lo [25, 26] [] rfl fun S hs hr => op_add rfl rfl (vh hs 25 rfl rfl) (vh hs 26 rfl rfl)) rfl <| Sc (lo [24, 27] [] rfl fun S hs hr => op_indexoP (l := l9) hvl0_127 rfl rfl rfl sl122 (vh hs 24 rfl rfl) (vh hs 27 rfl rfl) he12) rfl <| Sc (lo [28] [0] rfl fun S hs hr => op_loado' 0 rfl rfl ty121 (vh hs 28 rfl rfl) ((hr 0 rfl).trans rfl) (lget_of he12).2) rfl <| SMw rfl <| SMd rfl <| SMd rfl <| Sc (lo [31, 32] [] rfl fun S hs hr => op_add rfl rfl (vh hs 31 rfl rfl) (vh hs 32 rfl rfl)) rfl <| Sc (lo [30, 33] [] rfl fun S hs hr => op_indexoP (l := l9) hvl0_127 rfl rfl rfl sl122 (vh hs 30 rfl rfl) (vh hs 33 rfl rfl) he13) rfl <| Sc (lo [34] [0] rfl fun S hs hr => op_loado' 0 rfl rfl ty121 (vh hs 34 rfl rfl) ((hr 0 rfl).trans rfl) (lget_of he13).2) rfl <| Sc (lo [16, 19] [] rfl fun S hs hr => op_indexoP (l := l9) hvl0_127 rfl rfl rfl sl122 (vh hs 16 rfl rfl) (vh hs 19 rfl rfl) he14) rfl <| Sc (locr [36, 29] [0] rfl fun S hs hr => op_storeo' 0 rfl rfl ty121 (vh hs 36 rfl rfl) ((hr 0 rfl).trans rfl) (lget_of he14).2 (vh hs 29 rfl rfl)) rfl <| Sc (lo [20, 23] [] rfl fun S hs hr => op_indexoP (l := (List.set l9 (IntKind.i64.wrap (a3 + i10)).toNat e12)) hvl0_127 (by simp) rfl rfl sl122 (vh hs 20 rfl rfl) (vh hs 23 rfl rfl) he15) rfl <| Sc (locr [37, 35] [0] rfl fun S hs hr => op_storeo' 0 rfl rfl ty121 (vh hs 37 rfl rfl) ((hr 0 rfl).trans rfl) (lget_of he15).2 (vh hs 35 rfl rfl)) rfl <| Rg <| Md rfl <| Ac (op_add rfl rfl (vt rfl) (vk rfl)) rfl <| As rfl <| Nl ?_
      subst hgo1
      exact ⟨(m11, (List.set (List.set l9 (IntKind.i64.wrap (a3 + i10)).toNat e12) (IntKind.i64.wrap (b4 + i10)).toNat e13), (IntKind.i64.wrap (i10 + 1))), Nat.lt_succ_self _, ⟨trivial, h⟩, ⟨rfl, ⟨rfl, rfl, rfl, rfl, rfl, trivial⟩, ⟨rfl, trivial⟩⟩⟩
    · have h := cond_f hc h
      refine AW.exit ?_
      obtain rfl := si h
      exact ret0Y (i := 0) Tryz.results343 rfl rfl
end Go.Proofs.YtknpgojdkobgjaaGreat.W
set_option linter.unusedVariables false
set_option maxRecDepth 4000
set_option linter.unusedSimpArgs false
namespace Go.Proofs.YtknpgojdkobgjaaGreat.W
open Go Go.Wb
theorem e343 : Ent Tryz.prog 343 := Ent.mk Tryz.func343 rfl rfl
theorem e311 : Ent Tryz.prog 311 := Ent.mk Tryz.func311 rfl rfl
theorem e335 : Ent Tryz.prog 335 := Ent.mk Tryz.func335 rfl rfl
theorem e310 : Ent Tryz.prog 310 := Ent.mk Tryz.func310 rfl rfl
theorem e274 : Ent Tryz.prog 274 := Ent.mk Tryz.func274 rfl rfl
theorem e213 : Ent Tryz.prog 213 := Ent.mk Tryz.func213 rfl rfl
theorem e214 : Ent Tryz.prog 214 := Ent.mk Tryz.func214 rfl rfl
theorem e217 : Ent Tryz.prog 217 := Ent.mk Tryz.func217 rfl rfl
theorem e215 : Ent Tryz.prog 215 := Ent.mk Tryz.func215 rfl rfl
theorem e219 : Ent Tryz.prog 219 := Ent.mk Tryz.func219 rfl rfl
theorem e220 : Ent Tryz.prog 220 := Ent.mk Tryz.func220 rfl rfl
def F_slices_rotateCmpFunc_Action_l1 (m4 : Int) (cmp6 : (Action → Action → Option Int)) : Nat → (List Action) → Int → Int → Option (List Action)
  | 0, _, _, _ => none
  | m13 + 1, l10, i11, j12 => (bif (decide (i11 ≠ j12)) then (bif (decide (i11 > j12)) then (F_slices_swapRangeCmpFunc_Action l10 (IntKind.i64.wrap (m4 - i11)) m4 j12 cmp6).bind fun l14 => (F_slices_rotateCmpFunc_Action_l1 m4 cmp6 m13) l14 (IntKind.i64.wrap (i11 - j12)) j12 else (F_slices_swapRangeCmpFunc_Action l10 (IntKind.i64.wrap (m4 - i11)) (IntKind.i64.wrap ((IntKind.i64.wrap (m4 + j12)) - i11)) i11 cmp6).bind fun l15 => (F_slices_rotateCmpFunc_Action_l1 m4 cmp6 m13) l15 i11 (IntKind.i64.wrap (j12 - i11))) else (F_slices_swapRangeCmpFunc_Action l10 (IntKind.i64.wrap (m4 - i11)) m4 i11 cmp6).bind fun l16 => some l16)
def F_slices_rotateCmpFunc_Action (data1 : (List Action)) (a3 : Int) (m4 : Int) (b5 : Int) (cmp6 : (Action → Action → Option Int)) : Option (List Action) :=
  F_slices_rotateCmpFunc_Action_l1 m4 cmp6 fuel0 data1 (IntKind.i64.wrap (m4 - a3)) (IntKind.i64.wrap (b5 - m4))
theorem c_slices_rotateCmpFunc_Action_o (v2 : Value) (data1 : (List Action)) (a3 : Int) (m4 : Int) (b5 : Int) (cmp6 : (Action → Action → Option Int)) (r : (List Action)) (h : F_slices_rotateCmpFunc_Action data1 a3 m4 b5 cmp6 = some r) : Con Tryz.prog 335 [raw v2, rd (kint .i64) a3, rd (kint .i64) m4, rd (kint .i64) b5, fn2 Tryz.prog kAction kAction (kint .i64) cmp6] (Row v2 121 kAction data1) (fun _ : Unit => top) (fun _ => Row v2 121 kAction r) := by
  refine Con.intro Tryz.func335 rfl Tryz.ntmps335 rfl fun w H X => ?_
  unfold F_slices_rotateCmpFunc_Action at h
  refine SR <| Md rfl <| Md rfl <| Ac (op_sub rfl rfl (vt rfl) (vt rfl)) rfl <| As rfl <| Nl <| SR <| Md rfl <| Md rfl <| Ac (op_sub rfl rfl (vt rfl) (vt rfl)) rfl <| As rfl <| Nl <| AW.seq <| AW.block <| AW.loopG (d := []) (ν := Nat × (List Action) × Int × Int) (fun n => True ∧ F_slices_rotateCmpFunc_Action_l1 m4 cmp6 n.1 n.2.1 n.2.2.1 n.2.2.2 = some r) (fun n => n.1) (fun n => [(0, raw v2), (2, rd (kint .i64) m4), (4, fn2 Tryz.prog kAction kAction (kint .i64) cmp6), (10, rd (kint .i64) n.2.2.1), (11, rd (kint .i64) n.2.2.2)]) (fun n => [(0, Row v2 121 kAction n.2.1)]) (fuel0, data1, (IntKind.i64.wrap (m4 - a3)), (IntKind.i64.wrap (b5 - m4))) ⟨trivial, h⟩ ⟨rfl, ⟨rfl, rfl, rfl, rfl, rfl, trivial⟩, ⟨rfl, trivial⟩⟩ ?_
  rintro ⟨m13, l10, i11, j12⟩ ⟨hsf1, h⟩
  change True at hsf1
  change F_slices_rotateCmpFunc_Action_l1 m4 cmp6 m13 l10 i11 j12 = some r at h
  change AW _ _ _ ⟨slots [(0, raw v2), (2, rd (kint .i64) m4), (4, fn2 Tryz.prog kAction kAction (kint .i64) cmp6), (10, rd (kint .i64) i11), (11, rd (kint .i64) j12)], ress [(0, Row v2 121 kAction l10)], _⟩
  cases m13 with
  | zero => cases h
  | succ m13 =>
    unfold F_slices_rotateCmpFunc_Action_l1 at h
    generalize hgo1 : F_slices_rotateCmpFunc_Action_l1 m4 cmp6 m13 = go1 at h
    refine AW.seq <| SR <| Md rfl <| Md rfl <| Ac (op_neq rfl rfl (vt rfl) (vt rfl)) rfl <| Nl <| Cn rfl (fun hc => ?_) (fun hc => ?_)
    · have h := cond_t hc h
      refine AW.skip <| AW.block <| SR <| Md rfl <| Md rfl <| Ac (op_gtr rfl rfl (vt rfl) (vt rfl)) rfl <| Nl <| Cn rfl (fun hc => ?_) (fun hc => ?_)
      · have h := cond_t hc h
        refine AW.seq ?_
        obtain ⟨l14, hl14, h⟩ := bsome h
        refine Rg <| Mw rfl <| Md rfl <| Md rfl <| Ac (op_sub rfl rfl (vt rfl) (vt rfl)) rfl <| Md rfl <| Md rfl <| Ac (op_move (A := fn2 Tryz.prog kAction kAction (kint .i64) cmp6) rfl rfl (vt rfl)) rfl <| Ct rfl (op_callR 0 (xs := [.tmp 24, .tmp 27, .tmp 28, .tmp 29, .tmp 30]) (c_slices_swapRangeCmpFunc_Action_o _ _ _ _ _ _ _ hl14) e343 rfl rfl ⟨vt rfl, vt rfl, vt rfl, vt rfl, vt rfl, trivial⟩ rfl) ?_
        rintro _ ⟨_u, rfl⟩
        refine Nl <| Rg <| Md rfl <| Md rfl <| Ac (op_sub rfl rfl (vt rfl) (vt rfl)) rfl <| As rfl <| Nl ?_
        subst hgo1
        exact ⟨(m13, l14, (IntKind.i64.wrap (i11 - j12)), j12), Nat.lt_succ_self _, ⟨trivial, h⟩, ⟨rfl, ⟨rfl, rfl, rfl, rfl, rfl, trivial⟩, ⟨rfl, trivial⟩⟩⟩
      · have h := cond_f hc h
        refine AW.seq ?_
        obtain ⟨l15, hl15, h⟩ := bsome h
        refine Rg <| Mw rfl <| Md rfl <| Md rfl <| Ac (op_sub rfl rfl (vt rfl) (vt rfl)) rfl <| Md rfl <| Md rfl <| Ac (op_add rfl rfl (vt rfl) (vt rfl)) rfl <| Md rfl <| Ac (op_sub rfl rfl (vt rfl) (vt rfl)) rfl <| Md rfl <| Ac (op_move (A := fn2 Tryz.prog kAction kAction (kint .i64) cmp6) rfl rfl (vt rfl)) rfl <| Ct rfl (op_callR 0 (xs := [.tmp 35, .tmp 38, .tmp 43, .tmp 44, .tmp 45]) (c_slices_swapRangeCmpFunc_Action_o _ _ _ _ _ _ _ hl15) e343 rfl rfl ⟨vt rfl, vt rfl, vt rfl, vt rfl, vt rfl, trivial⟩ rfl) ?_
        rintro _ ⟨_u, rfl⟩
        refine Nl <| Rg <| Md rfl <| Md rfl <| Ac (op_sub rfl rfl (vt rfl) (vt rfl)) rfl <| As rfl <| Nl ?_
        subst hgo1
        exact ⟨(m13, l15, i11, (IntKind.i64.wrap (j12 - i11))), Nat.lt_succ_self _, ⟨trivial, h⟩, ⟨rfl, ⟨rfl, rfl, rfl, rfl, rfl, trivial⟩, ⟨rfl, trivial⟩⟩⟩
    · have h := cond_f hc h
      refine AW.exit ?_
      obtain ⟨l16, hl16, h⟩ := bsome h
      refine Rg <| Mw rfl <| Md rfl <| Md rfl <| Ac (op_sub rfl rfl (vt rfl) (vt rfl)) rfl <| Md rfl <| Md rfl <| Ac (op_move (A := fn2 Tryz.prog kAction kAction (kint .i64) cmp6) rfl rfl (vt rfl)) rfl <| Ct rfl (op_callR 0 (xs := [.tmp 50, .tmp 53, .tmp 54, .tmp 55, .tmp 56]) (c_slices_swapRangeCmpFunc_Action_o _ _ _ _ _ _ _ hl16) e343 rfl rfl ⟨vt rfl, vt rfl, vt rfl, vt rfl, vt rfl, trivial⟩ rfl) ?_
      rintro _ ⟨_u, rfl⟩
      refine Nl ?_
      obtain rfl := si h
      exact ret0Y (i := 0) Tryz.results335 rfl rfl
def F_slices_symMergeCmpFunc_Action_s_l2 (i9 : Int) : Nat → (List Action) → Int → Option (List Action)
  | 0, _, _ => none
  | m20 + 1, l18, k19 => (bif (decide (k19 < (IntKind.i64.wrap (i9 - 1)))) then (lget l18 (IntKind.i64.wrap (k19 + 1))).bind fun e21 => (lget l18 k19).bind fun e22 => (lget l18 k19).bind fun e23 => (lget (List.set l18 k19.toNat e21) (IntKind.i64.wrap (k19 + 1))).bind fun e24 => (F_slices_symMergeCmpFunc_Action_s_l2 i9 m20) (List.set (List.set l18 k19.toNat e21) (IntKind.i64.wrap (k19 + 1)).toNat e22) (IntKind.i64.wrap (k19 + 1)) else some l18)
def F_slices_symMergeCmpFunc_Action_s_l1 (data1 : (List Action)) (a3 : Int) (cmp6 : (Action → Action → Option Int)) : Nat → Int → Int → Option (List Action)
  | 0, _, _ => none
  | m11 + 1, i9, j10 => (bif (decide (i9 < j10)) then (oushr (BitVec.ofInt 64 (IntKind.i64.wrap (i9 + j10))) ((1 : BitVec 64).toNat : Int)).bind fun q12 => (lget data1 (IntKind.i64.wrap (q12.toNat : Int))).bind fun e13 => (lget data1 a3).bind fun e14 => (cmp6 e13 e14).bind fun x15 => (bif (decide (x15 < 0)) then (F_slices_symMergeCmpFunc_Action_s_l1 data1 a3 cmp6 m11) (IntKind.i64.wrap ((IntKind.i64.wrap (q12.toNat : Int)) + 1)) j10 else (F_slices_symMergeCmpFunc_Action_s_l1 data1 a3 cmp6 m11) i9 (IntKind.i64.wrap (q12.toNat : Int))) else F_slices_symMergeCmpFunc_Action_s_l2 i9 ((((IntKind.i64.wrap (i9 - 1)) : Int) - a3).toNat + 1) data1 a3)
def F_slices_symMergeCmpFunc_Action_s_l4 (i27 : Int) : Nat → (List Action) → Int → Option (List Action)
  | 0, _, _ => none
  | m38 + 1, l36, k37 => (bif (decide (k37 > i27)) then (lget l36 (IntKind.i64.wrap (k37 - 1))).bind fun e39 => (lget l36 k37).bind fun e40 => (lget l36 k37).bind fun e41 => (lget (List.set l36 k37.toNat e39) (IntKind.i64.wrap (k37 - 1))).bind fun e42 => (F_slices_symMergeCmpFunc_Action_s_l4 i27 m38) (List.set (List.set l36 k37.toNat e39) (IntKind.i64.wrap (k37 - 1)).toNat e40) (IntKind.i64.wrap (k37 - 1)) else some l36)
def F_slices_symMergeCmpFunc_Action_s_l3 (data1 : (List Action)) (m4 : Int) (cmp6 : (Action → Action → Option Int)) : Nat → Int → Int → Option (List Action)
  | 0, _, _ => none
  | m29 + 1, i27, j28 => (bif (decide (i27 < j28)) then (oushr (BitVec.ofInt 64 (IntKind.i64.wrap (i27 + j28))) ((1 : BitVec 64).toNat : Int)).bind fun q30 => (lget data1 m4).bind fun e31 => (lget data1 (IntKind.i64.wrap (q30.toNat : Int))).bind fun e32 => (cmp6 e31 e32).bind fun x33 => (bif (!(decide (x33 < 0))) then (F_slices_symMergeCmpFunc_Action_s_l3 data1 m4 cmp6 m29) (IntKind.i64.wrap ((IntKind.i64.wrap (q30.toNat : Int)) + 1)) j28 else (F_slices_symMergeCmpFunc_Action_s_l3 data1 m4 cmp6 m29) i27 (IntKind.i64.wrap (q30.toNat : Int))) else F_slices_symMergeCmpFunc_Action_s_l4 i27 (((m4 : Int) - i27).toNat + 1) data1 m4)
def F_slices_symMergeCmpFunc_Action_s_j8 (q43 : (BitVec 64)) (m4 : Int) (start48 : Int) (b5 : Int) (R_slices_symMergeCmpFunc_Action : ((List Action) → Int → Int → Int → (Action → Action → Option Int) → Option (List Action))) (cmp6 : (Action → Action → Option Int)) (l56 : (List Action)) : Option (List Action) :=
  (bif ((decide ((IntKind.i64.wrap (q43.toNat : Int)) < (IntKind.i64.wrap ((IntKind.i64.wrap ((IntKind.i64.wrap (q43.toNat : Int)) + m4)) - start48)))) && (decide ((IntKind.i64.wrap ((IntKind.i64.wrap ((IntKind.i64.wrap (q43.toNat : Int)) + m4)) - start48)) < b5))) then (R_slices_symMergeCmpFunc_Action l56 (IntKind.i64.wrap (q43.toNat : Int)) (IntKind.i64.wrap ((IntKind.i64.wrap ((IntKind.i64.wrap (q43.toNat : Int)) + m4)) - start48)) b5 cmp6).bind fun l57 => some l57 else some l56)
def F_slices_symMergeCmpFunc_Action_s_j7 (a3 : Int) (start48 : Int) (q43 : (BitVec 64)) (R_slices_symMergeCmpFunc_Action : ((List Action) → Int → Int → Int → (Action → Action → Option Int) → Option (List Action))) (cmp6 : (Action → Action → Option Int)) (m4 : Int) (b5 : Int) (l55 : (List Action)) : Option (List Action) :=
  (bif ((decide (a3 < start48)) && (decide (start48 < (IntKind.i64.wrap (q43.toNat : Int))))) then (R_slices_symMergeCmpFunc_Action l55 a3 start48 (IntKind.i64.wrap (q43.toNat : Int)) cmp6).bind fun l58 => F_slices_symMergeCmpFunc_Action_s_j8 q43 m4 start48 b5 R_slices_symMergeCmpFunc_Action cmp6 l58 else F_slices_symMergeCmpFunc_Action_s_j8 q43 m4 start48 b5 R_slices_symMergeCmpFunc_Action cmp6 l55)
def F_slices_symMergeCmpFunc_Action_s_l6 (data1 : (List Action)) (q43 : (BitVec 64)) (m4 : Int) (cmp6 : (Action → Action → Option Int)) (a3 : Int) (R_slices_symMergeCmpFunc_Action : ((List Action) → Int → Int → Int → (Action → Action → Option Int) → Option (List Action))) (b5 : Int) : Nat → Int → Int → Option (List Action)
  | 0, _, _ => none
  | m50 + 1, start48, r49 => (bif (decide (start48 < r49)) then (oushr (BitVec.ofInt 64 (IntKind.i64.wrap (start48 + r49))) ((1 : BitVec 64).toNat : Int)).bind fun q51 => (lget data1 (IntKind.i64.wrap ((IntKind.i64.wrap ((IntKind.i64.wrap ((IntKind.i64.wrap (q43.toNat : Int)) + m4)) - 1)) - (IntKind.i64.wrap (q51.toNat : Int))))).bind fun e52 => (lget data1 (IntKind.i64.wrap (q51.toNat : Int))).bind fun e53 => (cmp6 e52 e53).bind fun x54 => (bif (!(decide (x54 < 0))) then (F_slices_symMergeCmpFunc_Action_s_l6 data1 q43 m4 cmp6 a3 R_slices_symMergeCmpFunc_Action b5 m50) (IntKind.i64.wrap ((IntKind.i64.wrap (q51.toNat : Int)) + 1)) r49 else (F_slices_symMergeCmpFunc_Action_s_l6 data1 q43 m4 cmp6 a3 R_slices_symMergeCmpFunc_Action b5 m50) start48 (IntKind.i64.wrap (q51.toNat : Int))) else (bif ((decide (start48 < m4)) && (decide (m4 < (IntKind.i64.wrap ((IntKind.i64.wrap ((IntKind.i64.wrap (q43.toNat : Int)) + m4)) - start48))))) then (F_slices_rotateCmpFunc_Action data1 start48 m4 (IntKind.i64.wrap ((IntKind.i64.wrap ((IntKind.i64.wrap (q43.toNat : Int)) + m4)) - start48)) cmp6).bind fun l59 => F_slices_symMergeCmpFunc_Action_s_j7 a3 start48 q43 R_slices_symMergeCmpFunc_Action cmp6 m4 b5 l59 else F_slices_symMergeCmpFunc_Action_s_j7 a3 start48 q43 R_slices_symMergeCmpFunc_Action cmp6 m4 b5 data1))
def F_slices_symMergeCmpFunc_Action_s_j5 (data1 : (List Action)) (q43 : (BitVec 64)) (m4 : Int) (cmp6 : (Action → Action → Option Int)) (a3 : Int) (R_slices_symMergeCmpFunc_Action : ((List Action) → Int → Int → Int → (Action → Action → Option Int) → Option (List Action))) (b5 : Int) (start44 : Int) (r45 : Int) : Option (List Action) :=
  F_slices_symMergeCmpFunc_Action_s_l6 data1 q43 m4 cmp6 a3 R_slices_symMergeCmpFunc_Action b5 (((r45 : Int) - start44).toNat + 1) start44 r45
def F_slices_symMergeCmpFunc_Action_s (R_slices_symMergeCmpFunc_Action : ((List Action) → Int → Int → Int → (Action → Action → Option Int) → Option (List Action))) (data1 : (List Action)) (a3 : Int) (m4 : Int) (b5 : Int) (cmp6 : (Action → Action → Option Int)) : Option (List Action) :=
  (bif (decide ((IntKind.i64.wrap (m4 - a3)) = 1)) then F_slices_symMergeCmpFunc_Action_s_l1 data1 a3 cmp6 (((b5 : Int) - m4).toNat + 1) m4 b5 else (bif (decide ((IntKind.i64.wrap (b5 - m4)) = 1)) then F_slices_symMergeCmpFunc_Action_s_l3 data1 m4 cmp6 (((m4 : Int) - a3).toNat + 1) a3 m4 else (oushr (BitVec.ofInt 64 (IntKind.i64.wrap (a3 + b5))) ((1 : BitVec 64).toNat : Int)).bind fun q43 => (bif (decide (m4 > (IntKind.i64.wrap (q43.toNat : Int)))) then F_slices_symMergeCmpFunc_Action_s_j5 data1 q43 m4 cmp6 a3 R_slices_symMergeCmpFunc_Action b5 (IntKind.i64.wrap ((IntKind.i64.wrap ((IntKind.i64.wrap (q43.toNat : Int)) + m4)) - b5)) (IntKind.i64.wrap (q43.toNat : Int)) else F_slices_symMergeCmpFunc_Action_s_j5 data1 q43 m4 cmp6 a3 R_slices_symMergeCmpFunc_Action b5 a3 m4)))
theorem c_slices_symMergeCmpFunc_Action_s (R_slices_symMergeCmpFunc_Action : ((List Action) → Int → Int → Int → (Action → Action → Option Int) → Option (List Action))) (hR_slices_symMergeCmpFunc_Action : ∀ (v2 : Value) (data1 : (List Action)) (a3 : Int) (m4 : Int) (b5 : Int) (cmp6 : (Action → Action → Option Int)) (r : (List Action)), R_slices_symMergeCmpFunc_Action data1 a3 m4 b5 cmp6 = some r → Con Tryz.prog 311 [raw v2, rd (kint .i64) a3, rd (kint .i64) m4, rd (kint .i64) b5, fn2 Tryz.prog kAction kAction (kint .i64) cmp6] (Row v2 121 kAction data1) (fun _ : Unit => top) (fun _ => Row v2 121 kAction r)) (v2 : Value) (data1 : (List Action)) (a3 : Int) (m4 : Int) (b5 : Int) (cmp6 : (Action → Action → Option Int)) (r : (List Action)) (h : F_slices_symMergeCmpFunc_Action_s R_slices_symMergeCmpFunc_Action data1 a3 m4 b5 cmp6 = some r) : Con Tryz.prog 311 [raw v2, rd (kint .i64) a3, rd (kint .i64) m4, rd (kint .i64) b5, fn2 Tryz.prog kAction kAction (kint .i64) cmp6] (Row v2 121 kAction data1) (fun _ : Unit => top) (fun _ => Row v2 121 kAction r) := by
  refine Con.intro Tryz.func311 rfl Tryz.ntmps311 rfl fun w H X => ?_
  unfold F_slices_symMergeCmpFunc_Action_s at h
  refine AW.seq <| SR <| Md rfl <| Md rfl <| Ac (op_sub rfl rfl (vt rfl) (vt rfl)) rfl <| Ac (op_eql rfl rfl (vt rfl) (vk rfl)) rfl <| Nl <| Cn rfl (fun hc => ?_) (fun hc => ?_)
  · have h := cond_t hc h
    refine SR <| Md rfl <| As rfl <| Nl <| SR <| Md rfl <| As rfl <| Nl <| AW.seq <| AW.block <| AW.loopG (d := []) (ν := Nat × Int × Int) (fun n => True ∧ F_slices_symMergeCmpFunc_Action_s_l1 data1 a3 cmp6 n.1 n.2.1 n.2.2 = some r) (fun n => n.1) (fun n => [(0, raw v2), (1, rd (kint .i64) a3), (4, fn2 Tryz.prog kAction kAction (kint .i64) cmp6), (10, rd (kint .i64) n.2.1), (11, rd (kint .i64) n.2.2)]) (fun n => [(0, Row v2 121 kAction data1)]) ((((b5 : Int) - m4).toNat + 1), m4, b5) ⟨trivial, h⟩ ⟨rfl, ⟨rfl, rfl, rfl, rfl, rfl, trivial⟩, ⟨rfl, trivial⟩⟩ ?_
    rintro ⟨m11, i9, j10⟩ ⟨hsf1, h⟩
    change True at hsf1
    change F_slices_symMergeCmpFunc_Action_s_l1 data1 a3 cmp6 m11 i9 j10 = some r at h
    change AW _ _ _ ⟨slots [(0, raw v2), (1, rd (kint .i64) a3), (4, fn2 Tryz.prog kAction kAction (kint .i64) cmp6), (10, rd (kint .i64) i9), (11, rd (kint .i64) j10)], ress [(0, Row v2 121 kAction data1)], _⟩
    cases m11 with
    | zero => cases h
    | succ m11 =>
      unfold F_slices_symMergeCmpFunc_Action_s_l1 at h
      generalize hgo1 : F_slices_symMergeCmpFunc_Action_s_l1 data1 a3 cmp6 m11 = go1 at h
      refine AW.seq <| SR <| Md rfl <| Md rfl <| Ac (op_lss rfl rfl (vt rfl) (vt rfl)) rfl <| Nl <| Cn rfl (fun hc => ?_) (fun hc => ?_)
      · have h := cond_t hc h
        refine AW.skip <| AW.block <| AW.seq ?_
        obtain ⟨q12, hq12, h⟩ := bsome h
        refine Rg <| Md rfl <| Md rfl <| Ac (op_add rfl rfl (vt rfl) (vt rfl)) rfl <| Ac (op_convu rfl rfl us3 un360 (vt rfl)) rfl <| Ac (op_ushr rfl rfl (vt rfl) (vu64 (vku (1 : BitVec 64) rfl)) hq12) rfl <| Ac (op_uconv rfl rfl us360 un3 (vt rfl)) rfl <| As rfl <| Nl <| AW.seq ?_
        obtain ⟨e13, he13, h⟩ := bsome h
        obtain ⟨e14, he14, h⟩ := bsome h
        obtain ⟨x15, hx15, h⟩ := bsome h
        refine AW.regionAny [⟨[4], [40], [], []⟩, ⟨[0], [41], [], []⟩, ⟨[12], [42], [], []⟩, ⟨[41, 42], [43], [0], []⟩, ⟨[43], [44], [0], []⟩, ⟨[0], [45], [], []⟩, ⟨[1], [46], [], []⟩, ⟨[45, 46], [47], [0], []⟩, ⟨[47], [48], [0], []⟩, ⟨[40, 44, 48], [49], [], []⟩, ⟨[49], [50], [], []⟩] mixed (by kernel_rfl) <| Sc (lo [4] [] rfl fun S hs hr => op_move (A := fn2 Tryz.prog kAction kAction (kint .i64) cmp6) rfl rfl (vh hs 4 rfl rfl)) rfl <| SMw rfl <| SMd rfl <| Sc (lo [41, 42] [0] rfl fun S hs hr => op_indexo' 0 rfl rfl sl122 (vh hs 41 rfl rfl) ((hr 0 rfl).trans rfl) (vh hs 42 rfl rfl) he13) rfl <| Sc (lo [43] [0] rfl fun S hs hr => op_loado' 0 rfl rfl ty121 (vh hs 43 rfl rfl) ((hr 0 rfl).trans rfl) (lget_of he13).2) rfl <| SMw rfl <| SMd rfl <| Sc (lo [45, 46] [0] rfl fun S hs hr => op_indexo' 0 rfl rfl sl122 (vh hs 45 rfl rfl) ((hr 0 rfl).trans rfl) (vh hs 46 rfl rfl) he14) rfl <| Sc (lo [47] [0] rfl fun S hs hr => op_loado' 0 rfl rfl ty121 (vh hs 47 rfl rfl) ((hr 0 rfl).trans rfl) (lget_of he14).2) rfl <| Sc (lo [40, 44, 48] [] rfl fun S hs hr => op_call2 hx15 rfl rfl (vh hs 40 rfl rfl) (vh hs 44 rfl rfl) (vh hs 48 rfl rfl)) rfl <| Sc (lo [49] [] rfl fun S hs hr => op_lss rfl rfl (vh hs 49 rfl rfl) (vk rfl)) rfl <| Cn rfl (fun hc => ?_) (fun hc => ?_)
        · have h := cond_t hc h
          refine Rg <| Md rfl <| Ac (op_add rfl rfl (vt rfl) (vk rfl)) rfl <| As rfl <| Nl ?_
          subst hgo1
          exact ⟨(m11, (IntKind.i64.wrap ((IntKind.i64.wrap (q12.toNat : Int)) + 1)), j10), Nat.lt_succ_self _, ⟨trivial, h⟩, ⟨rfl, ⟨rfl, rfl, rfl, rfl, rfl, trivial⟩, ⟨rfl, trivial⟩⟩⟩
        · have h := cond_f hc h
          refine Rg <| Md rfl <| As rfl <| Nl ?_
          subst hgo1
          exact ⟨(m11, i9, (IntKind.i64.wrap (q12.toNat : Int))), Nat.lt_succ_self _, ⟨trivial, h⟩, ⟨rfl, ⟨rfl, rfl, rfl, rfl, rfl, trivial⟩, ⟨rfl, trivial⟩⟩⟩
      · have h := cond_f hc h
        refine AW.exit <| AW.seq <| SR <| Md rfl <| As rfl <| Nl <| AW.block <| AW.loopG (d := []) (ν := Nat × (List Action) × Int) (fun n => True ∧ F_slices_symMergeCmpFunc_Action_s_l2 i9 n.1 n.2.1 n.2.2 = some r) (fun n => n.1) (fun n => [(0, raw v2), (10, rd (kint .i64) i9), (13, rd (kint .i64) n.2.2)]) (fun n => [(0, Row v2 121 kAction n.2.1)]) (((((IntKind.i64.wrap (i9 - 1)) : Int) - a3).toNat + 1), data1, a3) ⟨trivial, h⟩ ⟨rfl, ⟨rfl, rfl, rfl, trivial⟩, ⟨rfl, trivial⟩⟩ ?_
        rintro ⟨m20, l18, k19⟩ ⟨hsf2, h⟩
        change True at hsf2
        change F_slices_symMergeCmpFunc_Action_s_l2 i9 m20 l18 k19 = some r at h
        change AW _ _ _ ⟨slots [(0, raw v2), (10, rd (kint .i64) i9), (13, rd (kint .i64) k19)], ress [(0, Row v2 121 kAction l18)], _⟩
        cases m20 with
        | zero => cases h
        | succ m20 =>
          unfold F_slices_symMergeCmpFunc_Action_s_l2 at h
          generalize hgo2 : F_slices_symMergeCmpFunc_Action_s_l2 i9 m20 = go2 at h
          refine AW.seq <| SR <| Md rfl <| Md rfl <| Ac (op_sub rfl rfl (vt rfl) (vk rfl)) rfl <| Ac (op_lss rfl rfl (vt rfl) (vt rfl)) rfl <| Nl <| Cn rfl (fun hc => ?_) (fun hc => ?_)
          · have h := cond_t hc h
            refine AW.skip <| AW.seq <| AW.block <| AW.vlen 0 rfl fun hvl0_218 => ?_
            obtain ⟨e21, he21, h⟩ := bsome h
            obtain ⟨e22, he22, h⟩ := bsome h
            obtain ⟨e23, he23, h⟩ := bsome h
            obtain ⟨e24, he24, h⟩ := bsome h
            refine AW.regionAny [⟨[0], [61], [], []⟩, ⟨[13], [62], [], []⟩, ⟨[0], [63], [], []⟩, ⟨[13], [64], [], []⟩, ⟨[64], [65], [], []⟩, ⟨[0], [66], [], []⟩, ⟨[13], [67], [], []⟩, ⟨[67], [68], [], []⟩, ⟨[66, 68], [69], [], []⟩, ⟨[69], [70], [0], []⟩, ⟨[0], [71], [], []⟩, ⟨[13], [72], [], []⟩, ⟨[71, 72], [73], [], []⟩, ⟨[73], [74], [0], []⟩, ⟨[61, 62], [75], [], []⟩, ⟨[75, 70], [], [0], [0]⟩, ⟨[63, 65], [76], [], []⟩, ⟨[76, 74], [], [0], [0]⟩] mixed (by kernel_rfl) <| SMw rfl <| SMd rfl <| SMw rfl <| SMd rfl <| Sc (lo [64] [] rfl fun S hs hr => op_add rfl rfl (vh hs 64 rfl rfl) (vk rfl)) rfl <| SMw rfl <| SMd rfl <| Sc (lo [67] [] rfl fun S hs hr => op_add rfl rfl (vh hs 67 rfl rfl) (vk rfl)) rfl <| Sc (lo [66, 68] [] rfl fun S hs hr => op_indexoP (l := l18) hvl0_218 rfl rfl rfl sl122 (vh hs 66 rfl rfl) (vh hs 68 rfl rfl) he21) rfl <| Sc (lo [69] [0] rfl fun S hs hr => op_loado' 0 rfl rfl ty121 (vh hs 69 rfl rfl) ((hr 0 rfl).trans rfl) (lget_of he21).2) rfl <| SMw rfl <| SMd rfl <| Sc (lo [71, 72] [] rfl fun S hs hr => op_indexoP (l := l18) hvl0_218 rfl rfl rfl sl122 (vh hs 71 rfl rfl) (vh hs 72 rfl rfl) he22) rfl <| Sc (lo [73] [0] rfl fun S hs hr => op_loado' 0 rfl rfl ty121 (vh hs 73 rfl rfl) ((hr 0 rfl).trans rfl) (lget_of he22).2) rfl <| Sc (lo [61, 62] [] rfl fun S hs hr => op_indexoP (l := l18) hvl0_218 rfl rfl rfl sl122 (vh hs 61 rfl rfl) (vh hs 62 rfl rfl) he23) rfl <| Sc (locr [75, 70] [0] rfl fun S hs hr => op_storeo' 0 rfl rfl ty121 (vh hs 75 rfl rfl) ((hr 0 rfl).trans rfl) (lget_of he23).2 (vh hs 70 rfl rfl)) rfl <| Sc (lo [63, 65] [] rfl fun S hs hr => op_indexoP (l := (List.set l18 k19.toNat e21)) hvl0_218 (by simp) rfl rfl sl122 (vh hs 63 rfl rfl) (vh hs 65 rfl rfl) he24) rfl <| Sc (locr [76, 74] [0] rfl fun S hs hr => op_storeo' 0 rfl rfl ty121 (vh hs 76 rfl rfl) ((hr 0 rfl).trans rfl) (lget_of he24).2 (vh hs 74 rfl rfl)) rfl <| Rg <| Md rfl <| Ac (op_add rfl rfl (vt rfl) (vk rfl)) rfl <| As rfl <| Nl ?_
            subst hgo2
            exact ⟨(m20, (List.set (List.set l18 k19.toNat e21) (IntKind.i64.wrap (k19 + 1)).toNat e22), (IntKind.i64.wrap (k19 + 1))), Nat.lt_succ_self _, ⟨trivial, h⟩, ⟨rfl, ⟨rfl, rfl, rfl, trivial⟩, ⟨rfl, trivial⟩⟩⟩
          · have h := cond_f hc h
            refine AW.exit <| AW.ret ?_
            obtain rfl := si h
            exact ret0Y (i := 0) Tryz.results311 rfl rfl
  · have h := cond_f hc h
    refine AW.skip <| AW.seq <| SR <| Md rfl <| Md rfl <| Ac (op_sub rfl rfl (vt rfl) (vt rfl)) rfl <| Ac (op_eql rfl rfl (vt rfl) (vk rfl)) rfl <| Nl <| Cn rfl (fun hc => ?_) (fun hc => ?_)
    · have h := cond_t hc h
      refine SR <| Md rfl <| As rfl <| Nl <| SR <| Md rfl <| As rfl <| Nl <| AW.seq <| AW.block <| AW.loopG (d := []) (ν := Nat × Int × Int) (fun n => True ∧ F_slices_symMergeCmpFunc_Action_s_l3 data1 m4 cmp6 n.1 n.2.1 n.2.2 = some r) (fun n => n.1) (fun n => [(0, raw v2), (2, rd (kint .i64) m4), (4, fn2 Tryz.prog kAction kAction (kint .i64) cmp6), (14, rd (kint .i64) n.2.1), (15, rd (kint .i64) n.2.2)]) (fun n => [(0, Row v2 121 kAction data1)]) ((((m4 : Int) - a3).toNat + 1), a3, m4) ⟨trivial, h⟩ ⟨rfl, ⟨rfl, rfl, rfl, rfl, rfl, trivial⟩, ⟨rfl, trivial⟩⟩ ?_
      rintro ⟨m29, i27, j28⟩ ⟨hsf3, h⟩
      change True at hsf3
      change F_slices_symMergeCmpFunc_Action_s_l3 data1 m4 cmp6 m29 i27 j28 = some r at h
      change AW _ _ _ ⟨slots [(0, raw v2), (2, rd (kint .i64) m4), (4, fn2 Tryz.prog kAction kAction (kint .i64) cmp6), (14, rd (kint .i64) i27), (15, rd (kint .i64) j28)], ress [(0, Row v2 121 kAction data1)], _⟩
      cases m29 with
      | zero => cases h
      | succ m29 =>
        unfold F_slices_symMergeCmpFunc_Action_s_l3 at h
        generalize hgo3 : F_slices_symMergeCmpFunc_Action_s_l3 data1 m4 cmp6 m29 = go3 at h
        refine AW.seq <| SR <| Md rfl <| Md rfl <| Ac (op_lss rfl rfl (vt rfl) (vt rfl)) rfl <| Nl <| Cn rfl (fun hc => ?_) (fun hc => ?_)
        · have h := cond_t hc h
          refine AW.skip <| AW.block <| AW.seq ?_
          obtain ⟨q30, hq30, h⟩ := bsome h
          refine Rg <| Md rfl <| Md rfl <| Ac (op_add rfl rfl (vt rfl) (vt rfl)) rfl <| Ac (op_convu rfl rfl us3 un360 (vt rfl)) rfl <| Ac (op_ushr rfl rfl (vt rfl) (vu64 (vku (1 : BitVec 64) rfl)) hq30) rfl <| Ac (op_uconv rfl rfl us360 un3 (vt rfl)) rfl <| As rfl <| Nl <| AW.seq ?_
          obtain ⟨e31, he31, h⟩ := bsome h
          obtain ⟨e32, he32, h⟩ := bsome h
          obtain ⟨x33, hx33, h⟩ := bsome h
          refine AW.regionAny [⟨[4], [92], [], []⟩, ⟨[0], [93], [], []⟩, ⟨[2], [94], [], []⟩, ⟨[93, 94], [95], [0], []⟩, ⟨[95], [96], [0], []⟩, ⟨[0], [97], [], []⟩, ⟨[16], [98], [], []⟩, ⟨[97, 98], [99], [0], []⟩, ⟨[99], [100], [0], []⟩, ⟨[92, 96, 100], [101], [], []⟩, ⟨[101], [102], [], []⟩, ⟨[102], [103], [], []⟩] mixed (by kernel_rfl) <| Sc (lo [4] [] rfl fun S hs hr => op_move (A := fn2 Tryz.prog kAction kAction (kint .i64) cmp6) rfl rfl (vh hs 4 rfl rfl)) rfl <| SMw rfl <| SMd rfl <| Sc (lo [93, 94] [0] rfl fun S hs hr => op_indexo' 0 rfl rfl sl122 (vh hs 93 rfl rfl) ((hr 0 rfl).trans rfl) (vh hs 94 rfl rfl) he31) rfl <| Sc (lo [95] [0] rfl fun S hs hr => op_loado' 0 rfl rfl ty121 (vh hs 95 rfl rfl) ((hr 0 rfl).trans rfl) (lget_of he31).2) rfl <| SMw rfl <| SMd rfl <| Sc (lo [97, 98] [0] rfl fun S hs hr => op_indexo' 0 rfl rfl sl122 (vh hs 97 rfl rfl) ((hr 0 rfl).trans rfl) (vh hs 98 rfl rfl) he32) rfl <| Sc (lo [99] [0] rfl fun S hs hr => op_loado' 0 rfl rfl ty121 (vh hs 99 rfl rfl) ((hr 0 rfl).trans rfl) (lget_of he32).2) rfl <| Sc (lo [92, 96, 100] [] rfl fun S hs hr => op_call2 hx33 rfl rfl (vh hs 92 rfl rfl) (vh hs 96 rfl rfl) (vh hs 100 rfl rfl)) rfl <| Sc (lo [101] [] rfl fun S hs hr => op_lss rfl rfl (vh hs 101 rfl rfl) (vk rfl)) rfl <| Sc (lo [102] [] rfl fun S hs hr => op_not rfl rfl (vh hs 102 rfl rfl)) rfl <| Cn rfl (fun hc => ?_) (fun hc => ?_)
          · have h := cond_t hc h
            refine Rg <| Md rfl <| Ac (op_add rfl rfl (vt rfl) (vk rfl)) rfl <| As rfl <| Nl ?_
            subst hgo3
            exact ⟨(m29, (IntKind.i64.wrap ((IntKind.i64.wrap (q30.toNat : Int)) + 1)), j28), Nat.lt_succ_self _, ⟨trivial, h⟩, ⟨rfl, ⟨rfl, rfl, rfl, rfl, rfl, trivial⟩, ⟨rfl, trivial⟩⟩⟩
          · have h := cond_f hc h
            refine Rg <| Md rfl <| As rfl <| Nl ?_
            subst hgo3
            exact ⟨(m29, i27, (IntKind.i64.wrap (q30.toNat : Int))), Nat.lt_succ_self _, ⟨trivial, h⟩, ⟨rfl, ⟨rfl, rfl, rfl, rfl, rfl, trivial⟩, ⟨rfl, trivial⟩⟩⟩
        · have h := cond_f hc h
          refine AW.exit <| AW.seq <| SR <| Md rfl <| As rfl <| Nl <| AW.block <| AW.loopG (d := []) (ν := Nat × (List Action) × Int) (fun n => True ∧ F_slices_symMergeCmpFunc_Action_s_l4 i27 n.1 n.2.1 n.2.2 = some r) (fun n => n.1) (fun n => [(0, raw v2), (14, rd (kint .i64) i27), (17, rd (kint .i64) n.2.2)]) (fun n => [(0, Row v2 121 kAction n.2.1)]) ((((m4 : Int) - i27).toNat + 1), data1, m4) ⟨trivial, h⟩ ⟨rfl, ⟨rfl, rfl, rfl, trivial⟩, ⟨rfl, trivial⟩⟩ ?_
          rintro ⟨m38, l36, k37⟩ ⟨hsf4, h⟩
          change True at hsf4
          change F_slices_symMergeCmpFunc_Action_s_l4 i27 m38 l36 k37 = some r at h
          change AW _ _ _ ⟨slots [(0, raw v2), (14, rd (kint .i64) i27), (17, rd (kint .i64) k37)], ress [(0, Row v2 121 kAction l36)], _⟩
          cases m38 with
          | zero => cases h
          | succ m38 =>
            unfold F_slices_symMergeCmpFunc_Action_s_l4 at h
            generalize hgo4 : F_slices_symMergeCmpFunc_Action_s_l4 i27 m38 = go4 at h
            refine AW.seq <| SR <| Md rfl <| Md rfl <| Ac (op_gtr rfl rfl (vt rfl) (vt rfl)) rfl <| Nl <| Cn rfl (fun hc => ?_) (fun hc => ?_)
            · have h := cond_t hc h
              refine AW.skip <| AW.seq <| AW.block <| AW.vlen 0 rfl fun hvl0_474 => ?_
              obtain ⟨e39, he39, h⟩ := bsome h
              obtain ⟨e40, he40, h⟩ := bsome h
              obtain ⟨e41, he41, h⟩ := bsome h
              obtain ⟨e42, he42, h⟩ := bsome h
              refine AW.regionAny [⟨[0], [113], [], []⟩, ⟨[17], [114], [], []⟩, ⟨[0], [115], [], []⟩, ⟨[17], [116], [], []⟩, ⟨[116], [117], [], []⟩, ⟨[0], [118], [], []⟩, ⟨[17], [119], [], []⟩, ⟨[119], [120], [], []⟩, ⟨[118, 120], [121], [], []⟩, ⟨[121], [122], [0], []⟩, ⟨[0], [123], [], []⟩, ⟨[17], [124], [], []⟩, ⟨[123, 124], [125], [], []⟩, ⟨[125], [126], [0], []⟩, ⟨[113, 114], [127], [], []⟩, ⟨[127, 122], [], [0], [0]⟩, ⟨[115, 117], [128], [], []⟩, ⟨[128, 126], [], [0], [0]⟩] mixed (by kernel_rfl) <| SMw rfl <| SMd rfl <| SMw rfl <| SMd rfl <| Sc (lo [116] [] rfl fun S hs hr => op_sub rfl rfl (vh hs 116 rfl rfl) (vk rfl)) rfl <| SMw rfl <| SMd rfl <| Sc (lo [119] [] rfl fun S hs hr => op_sub rfl rfl (vh hs 119 rfl rfl) (vk rfl)) rfl <| Sc (lo [118, 120] [] rfl fun S hs hr => op_indexoP (l := l36) hvl0_474 rfl rfl rfl sl122 (vh hs 118 rfl rfl) (vh hs 120 rfl rfl) he39) rfl <| Sc (lo [121] [0] rfl fun S hs hr => op_loado' 0 rfl rfl ty121 (vh hs 121 rfl rfl) ((hr 0 rfl).trans rfl) (lget_of he39).2) rfl <| SMw rfl <| SMd rfl <| Sc (lo [123, 124] [] rfl fun S hs hr => op_indexoP (l := l36) hvl0_474 rfl rfl rfl sl122 (vh hs 123 rfl rfl) (vh hs 124 rfl rfl) he40) rfl <| Sc (lo [125] [0] rfl fun S hs hr => op_loado' 0 rfl rfl ty121 (vh hs 125 rfl rfl) ((hr 0 rfl).trans rfl) (lget_of he40).2) rfl <| Sc (lo [113, 114] [] rfl fun S hs hr => op_indexoP (l := l36) hvl0_474 rfl rfl rfl sl122 (vh hs 113 rfl rfl) (vh hs 114 rfl rfl) he41) rfl <| Sc (locr [127, 122] [0] rfl fun S hs hr => op_storeo' 0 rfl rfl ty121 (vh hs 127 rfl rfl) ((hr 0 rfl).trans rfl) (lget_of he41).2 (vh hs 122 rfl rfl)) rfl <| Sc (lo [115, 117] [] rfl fun S hs hr => op_indexoP (l := (List.set l36 k37.toNat e39)) hvl0_474 (by simp) rfl rfl sl122 (vh hs 115 rfl rfl) (vh hs 117 rfl rfl) he42) rfl <| Sc (locr [128, 126] [0] rfl fun S hs hr => op_storeo' 0 rfl rfl ty121 (vh hs 128 rfl rfl) ((hr 0 rfl).trans rfl) (lget_of he42).2 (vh hs 126 rfl rfl)) rfl <| Rg <| Md rfl <| Ac (op_sub rfl rfl (vt rfl) (vk rfl)) rfl <| As rfl <| Nl ?_
              subst hgo4
              exact ⟨(m38, (List.set (List.set l36 k37.toNat e39) (IntKind.i64.wrap (k37 - 1)).toNat e40), (IntKind.i64.wrap (k37 - 1))), Nat.lt_succ_self _, ⟨trivial, h⟩, ⟨rfl, ⟨rfl, rfl, rfl, trivial⟩, ⟨rfl, trivial⟩⟩⟩
            · have h := cond_f hc h
              refine AW.exit <| AW.ret ?_
              obtain rfl := si h
              exact ret0Y (i := 0) Tryz.results311 rfl rfl
    · have h := cond_f hc h
      refine AW.skip <| AW.seq ?_
      obtain ⟨q43, hq43, h⟩ := bsome h
      refine Rg <| Md rfl <| Md rfl <| Ac (op_add rfl rfl (vt rfl) (vt rfl)) rfl <| Ac (op_convu rfl rfl us3 un360 (vt rfl)) rfl <| Ac (op_ushr rfl rfl (vt rfl) (vu64 (vku (1 : BitVec 64) rfl)) hq43) rfl <| Ac (op_uconv rfl rfl us360 un3 (vt rfl)) rfl <| As rfl <| Nl <| SR <| Md rfl <| Md rfl <| Ac (op_add rfl rfl (vt rfl) (vt rfl)) rfl <| As rfl <| Nl <| SR <| Ak rfl <| Ak rfl <| Nl ?_
      refine AW.join (d := []) (ν := Int × Int) (fun n => F_slices_symMergeCmpFunc_Action_s_j5 data1 q43 m4 cmp6 a3 R_slices_symMergeCmpFunc_Action b5 n.1 n.2 = some r) (fun n => [(0, raw v2), (1, rd (kint .i64) a3), (2, rd (kint .i64) m4), (3, rd (kint .i64) b5), (4, fn2 Tryz.prog kAction kAction (kint .i64) cmp6), (18, rd (kint .i64) (IntKind.i64.wrap (q43.toNat : Int))), (19, rd (kint .i64) (IntKind.i64.wrap ((IntKind.i64.wrap (q43.toNat : Int)) + m4))), (20, rd (kint .i64) n.1), (21, rd (kint .i64) n.2)]) (fun n => [(0, Row v2 121 kAction data1)]) ?hx5 ?hy5
      case hy5 =>
        rintro ⟨start44, r45⟩ h
        unfold F_slices_symMergeCmpFunc_Action_s_j5 at h
        change AW _ _ _ ⟨slots [(0, raw v2), (1, rd (kint .i64) a3), (2, rd (kint .i64) m4), (3, rd (kint .i64) b5), (4, fn2 Tryz.prog kAction kAction (kint .i64) cmp6), (18, rd (kint .i64) (IntKind.i64.wrap (q43.toNat : Int))), (19, rd (kint .i64) (IntKind.i64.wrap ((IntKind.i64.wrap (q43.toNat : Int)) + m4))), (20, rd (kint .i64) start44), (21, rd (kint .i64) r45)], ress [(0, Row v2 121 kAction data1)], _⟩
        refine SR <| Md rfl <| Ac (op_sub rfl rfl (vt rfl) (vk rfl)) rfl <| As rfl <| Nl <| AW.seq <| AW.block <| AW.loopG (d := []) (ν := Nat × Int × Int) (fun n => True ∧ F_slices_symMergeCmpFunc_Action_s_l6 data1 q43 m4 cmp6 a3 R_slices_symMergeCmpFunc_Action b5 n.1 n.2.1 n.2.2 = some r) (fun n => n.1) (fun n => [(0, raw v2), (1, rd (kint .i64) a3), (2, rd (kint .i64) m4), (3, rd (kint .i64) b5), (4, fn2 Tryz.prog kAction kAction (kint .i64) cmp6), (18, rd (kint .i64) (IntKind.i64.wrap (q43.toNat : Int))), (19, rd (kint .i64) (IntKind.i64.wrap ((IntKind.i64.wrap (q43.toNat : Int)) + m4))), (20, rd (kint .i64) n.2.1), (21, rd (kint .i64) n.2.2), (22, rd (kint .i64) (IntKind.i64.wrap ((IntKind.i64.wrap ((IntKind.i64.wrap (q43.toNat : Int)) + m4)) - 1)))]) (fun n => [(0, Row v2 121 kAction data1)]) ((((r45 : Int) - start44).toNat + 1), start44, r45) ⟨trivial, h⟩ ⟨rfl, ⟨rfl, rfl, rfl, rfl, rfl, rfl, rfl, rfl, rfl, rfl, trivial⟩, ⟨rfl, trivial⟩⟩ ?_
        rintro ⟨m50, start48, r49⟩ ⟨hsf6, h⟩
        change True at hsf6
        change F_slices_symMergeCmpFunc_Action_s_l6 data1 q43 m4 cmp6 a3 R_slices_symMergeCmpFunc_Action b5 m50 start48 r49 = some r at h
        change AW _ _ _ ⟨slots [(0, raw v2), (1, rd (kint .i64) a3), (2, rd (kint .i64) m4), (3, rd (kint .i64) b5), (4, fn2 Tryz.prog kAction kAction (kint .i64) cmp6), (18, rd (kint .i64) (IntKind.i64.wrap (q43.toNat : Int))), (19, rd (kint .i64) (IntKind.i64.wrap ((IntKind.i64.wrap (q43.toNat : Int)) + m4))), (20, rd (kint .i64) start48), (21, rd (kint .i64) r49), (22, rd (kint .i64) (IntKind.i64.wrap ((IntKind.i64.wrap ((IntKind.i64.wrap (q43.toNat : Int)) + m4)) - 1)))], ress [(0, Row v2 121 kAction data1)], _⟩
        cases m50 with
        | zero => cases h
        | succ m50 =>
          unfold F_slices_symMergeCmpFunc_Action_s_l6 at h
          generalize hgo6 : F_slices_symMergeCmpFunc_Action_s_l6 data1 q43 m4 cmp6 a3 R_slices_symMergeCmpFunc_Action b5 m50 = go6 at h
          refine AW.seq <| SR <| Md rfl <| Md rfl <| Ac (op_lss rfl rfl (vt rfl) (vt rfl)) rfl <| Nl <| Cn rfl (fun hc => ?_) (fun hc => ?_)
          · have h := cond_t hc h
            refine AW.skip <| AW.block <| AW.seq ?_
            obtain ⟨q51, hq51, h⟩ := bsome h
            refine Rg <| Md rfl <| Md rfl <| Ac (op_add rfl rfl (vt rfl) (vt rfl)) rfl <| Ac (op_convu rfl rfl us3 un360 (vt rfl)) rfl <| Ac (op_ushr rfl rfl (vt rfl) (vu64 (vku (1 : BitVec 64) rfl)) hq51) rfl <| Ac (op_uconv rfl rfl us360 un3 (vt rfl)) rfl <| As rfl <| Nl <| AW.seq ?_
            obtain ⟨e52, he52, h⟩ := bsome h
            obtain ⟨e53, he53, h⟩ := bsome h
            obtain ⟨x54, hx54, h⟩ := bsome h
            refine AW.regionAny [⟨[4], [158], [], []⟩, ⟨[0], [159], [], []⟩, ⟨[22], [160], [], []⟩, ⟨[23], [161], [], []⟩, ⟨[160, 161], [162], [], []⟩, ⟨[159, 162], [163], [0], []⟩, ⟨[163], [164], [0], []⟩, ⟨[0], [165], [], []⟩, ⟨[23], [166], [], []⟩, ⟨[165, 166], [167], [0], []⟩, ⟨[167], [168], [0], []⟩, ⟨[158, 164, 168], [169], [], []⟩, ⟨[169], [170], [], []⟩, ⟨[170], [171], [], []⟩] mixed (by kernel_rfl) <| Sc (lo [4] [] rfl fun S hs hr => op_move (A := fn2 Tryz.prog kAction kAction (kint .i64) cmp6) rfl rfl (vh hs 4 rfl rfl)) rfl <| SMw rfl <| SMd rfl <| SMd rfl <| Sc (lo [160, 161] [] rfl fun S hs hr => op_sub rfl rfl (vh hs 160 rfl rfl) (vh hs 161 rfl rfl)) rfl <| Sc (lo [159, 162] [0] rfl fun S hs hr => op_indexo' 0 rfl rfl sl122 (vh hs 159 rfl rfl) ((hr 0 rfl).trans rfl) (vh hs 162 rfl rfl) he52) rfl <| Sc (lo [163] [0] rfl fun S hs hr => op_loado' 0 rfl rfl ty121 (vh hs 163 rfl rfl) ((hr 0 rfl).trans rfl) (lget_of he52).2) rfl <| SMw rfl <| SMd rfl <| Sc (lo [165, 166] [0] rfl fun S hs hr => op_indexo' 0 rfl rfl sl122 (vh hs 165 rfl rfl) ((hr 0 rfl).trans rfl) (vh hs 166 rfl rfl) he53) rfl <| Sc (lo [167] [0] rfl fun S hs hr => op_loado' 0 rfl rfl ty121 (vh hs 167 rfl rfl) ((hr 0 rfl).trans rfl) (lget_of he53).2) rfl <| Sc (lo [158, 164, 168] [] rfl fun S hs hr => op_call2 hx54 rfl rfl (vh hs 158 rfl rfl) (vh hs 164 rfl rfl) (vh hs 168 rfl rfl)) rfl <| Sc (lo [169] [] rfl fun S hs hr => op_lss rfl rfl (vh hs 169 rfl rfl) (vk rfl)) rfl <| Sc (lo [170] [] rfl fun S hs hr => op_not rfl rfl (vh hs 170 rfl rfl)) rfl <| Cn rfl (fun hc => ?_) (fun hc => ?_)
            · have h := cond_t hc h
              refine Rg <| Md rfl <| Ac (op_add rfl rfl (vt rfl) (vk rfl)) rfl <| As rfl <| Nl ?_
              subst hgo6
              exact ⟨(m50, (IntKind.i64.wrap ((IntKind.i64.wrap (q51.toNat : Int)) + 1)), r49), Nat.lt_succ_self _, ⟨trivial, h⟩, ⟨rfl, ⟨rfl, rfl, rfl, rfl, rfl, rfl, rfl, rfl, rfl, rfl, trivial⟩, ⟨rfl, trivial⟩⟩⟩
            · have h := cond_f hc h
              refine Rg <| Md rfl <| As rfl <| Nl ?_
              subst hgo6
              exact ⟨(m50, start48, (IntKind.i64.wrap (q51.toNat : Int))), Nat.lt_succ_self _, ⟨trivial, h⟩, ⟨rfl, ⟨rfl, rfl, rfl, rfl, rfl, rfl, rfl, rfl, rfl, rfl, trivial⟩, ⟨rfl, trivial⟩⟩⟩
          · have h := cond_f hc h
            refine AW.exit <| SR <| Md rfl <| Md rfl <| Ac (op_sub rfl rfl (vt rfl) (vt rfl)) rfl <| As rfl <| Nl ?_
            refine AW.join (d := []) (ν := (List Action)) (fun n => F_slices_symMergeCmpFunc_Action_s_j7 a3 start48 q43 R_slices_symMergeCmpFunc_Action cmp6 m4 b5 n = some r) (fun n => [(0, raw v2), (1, rd (kint .i64) a3), (3, rd (kint .i64) b5), (4, fn2 Tryz.prog kAction kAction (kint .i64) cmp6), (18, rd (kint .i64) (IntKind.i64.wrap (q43.toNat : Int))), (20, rd (kint .i64) start48), (24, rd (kint .i64) (IntKind.i64.wrap ((IntKind.i64.wrap ((IntKind.i64.wrap (q43.toNat : Int)) + m4)) - start48)))]) (fun n => [(0, Row v2 121 kAction n)]) ?hx7 ?hy7
            case hy7 =>
              intro l55 h
              unfold F_slices_symMergeCmpFunc_Action_s_j7 at h
              change AW _ _ _ ⟨slots [(0, raw v2), (1, rd (kint .i64) a3), (3, rd (kint .i64) b5), (4, fn2 Tryz.prog kAction kAction (kint .i64) cmp6), (18, rd (kint .i64) (IntKind.i64.wrap (q43.toNat : Int))), (20, rd (kint .i64) start48), (24, rd (kint .i64) (IntKind.i64.wrap ((IntKind.i64.wrap ((IntKind.i64.wrap (q43.toNat : Int)) + m4)) - start48)))], ress [(0, Row v2 121 kAction l55)], _⟩
              refine AW.join (d := []) (ν := (List Action)) (fun n => F_slices_symMergeCmpFunc_Action_s_j8 q43 m4 start48 b5 R_slices_symMergeCmpFunc_Action cmp6 n = some r) (fun n => [(0, raw v2), (3, rd (kint .i64) b5), (4, fn2 Tryz.prog kAction kAction (kint .i64) cmp6), (18, rd (kint .i64) (IntKind.i64.wrap (q43.toNat : Int))), (24, rd (kint .i64) (IntKind.i64.wrap ((IntKind.i64.wrap ((IntKind.i64.wrap (q43.toNat : Int)) + m4)) - start48)))]) (fun n => [(0, Row v2 121 kAction n)]) ?hx8 ?hy8
              case hy8 =>
                intro l56 h
                unfold F_slices_symMergeCmpFunc_Action_s_j8 at h
                change AW _ _ _ ⟨slots [(0, raw v2), (3, rd (kint .i64) b5), (4, fn2 Tryz.prog kAction kAction (kint .i64) cmp6), (18, rd (kint .i64) (IntKind.i64.wrap (q43.toNat : Int))), (24, rd (kint .i64) (IntKind.i64.wrap ((IntKind.i64.wrap ((IntKind.i64.wrap (q43.toNat : Int)) + m4)) - start48)))], ress [(0, Row v2 121 kAction l56)], _⟩
                refine SR <| Md rfl <| Md rfl <| Ac (op_lss rfl rfl (vt rfl) (vt rfl)) rfl <| Md rfl <| Gd rfl (fun hq => op_move (A := rd (kint .i64) (IntKind.i64.wrap ((IntKind.i64.wrap ((IntKind.i64.wrap (q43.toNat : Int)) + m4)) - start48))) rfl rfl (vt rfl)) <| Gd rfl (fun hq => op_move (A := rd (kint .i64) b5) rfl rfl (vt rfl)) <| Gd rfl (fun hq => op_lss rfl rfl (vgt rfl hq) (vgt rfl hq)) <| Ac (op_all rfl rfl (vt rfl) (vt rfl)) rfl <| Nl <| Cn rfl (fun hc => ?_) (fun hc => ?_)
                · have h := cond_t hc h
                  obtain ⟨l57, hl57, h⟩ := bsome h
                  refine Rg <| Mw rfl <| Md rfl <| Md rfl <| Md rfl <| Ac (op_move (A := fn2 Tryz.prog kAction kAction (kint .i64) cmp6) rfl rfl (vt rfl)) rfl <| Ct rfl (op_callR 0 (xs := [.tmp 214, .tmp 215, .tmp 216, .tmp 217, .tmp 218]) (hR_slices_symMergeCmpFunc_Action _ _ _ _ _ _ _ hl57) e311 rfl rfl ⟨vt rfl, vt rfl, vt rfl, vt rfl, vt rfl, trivial⟩ rfl) ?_
                  rintro _ ⟨_u, rfl⟩
                  refine Nl ?_
                  obtain rfl := si h
                  exact ret0Y (i := 0) Tryz.results311 rfl rfl
                · have h := cond_f hc h
                  refine AW.skip ?_
                  obtain rfl := si h
                  exact ret0Y (i := 0) Tryz.results311 rfl rfl
              case hx8 =>
                refine SR <| Md rfl <| Md rfl <| Ac (op_lss rfl rfl (vt rfl) (vt rfl)) rfl <| Md rfl <| Gd rfl (fun hq => op_move (A := rd (kint .i64) start48) rfl rfl (vt rfl)) <| Gd rfl (fun hq => op_move (A := rd (kint .i64) (IntKind.i64.wrap (q43.toNat : Int))) rfl rfl (vt rfl)) <| Gd rfl (fun hq => op_lss rfl rfl (vgt rfl hq) (vgt rfl hq)) <| Ac (op_all rfl rfl (vt rfl) (vt rfl)) rfl <| Nl <| Cn rfl (fun hc => ?_) (fun hc => ?_)
                · have h := cond_t hc h
                  obtain ⟨l58, hl58, h⟩ := bsome h
                  refine Rg <| Mw rfl <| Md rfl <| Md rfl <| Md rfl <| Ac (op_move (A := fn2 Tryz.prog kAction kAction (kint .i64) cmp6) rfl rfl (vt rfl)) rfl <| Ct rfl (op_callR 0 (xs := [.tmp 200, .tmp 201, .tmp 202, .tmp 203, .tmp 204]) (hR_slices_symMergeCmpFunc_Action _ _ _ _ _ _ _ hl58) e311 rfl rfl ⟨vt rfl, vt rfl, vt rfl, vt rfl, vt rfl, trivial⟩ rfl) ?_
                  rintro _ ⟨_u, rfl⟩
                  refine Nl ?_
                  exact ⟨l58, h, ⟨rfl, ⟨rfl, rfl, rfl, rfl, rfl, trivial⟩, ⟨rfl, trivial⟩⟩⟩
                · have h := cond_f hc h
                  refine AW.skip ?_
                  exact ⟨l55, h, ⟨rfl, ⟨rfl, rfl, rfl, rfl, rfl, trivial⟩, ⟨rfl, trivial⟩⟩⟩
            case hx7 =>
              refine SR <| Md rfl <| Md rfl <| Ac (op_lss rfl rfl (vt rfl) (vt rfl)) rfl <| Md rfl <| Gd rfl (fun hq => op_move (A := rd (kint .i64) m4) rfl rfl (vt rfl)) <| Gd rfl (fun hq => op_move (A := rd (kint .i64) (IntKind.i64.wrap ((IntKind.i64.wrap ((IntKind.i64.wrap (q43.toNat : Int)) + m4)) - start48))) rfl rfl (vt rfl)) <| Gd rfl (fun hq => op_lss rfl rfl (vgt rfl hq) (vgt rfl hq)) <| Ac (op_all rfl rfl (vt rfl) (vt rfl)) rfl <| Nl <| Cn rfl (fun hc => ?_) (fun hc => ?_)
              · have h := cond_t hc h
                obtain ⟨l59, hl59, h⟩ := bsome h
                refine Rg <| Mw rfl <| Md rfl <| Md rfl <| Md rfl <| Ac (op_move (A := fn2 Tryz.prog kAction kAction (kint .i64) cmp6) rfl rfl (vt rfl)) rfl <| Ct rfl (op_callR 0 (xs := [.tmp 186, .tmp 187, .tmp 188, .tmp 189, .tmp 190]) (c_slices_rotateCmpFunc_Action_o _ _ _ _ _ _ _ hl59) e335 rfl rfl ⟨vt rfl, vt rfl, vt rfl, vt rfl, vt rfl, trivial⟩ rfl) ?_
                rintro _ ⟨_u, rfl⟩
                refine Nl ?_
                exact ⟨l59, h, ⟨rfl, ⟨rfl, rfl, rfl, rfl, rfl, rfl, rfl, trivial⟩, ⟨rfl, trivial⟩⟩⟩
              · have h := cond_f hc h
                refine AW.skip ?_
                exact ⟨data1, h, ⟨rfl, ⟨rfl, rfl, rfl, rfl, rfl, rfl, rfl, trivial⟩, ⟨rfl, trivial⟩⟩⟩
      case hx5 =>
        refine SR <| Md rfl <| Md rfl <| Ac (op_gtr rfl rfl (vt rfl) (vt rfl)) rfl <| Nl <| Cn rfl (fun hc => ?_) (fun hc => ?_)
        · have h := cond_t hc h
          refine SR <| Md rfl <| Md rfl <| Ac (op_sub rfl rfl (vt rfl) (vt rfl)) rfl <| As rfl <| Nl <| Rg <| Md rfl <| As rfl <| Nl ?_
          exact ⟨((IntKind.i64.wrap ((IntKind.i64.wrap ((IntKind.i64.wrap (q43.toNat : Int)) + m4)) - b5)), (IntKind.i64.wrap (q43.toNat : Int))), h, ⟨rfl, ⟨rfl, rfl, rfl, rfl, rfl, rfl, rfl, rfl, rfl, trivial⟩, ⟨rfl, trivial⟩⟩⟩
        · have h := cond_f hc h
          refine SR <| Md rfl <| As rfl <| Nl <| Rg <| Md rfl <| As rfl <| Nl ?_
          exact ⟨(a3, m4), h, ⟨rfl, ⟨rfl, rfl, rfl, rfl, rfl, rfl, rfl, rfl, rfl, trivial⟩, ⟨rfl, trivial⟩⟩⟩
def FR_slices_symMergeCmpFunc_Action : Nat → ((List Action) → Int → Int → Int → (Action → Action → Option Int) → Option (List Action))
  | 0 => (fun _ _ _ _ _ => none)
  | n + 1 => (F_slices_symMergeCmpFunc_Action_s (FR_slices_symMergeCmpFunc_Action n))
theorem cR_slices_symMergeCmpFunc_Action : ∀ n : Nat, (∀ (v2 : Value) (data1 : (List Action)) (a3 : Int) (m4 : Int) (b5 : Int) (cmp6 : (Action → Action → Option Int)) (r : (List Action)), (FR_slices_symMergeCmpFunc_Action n) data1 a3 m4 b5 cmp6 = some r → Con Tryz.prog 311 [raw v2, rd (kint .i64) a3, rd (kint .i64) m4, rd (kint .i64) b5, fn2 Tryz.prog kAction kAction (kint .i64) cmp6] (Row v2 121 kAction data1) (fun _ : Unit => top) (fun _ => Row v2 121 kAction r))
  | 0 => (by intros; rename_i h; cases h)
  | n + 1 => by
    have ih := cR_slices_symMergeCmpFunc_Action n
    exact (c_slices_symMergeCmpFunc_Action_s (FR_slices_symMergeCmpFunc_Action n) ih)
def F_slices_symMergeCmpFunc_Action (data1 : (List Action)) (a3 : Int) (m4 : Int) (b5 : Int) (cmp6 : (Action → Action → Option Int)) : Option (List Action) := (FR_slices_symMergeCmpFunc_Action fuel0) data1 a3 m4 b5 cmp6
theorem c_slices_symMergeCmpFunc_Action_o : ∀ (v2 : Value) (data1 : (List Action)) (a3 : Int) (m4 : Int) (b5 : Int) (cmp6 : (Action → Action → Option Int)) (r : (List Action)), F_slices_symMergeCmpFunc_Action data1 a3 m4 b5 cmp6 = some r → Con Tryz.prog 311 [raw v2, rd (kint .i64) a3, rd (kint .i64) m4, rd (kint .i64) b5, fn2 Tryz.prog kAction kAction (kint .i64) cmp6] (Row v2 121 kAction data1) (fun _ : Unit => top) (fun _ => Row v2 121 kAction r) := cR_slices_symMergeCmpFunc_Action fuel0
def F_slices_stableCmpFunc_Action_l3 (n3 : Int) (blockSize17 : Int) (cmp4 : (Action → Action → Option Int)) (go2 : (List Action) → Int → Option (List Action)) : Nat → (List Action) → Int → Int → Option (List Action)
  | 0, _, _, _ => none
  | m25 + 1, l22, a23, b24 => (bif (decide (b24 ≤ n3)) then (F_slices_symMergeCmpFunc_Action l22 a23 (IntKind.i64.wrap (a23 + blockSize17)) b24 cmp4).bind fun l26 => (F_slices_stableCmpFunc_Action_l3 n3 blockSize17 cmp4 go2 m25) l26 b24 (IntKind.i64.wrap (b24 + (IntKind.i64.wrap (2 * blockSize17)))) else (bif (decide ((IntKind.i64.wrap (a23 + blockSize17)) < n3)) then (F_slices_symMergeCmpFunc_Action l22 a23 (IntKind.i64.wrap (a23 + blockSize17)) n3 cmp4).bind fun l27 => go2 l27 (IntKind.i64.wrap (blockSize17 * 2)) else go2 l22 (IntKind.i64.wrap (blockSize17 * 2))))
def F_slices_stableCmpFunc_Action_l2 (n3 : Int) (cmp4 : (Action → Action → Option Int)) : Nat → (List Action) → Int → Option (List Action)
  | 0, _, _ => none
  | m18 + 1, l16, blockSize17 => (bif (decide (blockSize17 < n3)) then F_slices_stableCmpFunc_Action_l3 n3 blockSize17 cmp4 (F_slices_stableCmpFunc_Action_l2 n3 cmp4 m18) (((n3 : Int) - (IntKind.i64.wrap (2 * blockSize17))).toNat + 2) l16 0 (IntKind.i64.wrap (2 * blockSize17)) else some l16)
def F_slices_stableCmpFunc_Action_l1 (n3 : Int) (cmp4 : (Action → Action → Option Int)) : Nat → (List Action) → Int → Int → Option (List Action)
  | 0, _, _, _ => none
  | m11 + 1, l8, a9, b10 => (bif (decide (b10 ≤ n3)) then (F_slices_insertionSortCmpFunc_Action l8 a9 b10 cmp4).bind fun l12 => (F_slices_stableCmpFunc_Action_l1 n3 cmp4 m11) l12 b10 (IntKind.i64.wrap (b10 + 20)) else (F_slices_insertionSortCmpFunc_Action l8 a9 n3 cmp4).bind fun l13 => F_slices_stableCmpFunc_Action_l2 n3 cmp4 (((n3 : Int) - 20).toNat + 1) l13 20)
def F_slices_stableCmpFunc_Action (data1 : (List Action)) (n3 : Int) (cmp4 : (Action → Action → Option Int)) : Option (List Action) :=
  F_slices_stableCmpFunc_Action_l1 n3 cmp4 (((n3 : Int) - 20).toNat + 2) data1 0 20
theorem c_slices_stableCmpFunc_Action_o (v2 : Value) (data1 : (List Action)) (n3 : Int) (cmp4 : (Action → Action → Option Int)) (r : (List Action)) (h : F_slices_stableCmpFunc_Action data1 n3 cmp4 = some r) : Con Tryz.prog 274 [raw v2, rd (kint .i64) n3, fn2 Tryz.prog kAction kAction (kint .i64) cmp4] (Row v2 121 kAction data1) (fun _ : Unit => top) (fun _ => Row v2 121 kAction r) := by
  refine Con.intro Tryz.func274 rfl Tryz.ntmps274 rfl fun w H X => ?_
  unfold F_slices_stableCmpFunc_Action at h
  refine SR <| Ak rfl <| Nl <| SR <| Md rfl <| Ak rfl <| As rfl <| Nl <| AW.seq <| AW.block <| AW.loopG (d := []) (ν := Nat × (List Action) × Int × Int) (fun n => True ∧ F_slices_stableCmpFunc_Action_l1 n3 cmp4 n.1 n.2.1 n.2.2.1 n.2.2.2 = some r) (fun n => n.1) (fun n => [(0, raw v2), (1, rd (kint .i64) n3), (2, fn2 Tryz.prog kAction kAction (kint .i64) cmp4), (6, rd (kint .i64) 20), (7, rd (kint .i64) n.2.2.1), (8, rd (kint .i64) n.2.2.2)]) (fun n => [(0, Row v2 121 kAction n.2.1)]) ((((n3 : Int) - 20).toNat + 2), data1, 0, 20) ⟨trivial, h⟩ ⟨rfl, ⟨rfl, rfl, rfl, rfl, rfl, rfl, trivial⟩, ⟨rfl, trivial⟩⟩ ?_
  rintro ⟨m11, l8, a9, b10⟩ ⟨hsf1, h⟩
  change True at hsf1
  change F_slices_stableCmpFunc_Action_l1 n3 cmp4 m11 l8 a9 b10 = some r at h
  change AW _ _ _ ⟨slots [(0, raw v2), (1, rd (kint .i64) n3), (2, fn2 Tryz.prog kAction kAction (kint .i64) cmp4), (6, rd (kint .i64) 20), (7, rd (kint .i64) a9), (8, rd (kint .i64) b10)], ress [(0, Row v2 121 kAction l8)], _⟩
  cases m11 with
  | zero => cases h
  | succ m11 =>
    unfold F_slices_stableCmpFunc_Action_l1 at h
    generalize hgo1 : F_slices_stableCmpFunc_Action_l1 n3 cmp4 m11 = go1 at h
    refine AW.seq <| SR <| Md rfl <| Md rfl <| Ac (op_leq rfl rfl (vt rfl) (vt rfl)) rfl <| Nl <| Cn rfl (fun hc => ?_) (fun hc => ?_)
    · have h := cond_t hc h
      refine AW.skip <| AW.block <| AW.seq ?_
      obtain ⟨l12, hl12, h⟩ := bsome h
      refine Rg <| Mw rfl <| Md rfl <| Md rfl <| Ac (op_move (A := fn2 Tryz.prog kAction kAction (kint .i64) cmp4) rfl rfl (vt rfl)) rfl <| Ct rfl (op_callR 0 (xs := [.tmp 14, .tmp 15, .tmp 16, .tmp 17]) (c_slices_insertionSortCmpFunc_Action_o _ _ _ _ _ _ hl12) e310 rfl rfl ⟨vt rfl, vt rfl, vt rfl, vt rfl, trivial⟩ rfl) ?_
      rintro _ ⟨_u, rfl⟩
      refine Nl <| SR <| Md rfl <| As rfl <| Nl <| Rg <| Md rfl <| Md rfl <| Ac (op_add rfl rfl (vt rfl) (vt rfl)) rfl <| As rfl <| Nl ?_
      subst hgo1
      exact ⟨(m11, l12, b10, (IntKind.i64.wrap (b10 + 20))), Nat.lt_succ_self _, ⟨trivial, h⟩, ⟨rfl, ⟨rfl, rfl, rfl, rfl, rfl, rfl, trivial⟩, ⟨rfl, trivial⟩⟩⟩
    · have h := cond_f hc h
      refine AW.exit <| AW.seq ?_
      obtain ⟨l13, hl13, h⟩ := bsome h
      refine Rg <| Mw rfl <| Md rfl <| Md rfl <| Ac (op_move (A := fn2 Tryz.prog kAction kAction (kint .i64) cmp4) rfl rfl (vt rfl)) rfl <| Ct rfl (op_callR 0 (xs := [.tmp 23, .tmp 24, .tmp 25, .tmp 26]) (c_slices_insertionSortCmpFunc_Action_o _ _ _ _ _ _ hl13) e310 rfl rfl ⟨vt rfl, vt rfl, vt rfl, vt rfl, trivial⟩ rfl) ?_
      rintro _ ⟨_u, rfl⟩
      refine Nl <| AW.block <| AW.loopG (d := []) (ν := Nat × (List Action) × Int) (fun n => True ∧ F_slices_stableCmpFunc_Action_l2 n3 cmp4 n.1 n.2.1 n.2.2 = some r) (fun n => n.1) (fun n => [(0, raw v2), (1, rd (kint .i64) n3), (2, fn2 Tryz.prog kAction kAction (kint .i64) cmp4), (6, rd (kint .i64) n.2.2)]) (fun n => [(0, Row v2 121 kAction n.2.1)]) ((((n3 : Int) - 20).toNat + 1), l13, 20) ⟨trivial, h⟩ ⟨rfl, ⟨rfl, rfl, rfl, rfl, trivial⟩, ⟨rfl, trivial⟩⟩ ?_
      rintro ⟨m18, l16, blockSize17⟩ ⟨hsf2, h⟩
      change True at hsf2
      change F_slices_stableCmpFunc_Action_l2 n3 cmp4 m18 l16 blockSize17 = some r at h
      change AW _ _ _ ⟨slots [(0, raw v2), (1, rd (kint .i64) n3), (2, fn2 Tryz.prog kAction kAction (kint .i64) cmp4), (6, rd (kint .i64) blockSize17)], ress [(0, Row v2 121 kAction l16)], _⟩
      cases m18 with
      | zero => cases h
      | succ m18 =>
        unfold F_slices_stableCmpFunc_Action_l2 at h
        generalize hgo2 : F_slices_stableCmpFunc_Action_l2 n3 cmp4 m18 = go2 at h
        refine AW.seq <| SR <| Md rfl <| Md rfl <| Ac (op_lss rfl rfl (vt rfl) (vt rfl)) rfl <| Nl <| Cn rfl (fun hc => ?_) (fun hc => ?_)
        · have h := cond_t hc h
          refine AW.skip <| AW.block <| SR <| Md rfl <| Ac (op_mul rfl rfl (vk rfl) (vt rfl)) rfl <| Ak rfl <| As rfl <| Nl <| AW.seq <| AW.block <| AW.loopG (d := []) (ν := Nat × (List Action) × Int × Int) (fun n => True ∧ F_slices_stableCmpFunc_Action_l3 n3 blockSize17 cmp4 go2 n.1 n.2.1 n.2.2.1 n.2.2.2 = some r) (fun n => n.1) (fun n => [(0, raw v2), (1, rd (kint .i64) n3), (2, fn2 Tryz.prog kAction kAction (kint .i64) cmp4), (6, rd (kint .i64) blockSize17), (7, rd (kint .i64) n.2.2.1), (8, rd (kint .i64) n.2.2.2)]) (fun n => [(0, Row v2 121 kAction n.2.1)]) ((((n3 : Int) - (IntKind.i64.wrap (2 * blockSize17))).toNat + 2), l16, 0, (IntKind.i64.wrap (2 * blockSize17))) ⟨trivial, h⟩ ⟨rfl, ⟨rfl, rfl, rfl, rfl, rfl, rfl, trivial⟩, ⟨rfl, trivial⟩⟩ ?_
          rintro ⟨m25, l22, a23, b24⟩ ⟨hsf3, h⟩
          change True at hsf3
          change F_slices_stableCmpFunc_Action_l3 n3 blockSize17 cmp4 go2 m25 l22 a23 b24 = some r at h
          change AW _ _ _ ⟨slots [(0, raw v2), (1, rd (kint .i64) n3), (2, fn2 Tryz.prog kAction kAction (kint .i64) cmp4), (6, rd (kint .i64) blockSize17), (7, rd (kint .i64) a23), (8, rd (kint .i64) b24)], ress [(0, Row v2 121 kAction l22)], _⟩
          cases m25 with
          | zero => cases h
          | succ m25 =>
            unfold F_slices_stableCmpFunc_Action_l3 at h
            generalize hgo3 : F_slices_stableCmpFunc_Action_l3 n3 blockSize17 cmp4 go2 m25 = go3 at h
            refine AW.seq <| SR <| Md rfl <| Md rfl <| Ac (op_leq rfl rfl (vt rfl) (vt rfl)) rfl <| Nl <| Cn rfl (fun hc => ?_) (fun hc => ?_)
            · have h := cond_t hc h
              refine AW.skip <| AW.block <| AW.seq ?_
              obtain ⟨l26, hl26, h⟩ := bsome h
              refine Rg <| Mw rfl <| Md rfl <| Md rfl <| Md rfl <| Ac (op_add rfl rfl (vt rfl) (vt rfl)) rfl <| Md rfl <| Ac (op_move (A := fn2 Tryz.prog kAction kAction (kint .i64) cmp4) rfl rfl (vt rfl)) rfl <| Ct rfl (op_callR 0 (xs := [.tmp 36, .tmp 37, .tmp 40, .tmp 41, .tmp 42]) (c_slices_symMergeCmpFunc_Action_o _ _ _ _ _ _ _ hl26) e311 rfl rfl ⟨vt rfl, vt rfl, vt rfl, vt rfl, vt rfl, trivial⟩ rfl) ?_
              rintro _ ⟨_u, rfl⟩
              refine Nl <| SR <| Md rfl <| As rfl <| Nl <| Rg <| Md rfl <| Md rfl <| Ac (op_mul rfl rfl (vk rfl) (vt rfl)) rfl <| Ac (op_add rfl rfl (vt rfl) (vt rfl)) rfl <| As rfl <| Nl ?_
              subst hgo3
              exact ⟨(m25, l26, b24, (IntKind.i64.wrap (b24 + (IntKind.i64.wrap (2 * blockSize17))))), Nat.lt_succ_self _, ⟨trivial, h⟩, ⟨rfl, ⟨rfl, rfl, rfl, rfl, rfl, rfl, trivial⟩, ⟨rfl, trivial⟩⟩⟩
            · have h := cond_f hc h
              refine AW.exit <| AW.seq <| SR <| Md rfl <| Md rfl <| Ac (op_add rfl rfl (vt rfl) (vt rfl)) rfl <| As rfl <| Nl <| SR <| Md rfl <| Md rfl <| Ac (op_lss rfl rfl (vt rfl) (vt rfl)) rfl <| Nl <| Cn rfl (fun hc => ?_) (fun hc => ?_)
              · have h := cond_t hc h
                obtain ⟨l27, hl27, h⟩ := bsome h
                refine Rg <| Mw rfl <| Md rfl <| Md rfl <| Md rfl <| Ac (op_move (A := fn2 Tryz.prog kAction kAction (kint .i64) cmp4) rfl rfl (vt rfl)) rfl <| Ct rfl (op_callR 0 (xs := [.tmp 55, .tmp 56, .tmp 57, .tmp 58, .tmp 59]) (c_slices_symMergeCmpFunc_Action_o _ _ _ _ _ _ _ hl27) e311 rfl rfl ⟨vt rfl, vt rfl, vt rfl, vt rfl, vt rfl, trivial⟩ rfl) ?_
                rintro _ ⟨_u, rfl⟩
                refine Nl <| Rg <| Md rfl <| Ac (op_mul rfl rfl (vt rfl) (vk rfl)) rfl <| As rfl <| Nl ?_
                subst hgo2
                exact ⟨(m18, l27, (IntKind.i64.wrap (blockSize17 * 2))), Nat.lt_succ_self _, ⟨trivial, h⟩, ⟨rfl, ⟨rfl, rfl, rfl, rfl, trivial⟩, ⟨rfl, trivial⟩⟩⟩
              · have h := cond_f hc h
                refine AW.skip <| Rg <| Md rfl <| Ac (op_mul rfl rfl (vt rfl) (vk rfl)) rfl <| As rfl <| Nl ?_
                subst hgo2
                exact ⟨(m18, l22, (IntKind.i64.wrap (blockSize17 * 2))), Nat.lt_succ_self _, ⟨trivial, h⟩, ⟨rfl, ⟨rfl, rfl, rfl, rfl, trivial⟩, ⟨rfl, trivial⟩⟩⟩
        · have h := cond_f hc h
          refine AW.exit ?_
          obtain rfl := si h
          exact ret0Y (i := 0) Tryz.results274 rfl rfl
def F_slices_SortStableFunc_Action (x1 : (List Action)) (cmp3 : (Action → Action → Option Int)) : Option (List Action) :=
  (F_slices_stableCmpFunc_Action x1 (x1.length : Int) cmp3).bind fun l4 => some l4
theorem c_slices_SortStableFunc_Action_o (v2 : Value) (x1 : (List Action)) (cmp3 : (Action → Action → Option Int)) (r : (List Action)) (h : F_slices_SortStableFunc_Action x1 cmp3 = some r) : Con Tryz.prog 219 [raw v2, fn2 Tryz.prog kAction kAction (kint .i64) cmp3] (Row v2 121 kAction x1) (fun _ : Unit => top) (fun _ => Row v2 121 kAction r) := by
  refine Con.intro Tryz.func219 rfl Tryz.ntmps219 rfl fun w H X => ?_
  unfold F_slices_SortStableFunc_Action at h
  obtain ⟨l4, hl4, h⟩ := bsome h
  refine Rg <| Mw rfl <| Mw rfl <| Ac (op_leno 0 rfl rfl sl122 (vt rfl) rfl) rfl <| Ac (op_move (A := fn2 Tryz.prog kAction kAction (kint .i64) cmp3) rfl rfl (vt rfl)) rfl <| Ct rfl (op_callR 0 (xs := [.tmp 4, .tmp 6, .tmp 7]) (c_slices_stableCmpFunc_Action_o _ _ _ _ _ hl4) e274 rfl rfl ⟨vt rfl, vt rfl, vt rfl, trivial⟩ rfl) ?_
  rintro _ ⟨_u, rfl⟩
  refine Nl ?_
  obtain rfl := si h
  exact ret0Y (i := 0) Tryz.results219 rfl rfl
def F_aset_List_3 (a1 : Action) (b2 : Action) : Option Int :=
  (F_aset_at a1).bind fun x5 => (F_aset_at b2).bind fun x6 => (F_aset_turn x5.kind).bind fun x9 => (F_aset_turn x6.kind).bind fun x10 => (bif (decide ((IntKind.i64.wrap (x9 - x10)) ≠ 0)) then some (IntKind.i64.wrap (x9 - x10)) else (bif (decide (x5.field < x6.field)) then some (-1) else (bif (decide (x5.field > x6.field)) then some 1 else some 0)))
theorem c_aset_List_3 (a1 : Action) (b2 : Action) (r : Int) (h : F_aset_List_3 a1 b2 = some r) : PCon Tryz.prog 220 [rd kAction a1, rd kAction b2] (rd (kint .i64) r) := by
  refine PCon.of (Con.intro0 Tryz.func220 rfl Tryz.ntmps220 rfl fun w H => ?_)
  unfold F_aset_List_3 at h
  refine SR <| Ct rfl (op_box 3 rfl rfl (vt rfl)) ?_
  rintro _ ⟨g3, rfl⟩
  refine Ct rfl (op_box 4 rfl rfl (vt rfl)) ?_
  rintro _ ⟨g4, rfl⟩
  refine Ak rfl <| Nl <| AW.seq ?_
  obtain ⟨x5, hx5, h⟩ := bsome h
  obtain ⟨x6, hx6, h⟩ := bsome h
  refine AW.regionAny [⟨[2], [8], [3], []⟩, ⟨[8], [9], [], []⟩, ⟨[3], [10], [4], []⟩, ⟨[10], [11], [], []⟩, ⟨[], [5], [], []⟩, ⟨[], [6], [], []⟩, ⟨[5, 9], [5], [], []⟩, ⟨[6, 11], [6], [], []⟩] mixed (by kernel_rfl) <| SLd ty121 3 rfl <| SCl [8] (c_aset_at _ _ hx5) e221 rfl <| SLd ty121 4 rfl <| SCl [10] (c_aset_at _ _ hx6) e221 rfl <| Sc (locs (us := [(5, ownP 275 kaset_spot zaset_spot)]) (ur := []) [] [] rfl fun S hs hr => op_allocO rfl rfl rfl zr275) rfl <| Sc (locs (us := [(6, ownP 275 kaset_spot zaset_spot)]) (ur := []) [] [] rfl fun S hs hr => op_allocO rfl rfl rfl zr275) rfl <| Sc (locs (us := [(5, ownP 275 kaset_spot x5)]) (ur := []) [5, 9] [] rfl fun S hs hr => op_storeO rfl rfl ty275 ((hs 5 rfl).trans rfl) (vh hs 9 rfl rfl)) rfl <| Sc (locs (us := [(6, ownP 275 kaset_spot x6)]) (ur := []) [6, 11] [] rfl fun S hs hr => op_storeO rfl rfl ty275 ((hs 6 rfl).trans rfl) (vh hs 11 rfl rfl)) rfl <| AW.unpackP 5 6 rfl rfl fun g7 => AW.unpackP 6 7 rfl rfl fun g8 => AW.seq <| AW.seq ?_
  obtain ⟨x9, hx9, h⟩ := bsome h
  obtain ⟨x10, hx10, h⟩ := bsome h
  refine AW.regionAny [⟨[5], [12], [], []⟩, ⟨[12], [13], [6], []⟩, ⟨[13], [14], [], []⟩, ⟨[6], [15], [], []⟩, ⟨[15], [16], [7], []⟩, ⟨[16], [17], [], []⟩, ⟨[14, 17], [18], [], []⟩, ⟨[18], [7], [], []⟩] mixed (by kernel_rfl) <| SFd laset_spot_0 fl275_0 rfl <| SLd ty3 6 rfl <| SCl [13] (c_aset_turn _ _ hx9) e218 rfl <| SFd laset_spot_0 fl275_0 rfl <| SLd ty3 7 rfl <| SCl [16] (c_aset_turn _ _ hx10) e218 rfl <| Sc (lo [14, 17] [] rfl fun S hs hr => op_sub rfl rfl (vh hs 14 rfl rfl) (vh hs 17 rfl rfl)) rfl <| SAs rfl <| SR <| Md rfl <| Ac (op_neq rfl rfl (vt rfl) (vk rfl)) rfl <| Nl <| Cn rfl (fun hc => ?_) (fun hc => ?_)
  · have h := cond_t hc h
    refine SR <| Md rfl <| As rfl <| Nl <| AW.ret ?_
    obtain rfl := si h
    exact ret1 Tryz.results220 rfl (out_tmp rfl)
  · have h := cond_f hc h
    refine AW.skip <| AW.seq <| AW.block <| SR <| FdA laset_spot_1 fl275_1 rfl <| Ld ty3 6 rfl <| FdA laset_spot_1 fl275_1 rfl <| Ld ty3 7 rfl <| Ac (op_lss rfl rfl (vt rfl) (vt rfl)) rfl <| As rfl <| Nl <| Cn rfl (fun hc => ?_) (fun hc => ?_)
    · have h := cond_t hc h
      refine SR <| Ak rfl <| Nl <| AW.ret ?_
      obtain rfl := si h
      exact ret1 Tryz.results220 rfl (out_tmp rfl)
    · have h := cond_f hc h
      refine SR <| FdA laset_spot_1 fl275_1 rfl <| Ld ty3 6 rfl <| FdA laset_spot_1 fl275_1 rfl <| Ld ty3 7 rfl <| Ac (op_gtr rfl rfl (vt rfl) (vt rfl)) rfl <| As rfl <| Nl <| Cn rfl (fun hc => ?_) (fun hc => ?_)
      · have h := cond_t hc h
        refine SR <| Ak rfl <| Nl <| AW.ret ?_
        obtain rfl := si h
        exact ret1 Tryz.results220 rfl (out_tmp rfl)
      · have h := cond_f hc h
        refine AW.skip <| SR <| Ak rfl <| Nl <| AW.ret ?_
        obtain rfl := si h
        exact ret1 Tryz.results220 rfl (out_tmp rfl)
def F_aset_List (set1 : (List Action)) : Option (List Action) :=
  (F_slices_ContainsFunc_Action set1 F_aset_List_1).bind fun x2 => (F_slices_Clone_Action set1).bind fun x4 => (F_slices_DeleteFunc_Action x4 (fun x => F_aset_List_2 x x2)).bind fun x6 => (F_slices_SortStableFunc_Action x6 F_aset_List_3).bind fun l8 => some l8
theorem c_aset_List (set1 : (List Action)) (r : (List Action)) (h : F_aset_List set1 = some r) : PCon Tryz.prog 149 [rd (ksl kAction) set1] (rd (ksl kAction) r) := by
  refine PCon.of (Con.intro0 Tryz.func149 rfl Tryz.ntmps149 rfl fun w H => ?_)
  unfold F_aset_List at h
  refine SR <| Ac (op_assign (A := rd (ksl kAction) []) rfl rfl vnil) rfl <| Nl <| AW.seq ?_
  obtain ⟨x2, hx2, h⟩ := bsome h
  refine Rg <| Md rfl <| Ac (op_call (xs := [.tmp 5, .func 214]) (c_slices_ContainsFunc_Action _ _ _ hx2) e213 rfl rfl ⟨vt rfl, vf1 e214 c_aset_List_1, trivial⟩) rfl <| Ct rfl (op_alloc 4 rfl rfl zr4) ?_
  rintro _ ⟨g3, rfl⟩
  refine Sto ty4 4 rfl <| Nl <| AW.seq <| AW.freezeB 3 4 rfl rfl rfl ?_
  obtain ⟨x4, hx4, h⟩ := bsome h
  obtain ⟨x6, hx6, h⟩ := bsome h
  refine Rg <| Md rfl <| Ct rfl (op_callR 1001 (xs := [.tmp 7]) (c_slices_Clone_Action_o _ _ hx4) e216 rfl rfl ⟨vt rfl, trivial⟩ rfl) ?_
  rintro _ ⟨v5, rfl⟩
  refine Ac (op_fn1 (cs := [.tmp 3]) (CAs := [rp kbool x2]) (fun x => F_aset_List_2 x x2) rfl rfl e217 ⟨vt rfl, trivial⟩ (fun x y h => c_aset_List_2 _ _ y h)) rfl <| Ct rfl (op_callR 1001 (xs := [.tmp 8, .tmp 9]) (c_slices_DeleteFunc_Action_o _ _ _ _ hx6) e215 rfl rfl ⟨vt rfl, vt rfl, trivial⟩ rfl) ?_
  rintro _ ⟨v7, rfl⟩
  refine Aw rfl <| Nl <| AW.seq ?_
  obtain ⟨l8, hl8, h⟩ := bsome h
  refine Rg <| Mw rfl <| Ct rfl (op_callR 1001 (xs := [.tmp 11, .func 220]) (c_slices_SortStableFunc_Action_o _ _ _ _ hl8) e219 rfl rfl ⟨vt rfl, vf2 e220 c_aset_List_3, trivial⟩ rfl) ?_
  rintro _ ⟨_u, rfl⟩
  refine Nl <| SR <| Mw rfl <| Aw rfl <| Nl <| AW.freezes [2, 4, 10, 11, 13] 1001 rfl ⟨rfl, rfl, rfl, rfl, rfl, trivial⟩ rfl <| AW.ret ?_
  obtain rfl := si h
  exact ret1 Tryz.results149 rfl (out_tmp rfl)
def F_rewrite_None : Option (Vector Tern 24) :=
  some (Vector.replicate 24 zTern)
theorem c_rewrite_None (r : (Vector Tern 24)) (h : F_rewrite_None = some r) : PCon Tryz.prog 77 [] (rd (karr 24 kTern) r) := by
  refine PCon.of (Con.intro0 Tryz.func77 rfl Tryz.ntmps77 rfl fun w H => ?_)
  unfold F_rewrite_None at h
  refine SR <| Ct rfl (op_alloc 1 rfl rfl zr101) ?_
  rintro _ ⟨g1, rfl⟩
  refine Nl <| SR <| Ac (op_build (ps := []) (x := (Vector.replicate 24 zTern)) rfl rfl rfl (by kernel_rfl) zr101 rfl) rfl <| Sto ty101 1 rfl <| Nl <| AW.ret ?_
  obtain rfl := si h
  exact ret1 Tryz.results77 rfl (out_cell rfl (i := 1) rfl ty101)
def F_rewrite_Clean_1 (i1 : Int) (cp2 : (Vector Tern 24)) : Option Tern :=
  (chk 24 i1).bind fun j4 => (F_tern_Clean (Vector.get cp2 j4)).bind fun x5 => some x5
theorem c_rewrite_Clean_1 (i1 : Int) (cp2 : (Vector Tern 24)) (r : Tern) (h : F_rewrite_Clean_1 i1 cp2 = some r) : PCon Tryz.prog 306 [rd (kint .i64) i1, rp (karr 24 kTern) cp2] (rd kTern r) := by
  refine PCon.of (Con.intro0 Tryz.func306 rfl Tryz.ntmps306 rfl fun w H => ?_)
  unfold F_rewrite_Clean_1 at h
  refine SR <| Ct rfl (op_alloc 4 rfl rfl zr85) ?_
  rintro _ ⟨g3, rfl⟩
  refine Nl <| AW.seq ?_
  obtain ⟨j4, hj4, h⟩ := bsome h
  obtain ⟨x5, hx5, h⟩ := bsome h
  refine Rg <| Md rfl <| Ac (op_indexp' rfl rfl ar101 (vt rfl) (vt rfl) hj4) rfl <| Lp1 ty85 rfl <| Cl [6] (c_tern_Clean _ _ hx5) e127 rfl <| Sto ty85 4 rfl <| Nl <| AW.ret ?_
  obtain rfl := si h
  exact ret1 Tryz.results306 rfl (out_cell rfl (i := 4) rfl ty85)
def F_rewrite_each_Rewrite_l1 (f1 : (Int → Option Tern)) : Nat → Nat → (Vector Tern 24) → Option (Vector Tern 24)
  | 0, i6, b5 => some b5
  | m7 + 1, i6, b5 => (f1 (i6 : Int)).bind fun x8 => (chk 24 (i6 : Int)).bind fun j9 => (F_rewrite_each_Rewrite_l1 f1 m7) (i6 + 1) (Vector.set b5 j9.1 x8 j9.2)
def F_rewrite_each_Rewrite (f1 : (Int → Option Tern)) : Option (Vector Tern 24) :=
  F_rewrite_each_Rewrite_l1 f1 (24 : Int).toNat 0 (Vector.replicate 24 zTern)
theorem c_rewrite_each_Rewrite (f1 : (Int → Option Tern)) (r : (Vector Tern 24)) (h : F_rewrite_each_Rewrite f1 = some r) : PCon Tryz.prog 305 [fn1 Tryz.prog (kint .i64) kTern f1] (rd (karr 24 kTern) r) := by
  refine PCon.of (Con.intro0 Tryz.func305 rfl Tryz.ntmps305 rfl fun w H => ?_)
  unfold F_rewrite_each_Rewrite at h
  refine SR <| Ct rfl (op_alloc 3 rfl rfl zr101) ?_
  rintro _ ⟨g2, rfl⟩
  refine Nl <| SR <| Ct rfl (op_alloc 4 rfl rfl zr101) ?_
  rintro _ ⟨g3, rfl⟩
  refine Nl <| AW.seq <| SR <| Mk rfl <| Nl <| AW.block <| AW.loopG (d := []) (ν := Nat × Nat × (Vector Tern 24)) (fun n => Cnt 24 n.2.1 n.1 ∧ F_rewrite_each_Rewrite_l1 f1 n.1 n.2.1 n.2.2 = some r) (fun n => n.1) (fun n => [(0, fn1 Tryz.prog (kint .i64) kTern f1), (2, ptrL g2 (Lens.id (karr 24 kTern))), (3, ptrL g3 (Lens.id (karr 24 kTern))), (5, rd (kint .i64) (n.2.1 : Int))]) (fun n => [(3, Blk g2 101 (karr 24 kTern) (Vector.replicate 24 zTern)), (4, Blk g3 101 (karr 24 kTern) n.2.2)]) ((24 : Int).toNat, 0, (Vector.replicate 24 zTern)) ⟨Cnt.start _, h⟩ ⟨rfl, ⟨rfl, rfl, rfl, rfl, trivial⟩, ⟨rfl, rfl, trivial⟩⟩ ?_
  rintro ⟨m7, i6, b5⟩ ⟨hsf1, h⟩
  change Cnt 24 i6 m7 at hsf1
  change F_rewrite_each_Rewrite_l1 f1 m7 i6 b5 = some r at h
  change AW _ _ _ ⟨slots [(0, fn1 Tryz.prog (kint .i64) kTern f1), (2, ptrL g2 (Lens.id (karr 24 kTern))), (3, ptrL g3 (Lens.id (karr 24 kTern))), (5, rd (kint .i64) (i6 : Int))], ress [(3, Blk g2 101 (karr 24 kTern) (Vector.replicate 24 zTern)), (4, Blk g3 101 (karr 24 kTern) b5)], _⟩
  cases m7 with
  | zero =>
    unfold F_rewrite_each_Rewrite_l1 at h
    refine SR <| Ac (op_lss rfl rfl (vt rfl) (vk rfl)) rfl <| Nl <| AW.seq <| Cn rfl (fun hc => absurd (of_decide_eq_true hc) hsf1.zero) (fun hc => ?_)
    refine AW.exit <| SR <| Ld ty101 4 rfl <| Sto ty101 3 rfl <| Nl <| AW.ret ?_
    obtain rfl := si h
    exact ret1 Tryz.results305 rfl (out_cell rfl (i := 3) rfl ty101)
  | succ m7 =>
    unfold F_rewrite_each_Rewrite_l1 at h
    generalize hgo1 : F_rewrite_each_Rewrite_l1 f1 m7 = go1 at h
    refine SR <| Ac (op_lss rfl rfl (vt rfl) (vk rfl)) rfl <| Nl <| AW.seq <| Cn rfl (fun hc => ?_) (fun hc => absurd hsf1.succ (of_decide_eq_false hc))
    have hlti6 := of_decide_eq_true hc
    refine AW.skip <| AW.seq <| AW.block <| SR <| Md rfl <| As rfl <| Nl ?_
    obtain ⟨x8, hx8, h⟩ := bsome h
    obtain ⟨j9, hj9, h⟩ := bsome h
    refine Rg <| Md rfl <| Ac (op_move (A := fn1 Tryz.prog (kint .i64) kTern f1) rfl rfl (vt rfl)) rfl <| Md rfl <| Ac (op_call1 hx8 rfl rfl (vt rfl) (vt rfl)) rfl <| Ac (op_index' rfl rfl ar101 (vt rfl) (vt rfl) hj9) rfl <| Sto ty85 4 rfl <| Nl <| Rg <| Ac (op_incrc rfl rfl (vt rfl) (vk rfl) rfl hlti6) rfl <| Md rfl <| Nl ?_
    subst hgo1
    exact ⟨(m7, i6 + 1, (Vector.set b5 j9.1 x8 j9.2)), Nat.lt_succ_self _, ⟨hsf1.next, h⟩, ⟨rfl, ⟨rfl, rfl, rfl, rfl, trivial⟩, ⟨rfl, rfl, trivial⟩⟩⟩
end Go.Proofs.YtknpgojdkobgjaaGreat.W
set_option linter.unusedVariables false
set_option maxRecDepth 4000
set_option linter.unusedSimpArgs false
namespace Go.Proofs.YtknpgojdkobgjaaGreat.W
open Go Go.Wb
theorem e306 : Ent Tryz.prog 306 := Ent.mk Tryz.func306 rfl rfl
theorem e305 : Ent Tryz.prog 305 := Ent.mk Tryz.func305 rfl rfl
theorem e176 : Ent Tryz.prog 176 := Ent.mk Tryz.func176 rfl rfl
theorem e175 : Ent Tryz.prog 175 := Ent.mk Tryz.func175 rfl rfl
theorem e268 : Ent Tryz.prog 268 := Ent.mk Tryz.func268 rfl rfl
theorem e270 : Ent Tryz.prog 270 := Ent.mk Tryz.func270 rfl rfl
theorem e77 : Ent Tryz.prog 77 := Ent.mk Tryz.func77 rfl rfl
theorem e207 : Ent Tryz.prog 207 := Ent.mk Tryz.func207 rfl rfl
theorem e327 : Ent Tryz.prog 327 := Ent.mk Tryz.func327 rfl rfl
theorem e180 : Ent Tryz.prog 180 := Ent.mk Tryz.func180 rfl rfl
theorem e238 : Ent Tryz.prog 238 := Ent.mk Tryz.func238 rfl rfl
theorem e206 : Ent Tryz.prog 206 := Ent.mk Tryz.func206 rfl rfl
theorem e149 : Ent Tryz.prog 149 := Ent.mk Tryz.func149 rfl rfl
theorem e239 : Ent Tryz.prog 239 := Ent.mk Tryz.func239 rfl rfl
def F_rewrite_Clean (r1 : (Vector Tern 24)) : Option (Vector Tern 24) :=
  (F_rewrite_each_Rewrite (fun x => F_rewrite_Clean_1 x r1)).bind fun x4 => some x4
theorem c_rewrite_Clean (r1 : (Vector Tern 24)) (r : (Vector Tern 24)) (h : F_rewrite_Clean r1 = some r) : PCon Tryz.prog 268 [rd (karr 24 kTern) r1] (rd (karr 24 kTern) r) := by
  refine PCon.of (Con.intro0 Tryz.func268 rfl Tryz.ntmps268 rfl fun w H => ?_)
  unfold F_rewrite_Clean at h
  refine SR <| Ct rfl (op_box 2 rfl rfl (vt rfl)) ?_
  rintro _ ⟨g2, rfl⟩
  refine Ct rfl (op_alloc 3 rfl rfl zr101) ?_
  rintro _ ⟨g3, rfl⟩
  refine Nl <| AW.seq <| AW.freezeB 1 2 rfl rfl rfl ?_
  obtain ⟨x4, hx4, h⟩ := bsome h
  refine Rg <| Ac (op_fn1 (cs := [.tmp 1]) (CAs := [rp (karr 24 kTern) r1]) (fun x => F_rewrite_Clean_1 x r1) rfl rfl e306 ⟨vt rfl, trivial⟩ (fun x y h => c_rewrite_Clean_1 _ _ y h)) rfl <| Cl [3] (c_rewrite_each_Rewrite _ _ hx4) e305 rfl <| Sto ty101 3 rfl <| Nl <| AW.ret ?_
  obtain rfl := si h
  exact ret1 Tryz.results268 rfl (out_cell rfl (i := 3) rfl ty101)
def F_wide_Less (a1 : Wide) (b2 : Wide) : Option Wide :=
  some (⟨(a1.Hi &&& ~~~b2.Hi), (a1.Lo &&& ~~~b2.Lo)⟩ : Wide)
theorem c_wide_Less (a1 : Wide) (b2 : Wide) (r : Wide) (h : F_wide_Less a1 b2 = some r) : PCon Tryz.prog 176 [rd kWide a1, rd kWide b2] (rd kWide r) := by
  refine PCon.of (Con.intro0 Tryz.func176 rfl Tryz.ntmps176 rfl fun w H => ?_)
  unfold F_wide_Less at h
  refine SR <| Ct rfl (op_box 3 rfl rfl (vt rfl)) ?_
  rintro _ ⟨g3, rfl⟩
  refine Ct rfl (op_box 4 rfl rfl (vt rfl)) ?_
  rintro _ ⟨g4, rfl⟩
  refine Ct rfl (op_alloc 5 rfl rfl zr42) ?_
  rintro _ ⟨g5, rfl⟩
  refine Nl <| SR <| FdA lWide_0 fl42_0 rfl <| Ld ty40 3 rfl <| FdA lWide_0 fl42_0 rfl <| Ld ty40 4 rfl <| Ac (op_andNot rfl rfl (vt rfl) (vt rfl)) rfl <| FdA lWide_1 fl42_1 rfl <| Ld ty40 3 rfl <| FdA lWide_1 fl42_1 rfl <| Ld ty40 4 rfl <| Ac (op_andNot rfl rfl (vt rfl) (vt rfl)) rfl <| Ac (op_build (ps := [(0, .tmp 9), (1, .tmp 14)]) (x := (⟨(a1.Hi &&& ~~~b2.Hi), (a1.Lo &&& ~~~b2.Lo)⟩ : Wide)) rfl rfl rfl (by kernel_rfl) zr42 ⟨_, _, lWide_0, _, by kernel_rfl, (vt rfl), _, _, lWide_1, _, by kernel_rfl, (vt rfl), rfl⟩) rfl <| Sto ty42 5 rfl <| Nl <| AW.ret ?_
  obtain rfl := si h
  exact ret1 Tryz.results176 rfl (out_cell rfl (i := 5) rfl ty42)
def F_wide_Or (a1 : Wide) (b2 : Wide) : Option Wide :=
  some (⟨(a1.Hi ||| b2.Hi), (a1.Lo ||| b2.Lo)⟩ : Wide)
theorem c_wide_Or (a1 : Wide) (b2 : Wide) (r : Wide) (h : F_wide_Or a1 b2 = some r) : PCon Tryz.prog 175 [rd kWide a1, rd kWide b2] (rd kWide r) := by
  refine PCon.of (Con.intro0 Tryz.func175 rfl Tryz.ntmps175 rfl fun w H => ?_)
  unfold F_wide_Or at h
  refine SR <| Ct rfl (op_box 3 rfl rfl (vt rfl)) ?_
  rintro _ ⟨g3, rfl⟩
  refine Ct rfl (op_box 4 rfl rfl (vt rfl)) ?_
  rintro _ ⟨g4, rfl⟩
  refine Ct rfl (op_alloc 5 rfl rfl zr42) ?_
  rintro _ ⟨g5, rfl⟩
  refine Nl <| SR <| FdA lWide_0 fl42_0 rfl <| Ld ty40 3 rfl <| FdA lWide_0 fl42_0 rfl <| Ld ty40 4 rfl <| Ac (op_or rfl rfl (vt rfl) (vt rfl)) rfl <| FdA lWide_1 fl42_1 rfl <| Ld ty40 3 rfl <| FdA lWide_1 fl42_1 rfl <| Ld ty40 4 rfl <| Ac (op_or rfl rfl (vt rfl) (vt rfl)) rfl <| Ac (op_build (ps := [(0, .tmp 9), (1, .tmp 14)]) (x := (⟨(a1.Hi ||| b2.Hi), (a1.Lo ||| b2.Lo)⟩ : Wide)) rfl rfl rfl (by kernel_rfl) zr42 ⟨_, _, lWide_0, _, by kernel_rfl, (vt rfl), _, _, lWide_1, _, by kernel_rfl, (vt rfl), rfl⟩) rfl <| Sto ty42 5 rfl <| Nl <| AW.ret ?_
  obtain rfl := si h
  exact ret1 Tryz.results175 rfl (out_cell rfl (i := 5) rfl ty42)
def F_rewrite_over (a1 : Tern) (b2 : Tern) : Option Tern :=
  (F_tern_Clean a1).bind fun x6 => (F_tern_Clean b2).bind fun x7 => (F_wide_Less x6.Value x7.Mask).bind fun x8 => (F_wide_Or x8 x7.Value).bind fun x9 => (F_wide_Or x6.Mask x7.Mask).bind fun x10 => some (⟨x9, x10⟩ : Tern)
theorem c_rewrite_over (a1 : Tern) (b2 : Tern) (r : Tern) (h : F_rewrite_over a1 b2 = some r) : PCon Tryz.prog 270 [rd kTern a1, rd kTern b2] (rd kTern r) := by
  refine PCon.of (Con.intro0 Tryz.func270 rfl Tryz.ntmps270 rfl fun w H => ?_)
  unfold F_rewrite_over at h
  refine SR <| Ct rfl (op_box 3 rfl rfl (vt rfl)) ?_
  rintro _ ⟨g3, rfl⟩
  refine Ct rfl (op_box 4 rfl rfl (vt rfl)) ?_
  rintro _ ⟨g4, rfl⟩
  refine Ct rfl (op_alloc 5 rfl rfl zr85) ?_
  rintro _ ⟨g5, rfl⟩
  refine Nl <| AW.seq ?_
  obtain ⟨x6, hx6, h⟩ := bsome h
  obtain ⟨x7, hx7, h⟩ := bsome h
  refine AW.regionAny [⟨[2], [5], [3], []⟩, ⟨[5], [6], [], []⟩, ⟨[3], [7], [4], []⟩, ⟨[7], [8], [], []⟩, ⟨[2, 6], [], [3], [3]⟩, ⟨[3, 8], [], [4], [4]⟩] mixed (by kernel_rfl) <| SLd ty85 3 rfl <| SCl [5] (c_tern_Clean _ _ hx6) e127 rfl <| SLd ty85 4 rfl <| SCl [7] (c_tern_Clean _ _ hx7) e127 rfl <| SSt ty85 3 rfl <| SSt ty85 4 rfl <| AW.seq ?_
  obtain ⟨x8, hx8, h⟩ := bsome h
  obtain ⟨x9, hx9, h⟩ := bsome h
  obtain ⟨x10, hx10, h⟩ := bsome h
  refine AW.regionAny [⟨[2], [9], [], []⟩, ⟨[9], [10], [3], []⟩, ⟨[3], [11], [], []⟩, ⟨[11], [12], [4], []⟩, ⟨[10, 12], [13], [], []⟩, ⟨[3], [14], [], []⟩, ⟨[14], [15], [4], []⟩, ⟨[13, 15], [16], [], []⟩, ⟨[2], [17], [], []⟩, ⟨[17], [18], [3], []⟩, ⟨[3], [19], [], []⟩, ⟨[19], [20], [4], []⟩, ⟨[18, 20], [21], [], []⟩, ⟨[16, 21], [22], [], []⟩, ⟨[4, 22], [], [5], [5]⟩] mixed (by kernel_rfl) <| SFd lTern_0 fl85_0 rfl <| SLd ty42 3 rfl <| SFd lTern_1 fl85_1 rfl <| SLd ty42 4 rfl <| SCl [10, 12] (c_wide_Less _ _ _ hx8) e176 rfl <| SFd lTern_0 fl85_0 rfl <| SLd ty42 4 rfl <| SCl [13, 15] (c_wide_Or _ _ _ hx9) e175 rfl <| SFd lTern_1 fl85_1 rfl <| SLd ty42 3 rfl <| SFd lTern_1 fl85_1 rfl <| SLd ty42 4 rfl <| SCl [18, 20] (c_wide_Or _ _ _ hx10) e175 rfl <| Sc (lo [16, 21] [] rfl fun S hs hr => op_build (ps := [(0, .tmp 16), (1, .tmp 21)]) (x := (⟨x9, x10⟩ : Tern)) rfl rfl rfl (by kernel_rfl) zr85 ⟨_, _, lTern_0, _, by kernel_rfl, (vh hs 16 rfl rfl), _, _, lTern_1, _, by kernel_rfl, (vh hs 21 rfl rfl), rfl⟩) rfl <| SSt ty85 5 rfl <| AW.ret ?_
  obtain rfl := si h
  exact ret1 Tryz.results270 rfl (out_cell rfl (i := 5) rfl ty85)
def F_rewrite_Set (r1 : (Vector Tern 24)) (f2 : Int) (value3 : Wide) (mask4 : Wide) : Option (Vector Tern 24) :=
  (F_rewrite_Clean r1).bind fun x9 => (F_field_Right f2).bind fun x10 => (bif x10 then (chk 24 f2).bind fun j11 => (F_rewrite_over (Vector.get x9 j11) (⟨value3, mask4⟩ : Tern)).bind fun x12 => (chk 24 f2).bind fun j13 => some (Vector.set x9 j13.1 x12 j13.2) else some x9)
theorem c_rewrite_Set (r1 : (Vector Tern 24)) (f2 : Int) (value3 : Wide) (mask4 : Wide) (r : (Vector Tern 24)) (h : F_rewrite_Set r1 f2 value3 mask4 = some r) : PCon Tryz.prog 207 [rd (karr 24 kTern) r1, rd (kint .i64) f2, rd kWide value3, rd kWide mask4] (rd (karr 24 kTern) r) := by
  refine PCon.of (Con.intro0 Tryz.func207 rfl Tryz.ntmps207 rfl fun w H => ?_)
  unfold F_rewrite_Set at h
  refine SR <| Ct rfl (op_box 5 rfl rfl (vt rfl)) ?_
  rintro _ ⟨g5, rfl⟩
  refine Ct rfl (op_box 7 rfl rfl (vt rfl)) ?_
  rintro _ ⟨g6, rfl⟩
  refine Ct rfl (op_box 8 rfl rfl (vt rfl)) ?_
  rintro _ ⟨g7, rfl⟩
  refine Ct rfl (op_alloc 9 rfl rfl zr101) ?_
  rintro _ ⟨g8, rfl⟩
  refine Nl <| AW.seq ?_
  obtain ⟨x9, hx9, h⟩ := bsome h
  refine Rg <| Ld ty101 5 rfl <| Cl [9] (c_rewrite_Clean _ _ hx9) e268 rfl <| Sto ty101 5 rfl <| Nl <| AW.seq <| AW.seq ?_
  obtain ⟨x10, hx10, h⟩ := bsome h
  refine Rg <| Md rfl <| Cl [11] (c_field_Right _ _ hx10) e269 rfl <| Nl <| Cn rfl (fun hc => ?_) (fun hc => ?_)
  · have h := cond_t hc h
    obtain ⟨j11, hj11, h⟩ := bsome h
    obtain ⟨x12, hx12, h⟩ := bsome h
    obtain ⟨j13, hj13, h⟩ := bsome h
    refine AW.regionAny [⟨[1], [13], [], []⟩, ⟨[1], [14], [], []⟩, ⟨[4, 14], [15], [], []⟩, ⟨[15], [16], [5], []⟩, ⟨[6], [17], [7], []⟩, ⟨[7], [18], [8], []⟩, ⟨[17, 18], [19], [], []⟩, ⟨[16, 19], [20], [], []⟩, ⟨[4, 13], [21], [], []⟩, ⟨[21, 20], [], [5], [5]⟩] mixed (by kernel_rfl) <| SMd rfl <| SMd rfl <| Sc (lo [4, 14] [] rfl fun S hs hr => op_index' rfl rfl ar101 (vh hs 4 rfl rfl) (vh hs 14 rfl rfl) hj11) rfl <| SLd ty85 5 rfl <| SLd ty42 7 rfl <| SLd ty42 8 rfl <| Sc (lo [17, 18] [] rfl fun S hs hr => op_build (ps := [(0, .tmp 17), (1, .tmp 18)]) (x := (⟨value3, mask4⟩ : Tern)) rfl rfl rfl (by kernel_rfl) zr85 ⟨_, _, lTern_0, _, by kernel_rfl, (vh hs 17 rfl rfl), _, _, lTern_1, _, by kernel_rfl, (vh hs 18 rfl rfl), rfl⟩) rfl <| SCl [16, 19] (c_rewrite_over _ _ _ hx12) e270 rfl <| Sc (lo [4, 13] [] rfl fun S hs hr => op_index' rfl rfl ar101 (vh hs 4 rfl rfl) (vh hs 13 rfl rfl) hj13) rfl <| SSt ty85 5 rfl <| SR <| Ld ty101 5 rfl <| Sto ty101 9 rfl <| Nl <| AW.ret ?_
    obtain rfl := si h
    exact ret1 Tryz.results207 rfl (out_cell rfl (i := 9) rfl ty101)
  · have h := cond_f hc h
    refine AW.skip <| SR <| Ld ty101 5 rfl <| Sto ty101 9 rfl <| Nl <| AW.ret ?_
    obtain rfl := si h
    exact ret1 Tryz.results207 rfl (out_cell rfl (i := 9) rfl ty101)
def F_wide_Bit (i1 : Int) : Option Wide :=
  (bif ((decide (i1 < 0)) || (decide (i1 > 127))) then some (⟨0, 0⟩ : Wide) else (oquo .i64 i1 64).bind fun q4 => (omod i1 64).bind fun q5 => (oushl (1 : BitVec 64) q5).bind fun q6 => (chk 2 q4).bind fun j7 => some (⟨(Vector.get (Vector.set (Vector.replicate 2 0) j7.1 q6 j7.2) (⟨1, by decide⟩ : _root_.Fin 2)), (Vector.get (Vector.set (Vector.replicate 2 0) j7.1 q6 j7.2) (⟨0, by decide⟩ : _root_.Fin 2))⟩ : Wide))
theorem c_wide_Bit (i1 : Int) (r : Wide) (h : F_wide_Bit i1 = some r) : PCon Tryz.prog 327 [rd (kint .i64) i1] (rd kWide r) := by
  refine PCon.of (Con.intro0 Tryz.func327 rfl Tryz.ntmps327 rfl fun w H => ?_)
  unfold F_wide_Bit at h
  refine SR <| Ct rfl (op_alloc 3 rfl rfl zr42) ?_
  rintro _ ⟨g2, rfl⟩
  refine Nl <| SR <| Ct rfl (op_alloc 4 rfl rfl zr367) ?_
  rintro _ ⟨g3, rfl⟩
  refine Nl <| AW.seq <| SR <| Md rfl <| Ac (op_lss rfl rfl (vt rfl) (vk rfl)) rfl <| Md rfl <| Gd rfl (fun hq => op_move (A := rd (kint .i64) i1) rfl rfl (vt rfl)) <| Gd rfl (fun hq => op_gtr rfl rfl (vgt rfl hq) (vk rfl)) <| Ac (op_any rfl rfl (vt rfl) (vt rfl)) rfl <| Nl <| Cn rfl (fun hc => ?_) (fun hc => ?_)
  · have h := cond_t hc h
    refine SR <| Ac (op_build (ps := []) (x := (⟨0, 0⟩ : Wide)) rfl rfl rfl (by kernel_rfl) zr42 rfl) rfl <| Sto ty42 3 rfl <| Nl <| AW.ret ?_
    obtain rfl := si h
    exact ret1 Tryz.results327 rfl (out_cell rfl (i := 3) rfl ty42)
  · have h := cond_f hc h
    refine AW.skip <| AW.seq ?_
    obtain ⟨q4, hq4, h⟩ := bsome h
    obtain ⟨q5, hq5, h⟩ := bsome h
    obtain ⟨q6, hq6, h⟩ := bsome h
    obtain ⟨j7, hj7, h⟩ := bsome h
    refine Rg <| Md rfl <| Ac (op_quo rfl rfl (vt rfl) (vk rfl) hq4) rfl <| Md rfl <| Ac (op_rem rfl rfl (vt rfl) (vk rfl) hq5) rfl <| Ac (op_ushl rfl rfl (vku (1 : BitVec 64) rfl) (vt rfl) hq6) rfl <| Ac (op_index' rfl rfl ar367 (vt rfl) (vt rfl) hj7) rfl <| Sto ty40 4 rfl <| Nl <| SR <| Ac (op_index' rfl rfl ar367 (vt rfl) (vk rfl) rfl) rfl <| Ld ty40 4 rfl <| Ac (op_index' rfl rfl ar367 (vt rfl) (vk rfl) rfl) rfl <| Ld ty40 4 rfl <| Ac (op_build (ps := [(0, .tmp 18), (1, .tmp 20)]) (x := (⟨(Vector.get (Vector.set (Vector.replicate 2 0) j7.1 q6 j7.2) (⟨1, by decide⟩ : _root_.Fin 2)), (Vector.get (Vector.set (Vector.replicate 2 0) j7.1 q6 j7.2) (⟨0, by decide⟩ : _root_.Fin 2))⟩ : Wide)) rfl rfl rfl (by kernel_rfl) zr42 ⟨_, _, lWide_0, _, by kernel_rfl, (vt rfl), _, _, lWide_1, _, by kernel_rfl, (vt rfl), rfl⟩) rfl <| Sto ty42 3 rfl <| Nl <| AW.ret ?_
    obtain rfl := si h
    exact ret1 Tryz.results327 rfl (out_cell rfl (i := 3) rfl ty42)
def F_aset_Rewrite (a1 : Action) : Option (Vector Tern 24) :=
  (F_rewrite_None).bind fun x4 => (bif (decide (a1.Kind = 25)) then (F_oxm_Tern a1.Oxm).bind fun x6 => (F_rewrite_Set x4 a1.Oxm.Field x6.Value x6.Mask).bind fun x8 => some x8 else (bif (decide (a1.Kind = 17)) then (F_wide_Bit 12).bind fun x9 => (F_wide_Bit 12).bind fun x10 => (F_rewrite_Set x4 5 x9 x10).bind fun x11 => some x11 else (bif (decide (a1.Kind = 18)) then (F_wide_Low 13).bind fun x12 => (F_rewrite_Set x4 5 (⟨0, 0⟩ : Wide) x12).bind fun x13 => (F_wide_Low 3).bind fun x14 => (F_rewrite_Set x13 6 (⟨0, 0⟩ : Wide) x14).bind fun x15 => some x15 else some x4)))
theorem c_aset_Rewrite (a1 : Action) (r : (Vector Tern 24)) (h : F_aset_Rewrite a1 = some r) : PCon Tryz.prog 287 [rd kAction a1] (rd (karr 24 kTern) r) := by
  refine PCon.of (Con.intro0 Tryz.func287 rfl Tryz.ntmps287 rfl fun w H => ?_)
  unfold F_aset_Rewrite at h
  refine SR <| Ct rfl (op_box 2 rfl rfl (vt rfl)) ?_
  rintro _ ⟨g2, rfl⟩
  refine Ct rfl (op_alloc 3 rfl rfl zr101) ?_
  rintro _ ⟨g3, rfl⟩
  refine Nl <| AW.seq ?_
  obtain ⟨x4, hx4, h⟩ := bsome h
  refine Rg <| Cl [] (c_rewrite_None _ hx4) e77 rfl <| Ct rfl (op_alloc 4 rfl rfl zr101) ?_
  rintro _ ⟨g5, rfl⟩
  refine Sto ty101 4 rfl <| Nl <| AW.seq <| SR <| FdA lAction_0 fl121_0 rfl <| Ld ty3 2 rfl <| Nl <| AW.block <| SR <| Ac (op_eql rfl rfl (vt rfl) (vk rfl)) rfl <| As rfl <| Nl <| Cn rfl (fun hc => ?_) (fun hc => ?_)
  · have h := cond_t hc h
    refine AW.seq ?_
    obtain ⟨x6, hx6, h⟩ := bsome h
    refine Rg <| FdA lAction_5 fl121_5 rfl <| Ld ty119 2 rfl <| Cl [11] (c_oxm_Tern _ _ hx6) e275 rfl <| Ct rfl (op_alloc 5 rfl rfl zr85) ?_
    rintro _ ⟨g7, rfl⟩
    refine Sto ty85 5 rfl <| Nl ?_
    obtain ⟨x8, hx8, h⟩ := bsome h
    refine Rg <| Ld ty101 4 rfl <| FdA lAction_5 fl121_5 rfl <| FdA lOxm_0 fl119_0 rfl <| Ld ty3 2 rfl <| FdA lTern_0 fl85_0 rfl <| Ld ty42 5 rfl <| FdA lTern_1 fl85_1 rfl <| Ld ty42 5 rfl <| Cl [13, 16, 18, 20] (c_rewrite_Set _ _ _ _ _ hx8) e207 rfl <| Sto ty101 4 rfl <| Nl <| SR <| Ld ty101 4 rfl <| Sto ty101 3 rfl <| Nl <| AW.ret ?_
    obtain rfl := si h
    exact ret1 Tryz.results287 rfl (out_cell rfl (i := 3) rfl ty101)
  · have h := cond_f hc h
    refine SR <| Ac (op_eql rfl rfl (vt rfl) (vk rfl)) rfl <| As rfl <| Nl <| Cn rfl (fun hc => ?_) (fun hc => ?_)
    · have h := cond_t hc h
      obtain ⟨x9, hx9, h⟩ := bsome h
      obtain ⟨x10, hx10, h⟩ := bsome h
      obtain ⟨x11, hx11, h⟩ := bsome h
      refine AW.regionAny [⟨[3], [24], [4], []⟩, ⟨[], [25], [], []⟩, ⟨[], [26], [], []⟩, ⟨[24, 25, 26], [27], [], []⟩, ⟨[3, 27], [], [4], [4]⟩] mixed (by kernel_rfl) <| SLd ty101 4 rfl <| Sc (lo [] [] rfl fun S hs hr => op_call (xs := [.const (Value.int IntKind.i64 12)]) (c_wide_Bit _ _ hx9) e327 rfl rfl ⟨vk rfl, trivial⟩) rfl <| Sc (lo [] [] rfl fun S hs hr => op_call (xs := [.const (Value.int IntKind.i64 12)]) (c_wide_Bit _ _ hx10) e327 rfl rfl ⟨vk rfl, trivial⟩) rfl <| Sc (lo [24, 25, 26] [] rfl fun S hs hr => op_call (xs := [.tmp 24, .const (Value.int IntKind.i64 5), .tmp 25, .tmp 26]) (c_rewrite_Set _ _ _ _ _ hx11) e207 rfl rfl ⟨vt ((hs 24 rfl).trans rfl), vk rfl, vt ((hs 25 rfl).trans rfl), vt ((hs 26 rfl).trans rfl), trivial⟩) rfl <| SSt ty101 4 rfl <| SR <| Ld ty101 4 rfl <| Sto ty101 3 rfl <| Nl <| AW.ret ?_
      obtain rfl := si h
      exact ret1 Tryz.results287 rfl (out_cell rfl (i := 3) rfl ty101)
    · have h := cond_f hc h
      refine SR <| Ac (op_eql rfl rfl (vt rfl) (vk rfl)) rfl <| As rfl <| Nl <| Cn rfl (fun hc => ?_) (fun hc => ?_)
      · have h := cond_t hc h
        refine AW.seq ?_
        obtain ⟨x12, hx12, h⟩ := bsome h
        obtain ⟨x13, hx13, h⟩ := bsome h
        refine AW.regionAny [⟨[3], [30], [4], []⟩, ⟨[], [31], [], []⟩, ⟨[], [32], [], []⟩, ⟨[30, 31, 32], [33], [], []⟩, ⟨[3, 33], [], [4], [4]⟩] mixed (by kernel_rfl) <| SLd ty101 4 rfl <| Sc (lo [] [] rfl fun S hs hr => op_build (ps := []) (x := (⟨0, 0⟩ : Wide)) rfl rfl rfl (by kernel_rfl) zr42 rfl) rfl <| Sc (lo [] [] rfl fun S hs hr => op_call (xs := [.const (Value.int IntKind.i64 13)]) (c_wide_Low _ _ hx12) e254 rfl rfl ⟨vk rfl, trivial⟩) rfl <| Sc (lo [30, 31, 32] [] rfl fun S hs hr => op_call (xs := [.tmp 30, .const (Value.int IntKind.i64 5), .tmp 31, .tmp 32]) (c_rewrite_Set _ _ _ _ _ hx13) e207 rfl rfl ⟨vt ((hs 30 rfl).trans rfl), vk rfl, vt ((hs 31 rfl).trans rfl), vt ((hs 32 rfl).trans rfl), trivial⟩) rfl <| SSt ty101 4 rfl ?_
        obtain ⟨x14, hx14, h⟩ := bsome h
        obtain ⟨x15, hx15, h⟩ := bsome h
        refine AW.regionAny [⟨[3], [34], [4], []⟩, ⟨[], [35], [], []⟩, ⟨[], [36], [], []⟩, ⟨[34, 35, 36], [37], [], []⟩, ⟨[3, 37], [], [4], [4]⟩] mixed (by kernel_rfl) <| SLd ty101 4 rfl <| Sc (lo [] [] rfl fun S hs hr => op_build (ps := []) (x := (⟨0, 0⟩ : Wide)) rfl rfl rfl (by kernel_rfl) zr42 rfl) rfl <| Sc (lo [] [] rfl fun S hs hr => op_call (xs := [.const (Value.int IntKind.i64 3)]) (c_wide_Low _ _ hx14) e254 rfl rfl ⟨vk rfl, trivial⟩) rfl <| Sc (lo [34, 35, 36] [] rfl fun S hs hr => op_call (xs := [.tmp 34, .const (Value.int IntKind.i64 6), .tmp 35, .tmp 36]) (c_rewrite_Set _ _ _ _ _ hx15) e207 rfl rfl ⟨vt ((hs 34 rfl).trans rfl), vk rfl, vt ((hs 35 rfl).trans rfl), vt ((hs 36 rfl).trans rfl), trivial⟩) rfl <| SSt ty101 4 rfl <| SR <| Ld ty101 4 rfl <| Sto ty101 3 rfl <| Nl <| AW.ret ?_
        obtain rfl := si h
        exact ret1 Tryz.results287 rfl (out_cell rfl (i := 3) rfl ty101)
      · have h := cond_f hc h
        refine AW.skip <| SR <| Ld ty101 4 rfl <| Sto ty101 3 rfl <| Nl <| AW.ret ?_
        obtain rfl := si h
        exact ret1 Tryz.results287 rfl (out_cell rfl (i := 3) rfl ty101)
def F_rewrite_Apply_l1 : (List Tern) → Nat → (Vector Wide 24) → Option (Vector Wide 24)
  | [], i8, b7 => some b7
  | x10 :: l9, i8, b7 => (chk 24 (i8 : Int)).bind fun j12 => (F_wide_Less (Vector.get b7 j12) x10.Mask).bind fun x13 => (F_wide_And x10.Value x10.Mask).bind fun x14 => (F_wide_Or x13 x14).bind fun x15 => (chk 24 (i8 : Int)).bind fun j16 => (F_rewrite_Apply_l1 l9) (i8 + 1) (Vector.set b7 j16.1 x15 j16.2)
def F_rewrite_Apply (r1 : (Vector Tern 24)) (h2 : (Vector Wide 24)) : Option (Vector Wide 24) :=
  F_rewrite_Apply_l1 (Vector.toList r1) 0 h2
theorem c_rewrite_Apply (r1 : (Vector Tern 24)) (h2 : (Vector Wide 24)) (r : (Vector Wide 24)) (h : F_rewrite_Apply r1 h2 = some r) : PCon Tryz.prog 109 [rd (karr 24 kTern) r1, rd (karr 24 kWide) h2] (rd (karr 24 kWide) r) := by
  refine PCon.of (Con.intro0 Tryz.func109 rfl Tryz.ntmps109 rfl fun w H => ?_)
  unfold F_rewrite_Apply at h
  refine SR <| Ct rfl (op_box 3 rfl rfl (vt rfl)) ?_
  rintro _ ⟨g3, rfl⟩
  refine Ct rfl (op_box 4 rfl rfl (vt rfl)) ?_
  rintro _ ⟨g4, rfl⟩
  refine Ct rfl (op_alloc 5 rfl rfl zr44) ?_
  rintro _ ⟨g5, rfl⟩
  refine Nl <| AW.seq <| SR <| Ld ty101 3 rfl <| Mk rfl <| Nl <| AW.block <| AW.loopG (d := []) (ν := (List Tern) × Nat × (Vector Wide 24)) (fun n => Sfx (Vector.toList r1) n.2.1 n.1 ∧ F_rewrite_Apply_l1 n.1 n.2.1 n.2.2 = some r) (fun n => n.1.length) (fun n => [(3, ptrL g4 (Lens.id (karr 24 kWide))), (4, ptrL g5 (Lens.id (karr 24 kWide))), (7, rd (karr 24 kTern) r1), (8, rd (kint .i64) (n.2.1 : Int))]) (fun n => [(4, Blk g4 44 (karr 24 kWide) n.2.2), (5, Blk g5 44 (karr 24 kWide) (Vector.replicate 24 zWide))]) ((Vector.toList r1), 0, h2) ⟨Sfx.start _, h⟩ ⟨rfl, ⟨rfl, rfl, rfl, rfl, trivial⟩, ⟨rfl, rfl, trivial⟩⟩ ?_
  rintro ⟨l9, i8, b7⟩ ⟨hsf1, h⟩
  change Sfx (Vector.toList r1) i8 l9 at hsf1
  change F_rewrite_Apply_l1 l9 i8 b7 = some r at h
  change AW _ _ _ ⟨slots [(3, ptrL g4 (Lens.id (karr 24 kWide))), (4, ptrL g5 (Lens.id (karr 24 kWide))), (7, rd (karr 24 kTern) r1), (8, rd (kint .i64) (i8 : Int))], ress [(4, Blk g4 44 (karr 24 kWide) b7), (5, Blk g5 44 (karr 24 kWide) (Vector.replicate 24 zWide))], _⟩
  cases l9 with
  | nil =>
    unfold F_rewrite_Apply_l1 at h
    refine SR <| Ac (op_lss rfl rfl (vt rfl) (vk rfl)) rfl <| Nl <| AW.seq <| Cn rfl (fun hc => absurd (of_decide_eq_true hc) (hsf1.niln (by simp))) (fun hc => ?_)
    refine AW.exit <| SR <| Ld ty44 4 rfl <| Sto ty44 5 rfl <| Nl <| AW.ret ?_
    obtain rfl := si h
    exact ret1 Tryz.results109 rfl (out_cell rfl (i := 5) rfl ty44)
  | cons x10 l9 =>
    unfold F_rewrite_Apply_l1 at h
    generalize hgo1 : F_rewrite_Apply_l1 l9 = go1 at h
    refine SR <| Ac (op_lss rfl rfl (vt rfl) (vk rfl)) rfl <| Nl <| AW.seq <| Cn rfl (fun hc => ?_) (fun hc => absurd (hsf1.consn (by simp)) (of_decide_eq_false hc))
    have hlti8 := of_decide_eq_true hc
    refine AW.skip <| AW.seq <| AW.block <| SR <| Md rfl <| Ac (op_indexv rfl rfl ar101 ty85 (vt rfl) (vt rfl) hsf1.lget) rfl <| Ct rfl (op_alloc 7 rfl rfl zr85) ?_
    rintro _ ⟨g11, rfl⟩
    refine As rfl <| Sto ty85 7 rfl <| Nl ?_
    obtain ⟨j12, hj12, h⟩ := bsome h
    obtain ⟨x13, hx13, h⟩ := bsome h
    obtain ⟨x14, hx14, h⟩ := bsome h
    obtain ⟨x15, hx15, h⟩ := bsome h
    obtain ⟨j16, hj16, h⟩ := bsome h
    refine AW.regionAny [⟨[5], [12], [], []⟩, ⟨[5], [13], [], []⟩, ⟨[3, 13], [14], [], []⟩, ⟨[14], [15], [4], []⟩, ⟨[6], [16], [], []⟩, ⟨[16], [17], [7], []⟩, ⟨[15, 17], [18], [], []⟩, ⟨[6], [19], [], []⟩, ⟨[19], [20], [7], []⟩, ⟨[6], [21], [], []⟩, ⟨[21], [22], [7], []⟩, ⟨[20, 22], [23], [], []⟩, ⟨[18, 23], [24], [], []⟩, ⟨[3, 12], [25], [], []⟩, ⟨[25, 24], [], [4], [4]⟩] mixed (by kernel_rfl) <| SMd rfl <| SMd rfl <| Sc (lo [3, 13] [] rfl fun S hs hr => op_index' rfl rfl ar44 (vh hs 3 rfl rfl) (vh hs 13 rfl rfl) hj12) rfl <| SLd ty42 4 rfl <| SFd lTern_1 fl85_1 rfl <| SLd ty42 7 rfl <| SCl [15, 17] (c_wide_Less _ _ _ hx13) e176 rfl <| SFd lTern_0 fl85_0 rfl <| SLd ty42 7 rfl <| SFd lTern_1 fl85_1 rfl <| SLd ty42 7 rfl <| SCl [20, 22] (c_wide_And _ _ _ hx14) e177 rfl <| SCl [18, 23] (c_wide_Or _ _ _ hx15) e175 rfl <| Sc (lo [3, 12] [] rfl fun S hs hr => op_index' rfl rfl ar44 (vh hs 3 rfl rfl) (vh hs 12 rfl rfl) hj16) rfl <| SSt ty42 4 rfl <| Rg <| Ac (op_incrc rfl rfl (vt rfl) (vk rfl) rfl hlti8) rfl <| Md rfl <| Nl ?_
    subst hgo1
    exact ⟨(l9, i8 + 1, (Vector.set b7 j16.1 x15 j16.2)), Nat.lt_succ_self _, ⟨hsf1.next, h⟩, ⟨rfl, ⟨rfl, rfl, rfl, rfl, trivial⟩, ⟨rfl, rfl, trivial⟩⟩⟩
def F_exec_run_group_s_l1 (x5 : (Group × Bool)) (R_exec_run_do : (exec_run → (List Action) → Option exec_run)) (r1 : exec_run) : (List Int) → Nat → (List Out) → Env → (List Group) → (Vector Wide 24) → Int → Option exec_run
  | [], i21, l15, b17, b18, b19, b20 => some (⟨b17, b18, l15, b19, (IntKind.i64.wrap (b20 - 1))⟩ : exec_run)
  | x23 :: l22, i21, l15, b17, b18, b19, b20 => (lget x5.1.Buckets x23).bind fun e24 => (F_aset_Write [] e24.Acts).bind fun x25 => (F_aset_List x25).bind fun x26 => (R_exec_run_do (⟨b17, b18, l15, b19, b20⟩ : exec_run) x26).bind fun b27 => (F_exec_run_group_s_l1 x5 R_exec_run_do r1 l22) (i21 + 1) b27.out b27.Env b27.groups r1.header b27.depth
def F_exec_run_group_s (R_exec_run_do : (exec_run → (List Action) → Option exec_run)) (R_exec_run_group : (exec_run → Int → Option exec_run)) (r1 : exec_run) (id4 : Int) : Option exec_run :=
  (F_group_Find r1.groups id4).bind fun x5 => (bif ((!x5.2) || (decide (r1.depth ≥ 8))) then some (⟨r1.Env, r1.groups, r1.out, r1.header, r1.depth⟩ : exec_run) else (F_env_Takes r1.Env x5.1).bind fun x8 => F_exec_run_group_s_l1 x5 R_exec_run_do r1 x8 0 r1.out r1.Env r1.groups r1.header (IntKind.i64.wrap (r1.depth + 1)))
theorem c_exec_run_group_s (R_exec_run_do : (exec_run → (List Action) → Option exec_run)) (hR_exec_run_do : ∀ (g2 gT : Nat) (r1 : exec_run) (acts4 : (List Action)) (r : exec_run), R_exec_run_do r1 acts4 = some r → Con Tryz.prog 239 [ptrL g2 (Lens.id kexec_run_o2), rd (ksl kAction) acts4] (BoxF g2 gT kexec_run_o2 (fun v => (⟨r1.Env, r1.groups, v, r1.header, r1.depth⟩ : exec_run_o2)) 71 kOut r1.out) (fun _ : Unit => top) (fun _ => BoxF g2 gT kexec_run_o2 (fun v => (⟨r.Env, r.groups, v, r.header, r.depth⟩ : exec_run_o2)) 71 kOut r.out)) (R_exec_run_group : (exec_run → Int → Option exec_run)) (hR_exec_run_group : ∀ (g2 gT : Nat) (r1 : exec_run) (id4 : Int) (r : exec_run), R_exec_run_group r1 id4 = some r → Con Tryz.prog 178 [ptrL g2 (Lens.id kexec_run_o2), rd (kint .i64) id4] (BoxF g2 gT kexec_run_o2 (fun v => (⟨r1.Env, r1.groups, v, r1.header, r1.depth⟩ : exec_run_o2)) 71 kOut r1.out) (fun _ : Unit => top) (fun _ => BoxF g2 gT kexec_run_o2 (fun v => (⟨r.Env, r.groups, v, r.header, r.depth⟩ : exec_run_o2)) 71 kOut r.out)) (g2 gT : Nat) (r1 : exec_run) (id4 : Int) (r : exec_run) (h : F_exec_run_group_s R_exec_run_do R_exec_run_group r1 id4 = some r) : Con Tryz.prog 178 [ptrL g2 (Lens.id kexec_run_o2), rd (kint .i64) id4] (BoxF g2 gT kexec_run_o2 (fun v => (⟨r1.Env, r1.groups, v, r1.header, r1.depth⟩ : exec_run_o2)) 71 kOut r1.out) (fun _ : Unit => top) (fun _ => BoxF g2 gT kexec_run_o2 (fun v => (⟨r.Env, r.groups, v, r.header, r.depth⟩ : exec_run_o2)) 71 kOut r.out) := by
  refine Con.intro Tryz.func178 rfl Tryz.ntmps178 rfl fun w H X => ?_
  unfold F_exec_run_group_s at h
  refine AW.unboxF 0 2002 (by decide) rfl rfl fun v3 => AW.seq ?_
  obtain ⟨x5, hx5, h⟩ := bsome h
  refine Rg <| Mp rfl <| Nc rfl <| FdA lexec_run_o2_1 flv237_1_2 rfl <| Ld ty24 0 rfl <| Md rfl <| Cl [13, 14] (c_group_Find _ _ _ hx5) e180 rfl <| Mt2 rfl <| Ac (op_fst rfl rfl (vt rfl)) rfl <| Ac (op_snd rfl rfl (vt rfl)) rfl <| Ct rfl (op_alloc 5 rfl rfl zr164) ?_
  rintro _ ⟨g6, rfl⟩
  refine Sto ty164 5 rfl <| As rfl <| Nl <| AW.seq <| SR <| Md rfl <| Ac (op_not rfl rfl (vt rfl)) rfl <| Md rfl <| Gd rfl (fun hq => op_move (A := ptrL g2 (Lens.id kexec_run_o2)) rfl rfl (vt rfl)) <| Gd rfl (fun hq => op_nilCheck rfl rfl (vgt rfl hq)) <| Gd rfl (fun hq => op_field lexec_run_o2_4 rfl rfl flv237_4_2 (vgt rfl hq)) <| Gd rfl (fun hq => op_load rfl rfl ty3 (vgt rfl hq) (i := 0) rfl) <| Gd rfl (fun hq => op_geq rfl rfl (vgt rfl hq) (vk rfl)) <| Ac (op_any rfl rfl (vt rfl) (vt rfl)) rfl <| Nl <| Cn rfl (fun hc => ?_) (fun hc => ?_)
  · have h := cond_t hc h
    refine AW.ret ?_
    obtain rfl := si h
    exact RetOK.turn (Turn.packF 0 2002 (fun v => (⟨r1.Env, r1.groups, v, r1.header, r1.depth⟩ : exec_run_o2)) (by decide) rfl rfl) (ret0Y (i := 0) Tryz.results178 rfl rfl)
  · have h := cond_f hc h
    refine AW.skip <| SR <| Mp rfl <| Nc rfl <| FdA lexec_run_o2_3 flv237_3_2 rfl <| Ld ty44 0 rfl <| Ct rfl (op_alloc 7 rfl rfl zr44) ?_
    rintro _ ⟨g7, rfl⟩
    refine Sto ty44 7 rfl <| Nl <| SR <| Mp rfl <| Nc rfl <| FdA lexec_run_o2_4 flv237_4_2 rfl <| Ld ty3 0 rfl <| Ac (op_add rfl rfl (vt rfl) (vk rfl)) rfl <| Nc rfl <| FdA lexec_run_o2_4 flv237_4_2 rfl <| Sto ty3 0 rfl <| Nl <| AW.seq <| AW.seq ?_
    obtain ⟨x8, hx8, h⟩ := bsome h
    refine AW.regionAny [⟨[0], [38], [], []⟩, ⟨[38], [39], [], []⟩, ⟨[39], [40], [], []⟩, ⟨[40], [41], [0], []⟩, ⟨[4], [42], [5], []⟩, ⟨[41, 42], [43], [], []⟩, ⟨[43], [44], [], []⟩, ⟨[], [45], [], []⟩] mixed (by kernel_rfl) <| SMp rfl <| SNc rfl <| SFd lexec_run_o2_0 flv237_0_2 rfl <| SLd ty39 0 rfl <| SLd ty164 5 rfl <| SCl [41, 42] (c_env_Takes _ _ _ hx8) e238 rfl <| Sc (lo [43] [] rfl fun S hs hr => op_len' rfl rfl sl37 (vh hs 43 rfl rfl)) rfl <| Sc (lo [] [] rfl fun S hs hr => op_move (A := rd (kint .i64) 0) rfl rfl (vk rfl)) rfl <| AW.block <| AW.loopG (d := []) (ν := (List Int) × Nat × (List Out) × Env × (List Group) × (Vector Wide 24) × Int × Value) (fun n => Sfx x8 n.2.1 n.1 ∧ F_exec_run_group_s_l1 x5 R_exec_run_do r1 n.1 n.2.1 n.2.2.1 n.2.2.2.1 n.2.2.2.2.1 n.2.2.2.2.2.1 n.2.2.2.2.2.2.1 = some r) (fun n => n.1.length) (fun n => [(0, ptrL g2 (Lens.id kexec_run_o2)), (4, ptrL g6 (Lens.id kGroup)), (6, ptrL g7 (Lens.id (karr 24 kWide))), (43, rd (ksl (kint .i64)) x8), (44, rd (kint .i64) (x8.length : Int)), (45, rd (kint .i64) (n.2.1 : Int))]) (fun n => [(0, Blk g2 gT kexec_run_o2 (⟨n.2.2.2.1, n.2.2.2.2.1, n.2.2.2.2.2.2.2, n.2.2.2.2.2.1, n.2.2.2.2.2.2.1⟩ : exec_run_o2)), (5, Blk g6 164 kGroup x5.1), (7, Blk g7 44 (karr 24 kWide) r1.header), (2002, Row n.2.2.2.2.2.2.2 71 kOut n.2.2.1)]) (x8, 0, r1.out, r1.Env, r1.groups, r1.header, (IntKind.i64.wrap (r1.depth + 1)), v3) ⟨Sfx.start _, h⟩ ⟨rfl, ⟨rfl, rfl, rfl, rfl, rfl, rfl, trivial⟩, ⟨rfl, rfl, rfl, rfl, trivial⟩⟩ ?_
    rintro ⟨l22, i21, l15, b17, b18, b19, b20, v16⟩ ⟨hsf1, h⟩
    change Sfx x8 i21 l22 at hsf1
    change F_exec_run_group_s_l1 x5 R_exec_run_do r1 l22 i21 l15 b17 b18 b19 b20 = some r at h
    change AW _ _ _ ⟨slots [(0, ptrL g2 (Lens.id kexec_run_o2)), (4, ptrL g6 (Lens.id kGroup)), (6, ptrL g7 (Lens.id (karr 24 kWide))), (43, rd (ksl (kint .i64)) x8), (44, rd (kint .i64) (x8.length : Int)), (45, rd (kint .i64) (i21 : Int))], ress [(0, Blk g2 gT kexec_run_o2 (⟨b17, b18, v16, b19, b20⟩ : exec_run_o2)), (5, Blk g6 164 kGroup x5.1), (7, Blk g7 44 (karr 24 kWide) r1.header), (2002, Row v16 71 kOut l15)], _⟩
    cases l22 with
    | nil =>
      unfold F_exec_run_group_s_l1 at h
      refine SR <| Ac (op_lss rfl rfl (vt rfl) (vt rfl)) rfl <| Nl <| AW.seq <| Cn rfl (fun hc => absurd (of_decide_eq_true hc) hsf1.nil) (fun hc => ?_)
      refine AW.exit <| Rg <| Mp rfl <| Nc rfl <| FdA lexec_run_o2_4 flv237_4_2 rfl <| Ld ty3 0 rfl <| Ac (op_sub rfl rfl (vt rfl) (vk rfl)) rfl <| Nc rfl <| FdA lexec_run_o2_4 flv237_4_2 rfl <| Sto ty3 0 rfl <| Nl ?_
      obtain rfl := si h
      exact RetOK.turn (Turn.packF 0 2002 (fun v => (⟨b17, b18, v, b19, (IntKind.i64.wrap (b20 - 1))⟩ : exec_run_o2)) (by decide) rfl rfl) (ret0Y (i := 0) Tryz.results178 rfl rfl)
    | cons x23 l22 =>
      unfold F_exec_run_group_s_l1 at h
      generalize hgo1 : F_exec_run_group_s_l1 x5 R_exec_run_do r1 l22 = go1 at h
      refine SR <| Ac (op_lss rfl rfl (vt rfl) (vt rfl)) rfl <| Nl <| AW.seq <| Cn rfl (fun hc => ?_) (fun hc => absurd hsf1.cons (of_decide_eq_false hc))
      have hlti21 := of_decide_eq_true hc
      refine AW.skip <| AW.seq <| AW.block <| SR <| Ac (op_indexs' rfl rfl sl37 (vt rfl) (vt rfl) hsf1.lget) rfl <| Lp1 ty3 rfl <| As rfl <| Nl <| AW.seq ?_
      obtain ⟨e24, he24, h⟩ := bsome h
      obtain ⟨x25, hx25, h⟩ := bsome h
      obtain ⟨x26, hx26, h⟩ := bsome h
      obtain ⟨b27, hb27, h⟩ := bsome h
      refine Rg <| Mp rfl <| FdA lGroup_2 fl164_2 rfl <| Ld ty162 5 rfl <| Md rfl <| Ac (op_indexs' rfl rfl sl162 (vt rfl) (vt rfl) he24) rfl <| Fp lBucket_3 fl226_3 rfl <| Lp1 ty122 rfl <| Ac (op_call (xs := [.const (Value.slice none 0 0), .tmp 55]) (c_aset_Write _ _ _ hx25) e206 rfl rfl ⟨vnil, vt rfl, trivial⟩) rfl <| Cl [56] (c_aset_List _ _ hx26) e149 rfl <| AOps.packF 0 2002 (fun v => (⟨b17, b18, v, b19, b20⟩ : exec_run_o2)) (by decide) rfl rfl <| Ct rfl (op_callR 0 (xs := [.tmp 49, .tmp 57]) (hR_exec_run_do _ _ _ _ _ hb27) e239 rfl rfl ⟨vt rfl, vt rfl, trivial⟩ rfl) ?_
      rintro _ ⟨_u, rfl⟩
      refine AOps.unboxF 0 2002 (by decide) rfl rfl fun v28 => Nl <| Rg <| Mp rfl <| Ld ty44 7 rfl <| Nc rfl <| FdA lexec_run_o2_3 flv237_3_2 rfl <| Sto ty44 0 rfl <| Nl <| Rg <| Ac (op_incr (t := 44) rfl rfl (vt rfl) (vk rfl) (vt rfl) hlti21) rfl <| Md rfl <| Nl ?_
      subst hgo1
      exact ⟨(l22, i21 + 1, b27.out, b27.Env, b27.groups, r1.header, b27.depth, v28), Nat.lt_succ_self _, ⟨hsf1.next, h⟩, ⟨rfl, ⟨rfl, rfl, rfl, rfl, rfl, rfl, trivial⟩, ⟨rfl, rfl, rfl, rfl, trivial⟩⟩⟩
end Go.Proofs.YtknpgojdkobgjaaGreat.W
set_option linter.unusedVariables false
set_option maxRecDepth 4000
set_option linter.unusedSimpArgs false
namespace Go.Proofs.YtknpgojdkobgjaaGreat.W
open Go Go.Wb
theorem e286 : Ent Tryz.prog 286 := Ent.mk Tryz.func286 rfl rfl
theorem e178 : Ent Tryz.prog 178 := Ent.mk Tryz.func178 rfl rfl
theorem e287 : Ent Tryz.prog 287 := Ent.mk Tryz.func287 rfl rfl
theorem e109 : Ent Tryz.prog 109 := Ent.mk Tryz.func109 rfl rfl
theorem e212 : Ent Tryz.prog 212 := Ent.mk Tryz.func212 rfl rfl
theorem e204 : Ent Tryz.prog 204 := Ent.mk Tryz.func204 rfl rfl
theorem e148 : Ent Tryz.prog 148 := Ent.mk Tryz.func148 rfl rfl
theorem e34 : Ent Tryz.prog 34 := Ent.mk Tryz.func34 rfl rfl
theorem e147 : Ent Tryz.prog 147 := Ent.mk Tryz.func147 rfl rfl
theorem e86 : Ent Tryz.prog 86 := Ent.mk Tryz.func86 rfl rfl
theorem e131 : Ent Tryz.prog 131 := Ent.mk Tryz.func131 rfl rfl
def F_exec_run_do_s_l1 (R_exec_run_group : (exec_run → Int → Option exec_run)) : (List Action) → Nat → (List Out) → Env → (List Group) → (Vector Wide 24) → Int → Option exec_run
  | [], i17, l11, b13, b14, b15, b16 => some (⟨b13, b14, l11, b15, b16⟩ : exec_run)
  | x19 :: l18, i17, l11, b13, b14, b15, b16 => (bif (decide (x19.Kind = 0)) then (F_exec_most x19).bind fun x21 => (appd l11 [(⟨x19.Port, x21, b15⟩ : Out)]).bind fun l22 => (F_exec_run_do_s_l1 R_exec_run_group l18) (i17 + 1) l22 b13 b14 b15 b16 else (bif (decide (x19.Kind = 22)) then (R_exec_run_group (⟨b13, b14, l11, b15, b16⟩ : exec_run) x19.Group).bind fun b24 => (F_exec_run_do_s_l1 R_exec_run_group l18) (i17 + 1) b24.out b24.Env b24.groups b24.header b24.depth else (F_aset_Rewrite x19).bind fun x26 => (F_rewrite_Apply x26 b15).bind fun x27 => (F_exec_run_do_s_l1 R_exec_run_group l18) (i17 + 1) l11 b13 b14 x27 b16))
def F_exec_run_do_s (R_exec_run_do : (exec_run → (List Action) → Option exec_run)) (R_exec_run_group : (exec_run → Int → Option exec_run)) (r1 : exec_run) (acts4 : (List Action)) : Option exec_run :=
  F_exec_run_do_s_l1 R_exec_run_group acts4 0 r1.out r1.Env r1.groups r1.header r1.depth
theorem c_exec_run_do_s (R_exec_run_do : (exec_run → (List Action) → Option exec_run)) (hR_exec_run_do : ∀ (g2 gT : Nat) (r1 : exec_run) (acts4 : (List Action)) (r : exec_run), R_exec_run_do r1 acts4 = some r → Con Tryz.prog 239 [ptrL g2 (Lens.id kexec_run_o2), rd (ksl kAction) acts4] (BoxF g2 gT kexec_run_o2 (fun v => (⟨r1.Env, r1.groups, v, r1.header, r1.depth⟩ : exec_run_o2)) 71 kOut r1.out) (fun _ : Unit => top) (fun _ => BoxF g2 gT kexec_run_o2 (fun v => (⟨r.Env, r.groups, v, r.header, r.depth⟩ : exec_run_o2)) 71 kOut r.out)) (R_exec_run_group : (exec_run → Int → Option exec_run)) (hR_exec_run_group : ∀ (g2 gT : Nat) (r1 : exec_run) (id4 : Int) (r : exec_run), R_exec_run_group r1 id4 = some r → Con Tryz.prog 178 [ptrL g2 (Lens.id kexec_run_o2), rd (kint .i64) id4] (BoxF g2 gT kexec_run_o2 (fun v => (⟨r1.Env, r1.groups, v, r1.header, r1.depth⟩ : exec_run_o2)) 71 kOut r1.out) (fun _ : Unit => top) (fun _ => BoxF g2 gT kexec_run_o2 (fun v => (⟨r.Env, r.groups, v, r.header, r.depth⟩ : exec_run_o2)) 71 kOut r.out)) (g2 gT : Nat) (r1 : exec_run) (acts4 : (List Action)) (r : exec_run) (h : F_exec_run_do_s R_exec_run_do R_exec_run_group r1 acts4 = some r) : Con Tryz.prog 239 [ptrL g2 (Lens.id kexec_run_o2), rd (ksl kAction) acts4] (BoxF g2 gT kexec_run_o2 (fun v => (⟨r1.Env, r1.groups, v, r1.header, r1.depth⟩ : exec_run_o2)) 71 kOut r1.out) (fun _ : Unit => top) (fun _ => BoxF g2 gT kexec_run_o2 (fun v => (⟨r.Env, r.groups, v, r.header, r.depth⟩ : exec_run_o2)) 71 kOut r.out) := by
  refine Con.intro Tryz.func239 rfl Tryz.ntmps239 rfl fun w H X => ?_
  unfold F_exec_run_do_s at h
  refine AW.unboxF 0 2002 (by decide) rfl rfl fun v3 => SR <| Md rfl <| Ac (op_len' rfl rfl sl122 (vt rfl)) rfl <| Mk rfl <| Nl <| AW.block <| AW.loopG (d := []) (ν := (List Action) × Nat × (List Out) × Env × (List Group) × (Vector Wide 24) × Int × Value) (fun n => Sfx acts4 n.2.1 n.1 ∧ F_exec_run_do_s_l1 R_exec_run_group n.1 n.2.1 n.2.2.1 n.2.2.2.1 n.2.2.2.2.1 n.2.2.2.2.2.1 n.2.2.2.2.2.2.1 = some r) (fun n => n.1.length) (fun n => [(0, ptrL g2 (Lens.id kexec_run_o2)), (6, rd (ksl kAction) acts4), (7, rd (kint .i64) (acts4.length : Int)), (8, rd (kint .i64) (n.2.1 : Int))]) (fun n => [(0, Blk g2 gT kexec_run_o2 (⟨n.2.2.2.1, n.2.2.2.2.1, n.2.2.2.2.2.2.2, n.2.2.2.2.2.1, n.2.2.2.2.2.2.1⟩ : exec_run_o2)), (2002, Row n.2.2.2.2.2.2.2 71 kOut n.2.2.1)]) (acts4, 0, r1.out, r1.Env, r1.groups, r1.header, r1.depth, v3) ⟨Sfx.start _, h⟩ ⟨rfl, ⟨rfl, rfl, rfl, rfl, trivial⟩, ⟨rfl, rfl, trivial⟩⟩ ?_
  rintro ⟨l18, i17, l11, b13, b14, b15, b16, v12⟩ ⟨hsf1, h⟩
  change Sfx acts4 i17 l18 at hsf1
  change F_exec_run_do_s_l1 R_exec_run_group l18 i17 l11 b13 b14 b15 b16 = some r at h
  change AW _ _ _ ⟨slots [(0, ptrL g2 (Lens.id kexec_run_o2)), (6, rd (ksl kAction) acts4), (7, rd (kint .i64) (acts4.length : Int)), (8, rd (kint .i64) (i17 : Int))], ress [(0, Blk g2 gT kexec_run_o2 (⟨b13, b14, v12, b15, b16⟩ : exec_run_o2)), (2002, Row v12 71 kOut l11)], _⟩
  cases l18 with
  | nil =>
    unfold F_exec_run_do_s_l1 at h
    refine SR <| Ac (op_lss rfl rfl (vt rfl) (vt rfl)) rfl <| Nl <| AW.seq <| Cn rfl (fun hc => absurd (of_decide_eq_true hc) hsf1.nil) (fun hc => ?_)
    refine AW.exit ?_
    obtain rfl := si h
    exact RetOK.turn (Turn.packF 0 2002 (fun v => (⟨b13, b14, v, b15, b16⟩ : exec_run_o2)) (by decide) rfl rfl) (ret0Y (i := 0) Tryz.results239 rfl rfl)
  | cons x19 l18 =>
    unfold F_exec_run_do_s_l1 at h
    generalize hgo1 : F_exec_run_do_s_l1 R_exec_run_group l18 = go1 at h
    refine SR <| Ac (op_lss rfl rfl (vt rfl) (vt rfl)) rfl <| Nl <| AW.seq <| Cn rfl (fun hc => ?_) (fun hc => absurd hsf1.cons (of_decide_eq_false hc))
    have hlti17 := of_decide_eq_true hc
    refine AW.skip <| AW.seq <| AW.block <| SR <| Ac (op_indexs' rfl rfl sl122 (vt rfl) (vt rfl) hsf1.lget) rfl <| Lp1 ty121 rfl <| Ct rfl (op_alloc 6 rfl rfl zr121) ?_
    rintro _ ⟨g20, rfl⟩
    refine Sto ty121 6 rfl <| Nl <| SR <| FdA lAction_0 fl121_0 rfl <| Ld ty3 6 rfl <| Nl <| AW.block <| SR <| Ac (op_eql rfl rfl (vt rfl) (vk rfl)) rfl <| As rfl <| Nl <| Cn rfl (fun hc => ?_) (fun hc => ?_)
    · have h := cond_t hc h
      obtain ⟨x21, hx21, h⟩ := bsome h
      obtain ⟨l22, hl22, h⟩ := bsome h
      refine AW.regionAny [⟨[0], [26], [], []⟩, ⟨[0], [27], [], []⟩, ⟨[27], [28], [], []⟩, ⟨[28], [29], [], []⟩, ⟨[29], [30], [0], []⟩, ⟨[5], [31], [], []⟩, ⟨[31], [32], [6], []⟩, ⟨[5], [33], [6], []⟩, ⟨[33], [34], [], []⟩, ⟨[0], [35], [], []⟩, ⟨[35], [36], [], []⟩, ⟨[36], [37], [], []⟩, ⟨[37], [38], [0], []⟩, ⟨[32, 34, 38], [39], [], []⟩, ⟨[39], [40], [], []⟩, ⟨[30, 40], [41], [2002], [2002]⟩, ⟨[26], [42], [], []⟩, ⟨[42], [43], [], []⟩, ⟨[43, 41], [41], [0], [0]⟩] mixed (by kernel_rfl) <| SMp rfl <| SMp rfl <| SNc rfl <| SFd lexec_run_o2_2 flv237_2_2 rfl <| Sc (lo [29] [0] rfl fun S hs hr => op_loadv v12 rfl rfl tyr46 (vh hs 29 rfl rfl) (i := 0) ((hr 0 rfl).trans rfl) rfl) rfl <| SFd lAction_1 fl121_1 rfl <| SLd ty3 6 rfl <| SLd ty121 6 rfl <| SCl [33] (c_exec_most _ _ hx21) e286 rfl <| SMp rfl <| SNc rfl <| SFd lexec_run_o2_3 flv237_3_2 rfl <| SLd ty44 0 rfl <| Sc (lo [32, 34, 38] [] rfl fun S hs hr => op_build (ps := [(0, .tmp 32), (1, .tmp 34), (2, .tmp 38)]) (x := (⟨x19.Port, x21, b15⟩ : Out)) rfl rfl rfl (by kernel_rfl) zr71 ⟨_, _, lOut_0, _, by kernel_rfl, (vh hs 32 rfl rfl), _, _, lOut_1, _, by kernel_rfl, (vh hs 34 rfl rfl), _, _, lOut_2, _, by kernel_rfl, (vh hs 38 rfl rfl), rfl⟩) rfl <| Sc (lo [39] [] rfl fun S hs hr => op_buildSliceR (ps := [(0, .tmp 39)]) (l := [(⟨x19.Port, x21, b15⟩ : Out)]) rfl rfl sl46 zr71 rfl rfl ⟨_, _, Lens.idx 1 kOut 0 (by decide), _, rfl, (vh hs 39 rfl rfl), rfl⟩ rfl) rfl <| Sc (locs (us := [(41, ownR 71 kOut l22)]) (ur := [(2002, emp)]) [30, 40] [2002] rfl fun S hs hr => op_appendO 2002 hl22 rfl rfl rfl el46 (vh hs 30 rfl rfl) ((hr 2002 rfl).trans rfl) (vh hs 40 rfl rfl)) rfl <| SNc rfl <| SFd lexec_run_o2_2 flv237_2_2 rfl <| Sc (locs (us := [(41, top)]) (ur := [(0, BoxF g2 gT kexec_run_o2 (fun v => ((Lens.comp (Lens.id kexec_run_o2) lexec_run_o2_2)).set (⟨b13, b14, v12, b15, b16⟩ : exec_run_o2) v) 71 kOut l22)]) [43, 41] [0] rfl fun S hs hr => op_storeR rfl rfl tyr46 (vh hs 43 rfl rfl) ((hr 0 rfl).trans rfl) ((hs 41 rfl).trans rfl)) rfl <| AW.unboxF 0 2002 (by decide) rfl rfl fun v23 => Rg <| Ac (op_incr (t := 7) rfl rfl (vt rfl) (vk rfl) (vt rfl) hlti17) rfl <| Md rfl <| Nl ?_
      subst hgo1
      exact ⟨(l18, i17 + 1, l22, b13, b14, b15, b16, v23), Nat.lt_succ_self _, ⟨hsf1.next, h⟩, ⟨rfl, ⟨rfl, rfl, rfl, rfl, trivial⟩, ⟨rfl, rfl, trivial⟩⟩⟩
    · have h := cond_f hc h
      refine SR <| Ac (op_eql rfl rfl (vt rfl) (vk rfl)) rfl <| As rfl <| Nl <| Cn rfl (fun hc => ?_) (fun hc => ?_)
      · have h := cond_t hc h
        obtain ⟨b24, hb24, h⟩ := bsome h
        refine Rg <| Mp rfl <| FdA lAction_3 fl121_3 rfl <| Ld ty3 6 rfl <| AOps.packF 0 2002 (fun v => (⟨b13, b14, v, b15, b16⟩ : exec_run_o2)) (by decide) rfl rfl <| Ct rfl (op_callR 0 (xs := [.tmp 46, .tmp 48]) (hR_exec_run_group _ _ _ _ _ hb24) e178 rfl rfl ⟨vt rfl, vt rfl, trivial⟩ rfl) ?_
        rintro _ ⟨_u, rfl⟩
        refine AOps.unboxF 0 2002 (by decide) rfl rfl fun v25 => Nl <| Rg <| Ac (op_incr (t := 7) rfl rfl (vt rfl) (vk rfl) (vt rfl) hlti17) rfl <| Md rfl <| Nl ?_
        subst hgo1
        exact ⟨(l18, i17 + 1, b24.out, b24.Env, b24.groups, b24.header, b24.depth, v25), Nat.lt_succ_self _, ⟨hsf1.next, h⟩, ⟨rfl, ⟨rfl, rfl, rfl, rfl, trivial⟩, ⟨rfl, rfl, trivial⟩⟩⟩
      · have h := cond_f hc h
        obtain ⟨x26, hx26, h⟩ := bsome h
        obtain ⟨x27, hx27, h⟩ := bsome h
        refine AW.regionAny [⟨[0], [14], [], []⟩, ⟨[5], [15], [6], []⟩, ⟨[15], [16], [], []⟩, ⟨[0], [17], [], []⟩, ⟨[17], [18], [], []⟩, ⟨[18], [19], [], []⟩, ⟨[19], [20], [0], []⟩, ⟨[16, 20], [21], [], []⟩, ⟨[14], [22], [], []⟩, ⟨[22], [23], [], []⟩, ⟨[23, 21], [], [0], [0]⟩] mixed (by kernel_rfl) <| SMp rfl <| SLd ty121 6 rfl <| SCl [15] (c_aset_Rewrite _ _ hx26) e287 rfl <| SMp rfl <| SNc rfl <| SFd lexec_run_o2_3 flv237_3_2 rfl <| SLd ty44 0 rfl <| SCl [16, 20] (c_rewrite_Apply _ _ _ hx27) e109 rfl <| SNc rfl <| SFd lexec_run_o2_3 flv237_3_2 rfl <| SSt ty44 0 rfl <| Rg <| Ac (op_incr (t := 7) rfl rfl (vt rfl) (vk rfl) (vt rfl) hlti17) rfl <| Md rfl <| Nl ?_
        subst hgo1
        exact ⟨(l18, i17 + 1, l11, b13, b14, x27, b16, v12), Nat.lt_succ_self _, ⟨hsf1.next, h⟩, ⟨rfl, ⟨rfl, rfl, rfl, rfl, trivial⟩, ⟨rfl, rfl, trivial⟩⟩⟩
def FR_exec_run_do__exec_run_group : Nat → (exec_run → (List Action) → Option exec_run) × (exec_run → Int → Option exec_run)
  | 0 => ((fun _ _ => none), (fun _ _ => none))
  | n + 1 => ((F_exec_run_do_s (FR_exec_run_do__exec_run_group n).1 (FR_exec_run_do__exec_run_group n).2), (F_exec_run_group_s (FR_exec_run_do__exec_run_group n).1 (FR_exec_run_do__exec_run_group n).2))
theorem cR_exec_run_do__exec_run_group : ∀ n : Nat, (∀ (g2 gT : Nat) (r1 : exec_run) (acts4 : (List Action)) (r : exec_run), (FR_exec_run_do__exec_run_group n).1 r1 acts4 = some r → Con Tryz.prog 239 [ptrL g2 (Lens.id kexec_run_o2), rd (ksl kAction) acts4] (BoxF g2 gT kexec_run_o2 (fun v => (⟨r1.Env, r1.groups, v, r1.header, r1.depth⟩ : exec_run_o2)) 71 kOut r1.out) (fun _ : Unit => top) (fun _ => BoxF g2 gT kexec_run_o2 (fun v => (⟨r.Env, r.groups, v, r.header, r.depth⟩ : exec_run_o2)) 71 kOut r.out)) ∧ (∀ (g2 gT : Nat) (r1 : exec_run) (id4 : Int) (r : exec_run), (FR_exec_run_do__exec_run_group n).2 r1 id4 = some r → Con Tryz.prog 178 [ptrL g2 (Lens.id kexec_run_o2), rd (kint .i64) id4] (BoxF g2 gT kexec_run_o2 (fun v => (⟨r1.Env, r1.groups, v, r1.header, r1.depth⟩ : exec_run_o2)) 71 kOut r1.out) (fun _ : Unit => top) (fun _ => BoxF g2 gT kexec_run_o2 (fun v => (⟨r.Env, r.groups, v, r.header, r.depth⟩ : exec_run_o2)) 71 kOut r.out))
  | 0 => ⟨(by intros; rename_i h; cases h), (by intros; rename_i h; cases h)⟩
  | n + 1 => by
    have ih := cR_exec_run_do__exec_run_group n
    exact ⟨(c_exec_run_do_s (FR_exec_run_do__exec_run_group n).1 ih.1 (FR_exec_run_do__exec_run_group n).2 ih.2), (c_exec_run_group_s (FR_exec_run_do__exec_run_group n).1 ih.1 (FR_exec_run_do__exec_run_group n).2 ih.2)⟩
def F_exec_run_do (r1 : exec_run) (acts4 : (List Action)) : Option exec_run := (FR_exec_run_do__exec_run_group fuel0).1 r1 acts4
theorem c_exec_run_do : ∀ (g2 gT : Nat) (r1 : exec_run) (acts4 : (List Action)) (r : exec_run), F_exec_run_do r1 acts4 = some r → Con Tryz.prog 239 [ptrL g2 (Lens.id kexec_run_o2), rd (ksl kAction) acts4] (BoxF g2 gT kexec_run_o2 (fun v => (⟨r1.Env, r1.groups, v, r1.header, r1.depth⟩ : exec_run_o2)) 71 kOut r1.out) (fun _ : Unit => top) (fun _ => BoxF g2 gT kexec_run_o2 (fun v => (⟨r.Env, r.groups, v, r.header, r.depth⟩ : exec_run_o2)) 71 kOut r.out) := (cR_exec_run_do__exec_run_group fuel0).1
def F_exec_Do (l1 : (List Group)) (e2 : Env) (acts3 : (List Action)) (h4 : (Vector Wide 24)) : Option ((List Out) × (Vector Wide 24)) :=
  (F_exec_run_do (⟨e2, l1, [], h4, 0⟩ : exec_run) acts3).bind fun b9 => some (b9.out, b9.header)
theorem c_exec_Do (l1 : (List Group)) (e2 : Env) (acts3 : (List Action)) (h4 : (Vector Wide 24)) (r : ((List Out) × (Vector Wide 24))) (h : F_exec_Do l1 e2 acts3 h4 = some r) : PCon Tryz.prog 212 [rd (ksl kGroup) l1, rd kEnv e2, rd (ksl kAction) acts3, rd (karr 24 kWide) h4] (tup2 (rd (ksl kOut) r.1) (rd (karr 24 kWide) r.2)) := by
  refine PCon.of (Con.intro0 Tryz.func212 rfl Tryz.ntmps212 rfl fun w H => ?_)
  unfold F_exec_Do at h
  refine SR <| Ct rfl (op_box 6 rfl rfl (vt rfl)) ?_
  rintro _ ⟨g5, rfl⟩
  refine Ct rfl (op_box 8 rfl rfl (vt rfl)) ?_
  rintro _ ⟨g6, rfl⟩
  refine Ac (op_assign (A := rd (ksl kOut) []) rfl rfl vnil) rfl <| Ct rfl (op_alloc 10 rfl rfl zr44) ?_
  rintro _ ⟨g7, rfl⟩
  refine Nl <| AW.seq <| AW.newnil 2322 71 kOut <| Rg <| Ld ty39 6 rfl <| Md rfl <| Ld ty44 8 rfl <| Ac (op_build (ps := [(0, .tmp 11), (1, .tmp 12), (3, .tmp 13)]) (x := (⟨e2, l1, (.slice none 0 0), h4, 0⟩ : exec_run_o2)) rfl rfl rfl (by kernel_rfl) zrv237_2 ⟨_, _, lexec_run_o2_0, _, by kernel_rfl, (vt rfl), _, _, lexec_run_o2_1, _, by kernel_rfl, (vt rfl), _, _, lexec_run_o2_3, _, by kernel_rfl, (vt rfl), rfl⟩) rfl <| Ct rfl (op_box 16 rfl rfl (vt rfl)) ?_
  rintro _ ⟨g8, rfl⟩
  refine Ac (op_assign (A := ptrL g8 (Lens.id kexec_run_o2)) rfl rfl (vt rfl)) rfl <| Nl <| AW.seq ?_
  obtain ⟨b9, hb9, h⟩ := bsome h
  refine Rg <| Mp rfl <| Md rfl <| AOps.packF 16 2322 (fun v => (⟨e2, l1, v, h4, 0⟩ : exec_run_o2)) (by decide) rfl rfl <| Ct rfl (op_callR 16 (xs := [.tmp 16, .tmp 17]) (c_exec_run_do _ _ _ _ _ hb9) e239 rfl rfl ⟨vt rfl, vt rfl, trivial⟩ rfl) ?_
  rintro _ ⟨_u, rfl⟩
  refine AOps.unboxF 16 2322 (by decide) rfl rfl fun v10 => Nl <| AW.seq <| AW.regionAny [⟨[10], [19], [], []⟩, ⟨[19], [20], [], []⟩, ⟨[20], [21], [], []⟩, ⟨[21], [22], [16], []⟩, ⟨[10], [23], [], []⟩, ⟨[23], [24], [], []⟩, ⟨[24], [25], [], []⟩, ⟨[25], [26], [16], []⟩, ⟨[22], [8], [], []⟩, ⟨[9, 26], [], [10], [10]⟩] mixed (by kernel_rfl) <| SMp rfl <| SNc rfl <| SFd lexec_run_o2_2 flv237_2_2 rfl <| Sc (lo [21] [16] rfl fun S hs hr => op_loadv v10 rfl rfl tyr46 (vh hs 21 rfl rfl) (i := 16) ((hr 16 rfl).trans rfl) rfl) rfl <| SMp rfl <| SNc rfl <| SFd lexec_run_o2_3 flv237_3_2 rfl <| SLd ty44 16 rfl <| Sc (lo [22] [] rfl fun S hs hr => op_assign (A := raw v10) rfl rfl (vh hs 22 rfl rfl)) rfl <| SSt ty44 10 rfl <| AW.freezes [8, 22] 2322 rfl ⟨rfl, rfl, trivial⟩ rfl <| AW.ret ?_
  obtain rfl := si h
  exact ret2 Tryz.results212 rfl (out_tmp rfl) (out_cell rfl (i := 10) rfl ty44)
def F_sem_packet_act (p1 : sem_packet) (l5 : (List Action)) : Option sem_packet :=
  (F_exec_Do p1.Switch.Groups p1.env l5 p1.header).bind fun x6 => (appd p1.out x6.1).bind fun l8 => some (⟨p1.Switch, p1.env, x6.2, p1.set, l8, p1.path⟩ : sem_packet)
theorem c_sem_packet_act (g2 gT : Nat) (p1 : sem_packet) (l5 : (List Action)) (r : sem_packet) (h : F_sem_packet_act p1 l5 = some r) : Con Tryz.prog 148 [ptrL g2 (Lens.id ksem_packet_o4_5), rd (ksl kAction) l5] (Star (fun v2 => BoxF g2 gT ksem_packet_o4_5 (fun v => (⟨p1.Switch, p1.env, p1.header, p1.set, v, v2⟩ : sem_packet_o4_5)) 71 kOut p1.out) 51 kPlace p1.path) (fun _ : Unit => top) (fun _ => Star (fun v2 => BoxF g2 gT ksem_packet_o4_5 (fun v => (⟨r.Switch, r.env, r.header, r.set, v, v2⟩ : sem_packet_o4_5)) 71 kOut r.out) 51 kPlace r.path) := by
  refine Con.intro Tryz.func148 rfl Tryz.ntmps148 rfl fun w H X => ?_
  unfold F_sem_packet_act at h
  refine AW.unboxS 0 2005 (by decide) rfl rfl fun v4 => AW.unboxF 0 2004 (by decide) rfl rfl fun v3 => AW.seq ?_
  obtain ⟨x6, hx6, h⟩ := bsome h
  refine AW.regionAny [⟨[0], [7], [], []⟩, ⟨[7], [8], [], []⟩, ⟨[8], [9], [], []⟩, ⟨[9], [10], [], []⟩, ⟨[10], [11], [0], []⟩, ⟨[0], [12], [], []⟩, ⟨[12], [13], [], []⟩, ⟨[13], [14], [], []⟩, ⟨[14], [15], [0], []⟩, ⟨[1], [16], [], []⟩, ⟨[0], [17], [], []⟩, ⟨[17], [18], [], []⟩, ⟨[18], [19], [], []⟩, ⟨[19], [20], [0], []⟩, ⟨[11, 15, 16, 20], [21], [], []⟩, ⟨[21], [6], [], []⟩, ⟨[6], [22], [], []⟩, ⟨[6], [23], [], []⟩, ⟨[], [5], [], []⟩, ⟨[22], [4], [], []⟩, ⟨[5, 23], [5], [], []⟩] mixed (by kernel_rfl) <| SMp rfl <| SNc rfl <| SFd lsem_packet_o4_5_0 flv144_0_4_5 rfl <| SFd lSwitch_1 fl26_1 rfl <| SLd ty24 0 rfl <| SMp rfl <| SNc rfl <| SFd lsem_packet_o4_5_1 flv144_1_4_5 rfl <| SLd ty39 0 rfl <| SMd rfl <| SMp rfl <| SNc rfl <| SFd lsem_packet_o4_5_2 flv144_2_4_5 rfl <| SLd ty44 0 rfl <| SCl [11, 15, 16, 20] (c_exec_Do _ _ _ _ _ hx6) e212 rfl <| Sc (lo [21] [] rfl fun S hs hr => op_move (A := tup2 (rd (ksl kOut) x6.1) (rd (karr 24 kWide) x6.2)) rfl rfl (vh hs 21 rfl rfl)) rfl <| Sc (lo [6] [] rfl fun S hs hr => op_fst rfl rfl (vh hs 6 rfl rfl)) rfl <| Sc (lo [6] [] rfl fun S hs hr => op_snd rfl rfl (vh hs 6 rfl rfl)) rfl <| Sc (locs (us := [(5, ownP 44 (karr 24 kWide) (Vector.replicate 24 zWide))]) (ur := []) [] [] rfl fun S hs hr => op_allocO rfl rfl rfl zr44) rfl <| SAs rfl <| Sc (locs (us := [(5, ownP 44 (karr 24 kWide) x6.2)]) (ur := []) [5, 23] [] rfl fun S hs hr => op_storeO rfl rfl ty44 ((hs 5 rfl).trans rfl) (vh hs 23 rfl rfl)) rfl <| AW.unpackP 5 6 rfl rfl fun g7 => ?_
  obtain ⟨l8, hl8, h⟩ := bsome h
  refine AW.endT <| AW.regionAny [⟨[0], [24], [], []⟩, ⟨[0], [25], [], []⟩, ⟨[0], [26], [], []⟩, ⟨[26], [27], [], []⟩, ⟨[27], [28], [], []⟩, ⟨[28], [29], [0], []⟩, ⟨[4], [30], [], []⟩, ⟨[29, 30], [31], [2004], [2004]⟩, ⟨[5], [32], [6], []⟩, ⟨[24], [33], [], []⟩, ⟨[33], [34], [], []⟩, ⟨[34, 31], [31], [0], [0]⟩, ⟨[25], [35], [], []⟩, ⟨[35], [36], [], []⟩, ⟨[36, 32], [], [0], [0]⟩] mixed (by kernel_rfl) <| SMp rfl <| SMp rfl <| SMp rfl <| SNc rfl <| SFd lsem_packet_o4_5_4 flv144_4_4_5 rfl <| Sc (lo [28] [0] rfl fun S hs hr => op_loadv v3 rfl rfl tyr46 (vh hs 28 rfl rfl) (i := 0) ((hr 0 rfl).trans rfl) rfl) rfl <| SMd rfl <| Sc (locs (us := [(31, ownR 71 kOut l8)]) (ur := [(2004, emp)]) [29, 30] [2004] rfl fun S hs hr => op_appendO 2004 hl8 rfl rfl rfl el46 (vh hs 29 rfl rfl) ((hr 2004 rfl).trans rfl) (vh hs 30 rfl rfl)) rfl <| SLd ty44 6 rfl <| SNc rfl <| SFd lsem_packet_o4_5_4 flv144_4_4_5 rfl <| Sc (locs (us := [(31, top)]) (ur := [(0, BoxF g2 gT ksem_packet_o4_5 (fun v => ((Lens.comp (Lens.id ksem_packet_o4_5) lsem_packet_o4_5_4)).set (⟨p1.Switch, p1.env, p1.header, p1.set, v3, v4⟩ : sem_packet_o4_5) v) 71 kOut l8)]) [34, 31] [0] rfl fun S hs hr => op_storeR rfl rfl tyr46 (vh hs 34 rfl rfl) ((hr 0 rfl).trans rfl) ((hs 31 rfl).trans rfl)) rfl <| SNc rfl <| SFd lsem_packet_o4_5_2 flv144_2_4_5 rfl <| Sc (locr [36, 32] [0] rfl fun S hs hr => op_storeF rfl rfl ty44 (vh hs 36 rfl rfl) (i := 0) ((hr 0 rfl).trans rfl) (vh hs 32 rfl rfl)) rfl <| EndT.unboxF 0 2004 (by decide) rfl rfl fun v9 => EndT.done ?_
  obtain rfl := si h
  exact RetOK.turn (Turn.packF 0 2004 (fun v => (⟨p1.Switch, p1.env, x6.2, p1.set, v, v4⟩ : sem_packet_o4_5)) (by decide) rfl rfl) (RetOK.turn (Turn.packS 0 2005 (fun v2 => BoxF g2 gT ksem_packet_o4_5 (fun v => (⟨p1.Switch, p1.env, x6.2, p1.set, v, v2⟩ : sem_packet_o4_5)) 71 kOut l8) (by decide) rfl rfl) (ret0Y (i := 0) Tryz.results148 rfl rfl))
def F_sem_packet_follow_j4 (l6 : (List Inst)) (at5 : Int) (l7 : (List Out)) (l9 : (List Place)) (b23 : Switch) (b24 : Env) (b25 : (Vector Wide 24)) (b26 : (List Action)) : Option (Int × Bool × sem_packet) :=
  (F_inst_Of l6 1).bind fun x27 => some (x27.1.Table, ((x27.2 && (decide (x27.1.Table > at5))) && (decide (x27.1.Table < 4))), (⟨b23, b24, b25, b26, l7, l9⟩ : sem_packet))
def F_sem_packet_follow_j3 (l6 : (List Inst)) (at5 : Int) (l7 : (List Out)) (l9 : (List Place)) (b19 : Switch) (b20 : Env) (b21 : (Vector Wide 24)) (b22 : (List Action)) : Option (Int × Bool × sem_packet) :=
  (F_inst_Of l6 2).bind fun x29 => (bif x29.2 then (F_rewrite_None).bind fun x31 => (F_rewrite_Set x31 1 x29.1.Value x29.1.Mask).bind fun x32 => (F_rewrite_Apply x32 b21).bind fun x33 => F_sem_packet_follow_j4 l6 at5 l7 l9 b19 b20 x33 b22 else F_sem_packet_follow_j4 l6 at5 l7 l9 b19 b20 b21 b22)
def F_sem_packet_follow_j2 (l6 : (List Inst)) (at5 : Int) (l7 : (List Out)) (l9 : (List Place)) (b15 : Switch) (b16 : Env) (b17 : (Vector Wide 24)) (b18 : (List Action)) : Option (Int × Bool × sem_packet) :=
  (F_inst_Of l6 3).bind fun x34 => (bif x34.2 then (F_aset_Write b18 x34.1.Acts).bind fun x36 => F_sem_packet_follow_j3 l6 at5 l7 l9 b15 b16 b17 x36 else F_sem_packet_follow_j3 l6 at5 l7 l9 b15 b16 b17 b18)
def F_sem_packet_follow_j1 (l6 : (List Inst)) (at5 : Int) (l7 : (List Out)) (l9 : (List Place)) (b11 : Switch) (b12 : Env) (b13 : (Vector Wide 24)) (b14 : (List Action)) : Option (Int × Bool × sem_packet) :=
  (F_inst_Of l6 5).bind fun x37 => (bif x37.2 then F_sem_packet_follow_j2 l6 at5 l7 l9 b11 b12 b13 [] else F_sem_packet_follow_j2 l6 at5 l7 l9 b11 b12 b13 b14)
def F_sem_packet_follow (p1 : sem_packet) (at5 : Int) (l6 : (List Inst)) : Option (Int × Bool × sem_packet) :=
  (F_inst_Of l6 4).bind fun x39 => (bif x39.2 then (F_sem_packet_act (⟨p1.Switch, p1.env, p1.header, p1.set, p1.out, p1.path⟩ : sem_packet) x39.1.Acts).bind fun b41 => F_sem_packet_follow_j1 l6 at5 b41.out b41.path b41.Switch b41.env b41.header b41.set else F_sem_packet_follow_j1 l6 at5 p1.out p1.path p1.Switch p1.env p1.header p1.set)
theorem c_sem_packet_follow (g2 gT : Nat) (p1 : sem_packet) (at5 : Int) (l6 : (List Inst)) (r : (Int × Bool × sem_packet)) (h : F_sem_packet_follow p1 at5 l6 = some r) : Con Tryz.prog 147 [ptrL g2 (Lens.id ksem_packet_o4_5), rd (kint .i64) at5, rd (ksl kInst) l6] (Star (fun v2 => BoxF g2 gT ksem_packet_o4_5 (fun v => (⟨p1.Switch, p1.env, p1.header, p1.set, v, v2⟩ : sem_packet_o4_5)) 71 kOut p1.out) 51 kPlace p1.path) (fun _ : Unit => tup2 (rd (kint .i64) r.1) (rd kbool r.2.1)) (fun _ => Star (fun v2 => BoxF g2 gT ksem_packet_o4_5 (fun v => (⟨r.2.2.Switch, r.2.2.env, r.2.2.header, r.2.2.set, v, v2⟩ : sem_packet_o4_5)) 71 kOut r.2.2.out) 51 kPlace r.2.2.path) := by
  refine Con.intro Tryz.func147 rfl Tryz.ntmps147 rfl fun w H X => ?_
  unfold F_sem_packet_follow at h
  refine AW.unboxS 0 2005 (by decide) rfl rfl fun v4 => AW.unboxF 0 2004 (by decide) rfl rfl fun v3 => SR <| Ak rfl <| Ab rfl <| Nl ?_
  refine AW.join (d := []) (ν := (List Out) × (List Place) × Switch × Env × (Vector Wide 24) × (List Action) × Value × Value) (fun n => F_sem_packet_follow_j1 l6 at5 n.1 n.2.1 n.2.2.1 n.2.2.2.1 n.2.2.2.2.1 n.2.2.2.2.2.1 = some r) (fun n => [(0, ptrL g2 (Lens.id ksem_packet_o4_5)), (1, rd (kint .i64) at5), (2, rd (ksl kInst) l6)]) (fun n => [(0, Blk g2 gT ksem_packet_o4_5 (⟨n.2.2.1, n.2.2.2.1, n.2.2.2.2.1, n.2.2.2.2.2.1, n.2.2.2.2.2.2.1, n.2.2.2.2.2.2.2⟩ : sem_packet_o4_5)), (2004, Row n.2.2.2.2.2.2.1 71 kOut n.1), (2005, Row n.2.2.2.2.2.2.2 51 kPlace n.2.1)]) ?hx1 ?hy1
  case hy1 =>
    rintro ⟨l7, l9, b11, b12, b13, b14, v8, v10⟩ h
    unfold F_sem_packet_follow_j1 at h
    change AW _ _ _ ⟨slots [(0, ptrL g2 (Lens.id ksem_packet_o4_5)), (1, rd (kint .i64) at5), (2, rd (ksl kInst) l6)], ress [(0, Blk g2 gT ksem_packet_o4_5 (⟨b11, b12, b13, b14, v8, v10⟩ : sem_packet_o4_5)), (2004, Row v8 71 kOut l7), (2005, Row v10 51 kPlace l9)], _⟩
    refine AW.join (d := []) (ν := Switch × Env × (Vector Wide 24) × (List Action)) (fun n => F_sem_packet_follow_j2 l6 at5 l7 l9 n.1 n.2.1 n.2.2.1 n.2.2.2 = some r) (fun n => [(0, ptrL g2 (Lens.id ksem_packet_o4_5)), (1, rd (kint .i64) at5), (2, rd (ksl kInst) l6)]) (fun n => [(0, Blk g2 gT ksem_packet_o4_5 (⟨n.1, n.2.1, n.2.2.1, n.2.2.2, v8, v10⟩ : sem_packet_o4_5)), (2004, Row v8 71 kOut l7), (2005, Row v10 51 kPlace l9)]) ?hx2 ?hy2
    case hy2 =>
      rintro ⟨b15, b16, b17, b18⟩ h
      unfold F_sem_packet_follow_j2 at h
      change AW _ _ _ ⟨slots [(0, ptrL g2 (Lens.id ksem_packet_o4_5)), (1, rd (kint .i64) at5), (2, rd (ksl kInst) l6)], ress [(0, Blk g2 gT ksem_packet_o4_5 (⟨b15, b16, b17, b18, v8, v10⟩ : sem_packet_o4_5)), (2004, Row v8 71 kOut l7), (2005, Row v10 51 kPlace l9)], _⟩
      refine AW.join (d := []) (ν := Switch × Env × (Vector Wide 24) × (List Action)) (fun n => F_sem_packet_follow_j3 l6 at5 l7 l9 n.1 n.2.1 n.2.2.1 n.2.2.2 = some r) (fun n => [(0, ptrL g2 (Lens.id ksem_packet_o4_5)), (1, rd (kint .i64) at5), (2, rd (ksl kInst) l6)]) (fun n => [(0, Blk g2 gT ksem_packet_o4_5 (⟨n.1, n.2.1, n.2.2.1, n.2.2.2, v8, v10⟩ : sem_packet_o4_5)), (2004, Row v8 71 kOut l7), (2005, Row v10 51 kPlace l9)]) ?hx3 ?hy3
      case hy3 =>
        rintro ⟨b19, b20, b21, b22⟩ h
        unfold F_sem_packet_follow_j3 at h
        change AW _ _ _ ⟨slots [(0, ptrL g2 (Lens.id ksem_packet_o4_5)), (1, rd (kint .i64) at5), (2, rd (ksl kInst) l6)], ress [(0, Blk g2 gT ksem_packet_o4_5 (⟨b19, b20, b21, b22, v8, v10⟩ : sem_packet_o4_5)), (2004, Row v8 71 kOut l7), (2005, Row v10 51 kPlace l9)], _⟩
        refine AW.join (d := []) (ν := Switch × Env × (Vector Wide 24) × (List Action)) (fun n => F_sem_packet_follow_j4 l6 at5 l7 l9 n.1 n.2.1 n.2.2.1 n.2.2.2 = some r) (fun n => [(1, rd (kint .i64) at5), (2, rd (ksl kInst) l6)]) (fun n => [(0, Blk g2 gT ksem_packet_o4_5 (⟨n.1, n.2.1, n.2.2.1, n.2.2.2, v8, v10⟩ : sem_packet_o4_5)), (2004, Row v8 71 kOut l7), (2005, Row v10 51 kPlace l9)]) ?hx4 ?hy4
        case hy4 =>
          rintro ⟨b23, b24, b25, b26⟩ h
          unfold F_sem_packet_follow_j4 at h
          change AW _ _ _ ⟨slots [(1, rd (kint .i64) at5), (2, rd (ksl kInst) l6)], ress [(0, Blk g2 gT ksem_packet_o4_5 (⟨b23, b24, b25, b26, v8, v10⟩ : sem_packet_o4_5)), (2004, Row v8 71 kOut l7), (2005, Row v10 51 kPlace l9)], _⟩
          refine AW.seq ?_
          obtain ⟨x27, hx27, h⟩ := bsome h
          refine Rg <| Md rfl <| Ac (op_call (xs := [.tmp 74, .const (Value.int IntKind.i64 1)]) (c_inst_Of _ _ _ hx27) e204 rfl rfl ⟨vt rfl, vk rfl, trivial⟩) rfl <| Mt2 rfl <| Ac (op_fst rfl rfl (vt rfl)) rfl <| Ac (op_snd rfl rfl (vt rfl)) rfl <| Ct rfl (op_alloc 17 rfl rfl zr124) ?_
          rintro _ ⟨g28, rfl⟩
          refine Sto ty124 17 rfl <| As rfl <| Nl <| AW.seq <| AW.regionAny [⟨[16], [78], [], []⟩, ⟨[78], [79], [17], []⟩, ⟨[17], [80], [], []⟩, ⟨[80], [81], [], []⟩, ⟨[16, 81], [82], [], []⟩, ⟨[82, 81], [83], [17], []⟩, ⟨[1, 81], [84], [], []⟩, ⟨[83, 84, 81], [85], [], []⟩, ⟨[85, 81], [86], [], []⟩, ⟨[86], [87], [], []⟩, ⟨[16, 87], [88], [], []⟩, ⟨[88, 87], [89], [17], []⟩, ⟨[89, 87], [90], [], []⟩, ⟨[90, 87], [91], [], []⟩, ⟨[79], [6], [], []⟩, ⟨[91], [7], [], []⟩] mixed (by kernel_rfl) <| SFd lInst_1 fl124_1 rfl <| SLd ty3 17 rfl <| SMd rfl <| SMd rfl <| Sc (lg [16, 81] [] rfl fun hq S hs hr => op_field lInst_1 rfl rfl fl124_1 (vh hs 16 rfl rfl)) rfl <| Sc (lg [82, 81] [17] rfl fun hq S hs hr => op_load rfl rfl ty3 (vgt ((hs 82 rfl).trans rfl) hq) (i := 17) ((hr 17 rfl).trans rfl)) rfl <| Sc (lg [1, 81] [] rfl fun hq S hs hr => op_move (A := rd (kint .i64) at5) rfl rfl (vh hs 1 rfl rfl)) rfl <| Sc (lg [83, 84, 81] [] rfl fun hq S hs hr => op_gtr rfl rfl (vgt ((hs 83 rfl).trans rfl) hq) (vgt ((hs 84 rfl).trans rfl) hq)) rfl <| Sc (lo [85, 81] [] rfl fun S hs hr => op_all rfl rfl (vh hs 81 rfl rfl) (vh hs 85 rfl rfl)) rfl <| SMd rfl <| Sc (lg [16, 87] [] rfl fun hq S hs hr => op_field lInst_1 rfl rfl fl124_1 (vh hs 16 rfl rfl)) rfl <| Sc (lg [88, 87] [17] rfl fun hq S hs hr => op_load rfl rfl ty3 (vgt ((hs 88 rfl).trans rfl) hq) (i := 17) ((hr 17 rfl).trans rfl)) rfl <| Sc (lg [89, 87] [] rfl fun hq S hs hr => op_lss rfl rfl (vgt ((hs 89 rfl).trans rfl) hq) (vk rfl)) rfl <| Sc (lo [90, 87] [] rfl fun S hs hr => op_all rfl rfl (vh hs 87 rfl rfl) (vh hs 90 rfl rfl)) rfl <| SAs rfl <| SAs rfl <| AW.ret ?_
          obtain rfl := si h
          exact RetOK.turn (Turn.packF 0 2004 (fun v => (⟨b23, b24, b25, b26, v, v10⟩ : sem_packet_o4_5)) (by decide) rfl rfl) (RetOK.turn (Turn.packS 0 2005 (fun v2 => BoxF g2 gT ksem_packet_o4_5 (fun v => (⟨b23, b24, b25, b26, v, v2⟩ : sem_packet_o4_5)) 71 kOut l7) (by decide) rfl rfl) (ret2Y (i := 0) Tryz.results147 rfl (out_tmp rfl) (out_tmp rfl) rfl))
        case hx4 =>
          refine AW.seq ?_
          obtain ⟨x29, hx29, h⟩ := bsome h
          refine Rg <| Md rfl <| Ac (op_call (xs := [.tmp 54, .const (Value.int IntKind.i64 2)]) (c_inst_Of _ _ _ hx29) e204 rfl rfl ⟨vt rfl, vk rfl, trivial⟩) rfl <| Mt2 rfl <| Ac (op_fst rfl rfl (vt rfl)) rfl <| Ac (op_snd rfl rfl (vt rfl)) rfl <| Ct rfl (op_alloc 15 rfl rfl zr124) ?_
          rintro _ ⟨g30, rfl⟩
          refine Sto ty124 15 rfl <| As rfl <| Nl <| SR <| Md rfl <| Nl <| Cn rfl (fun hc => ?_) (fun hc => ?_)
          · have h := cond_t hc h
            obtain ⟨x31, hx31, h⟩ := bsome h
            obtain ⟨x32, hx32, h⟩ := bsome h
            obtain ⟨x33, hx33, h⟩ := bsome h
            refine AW.regionAny [⟨[0], [59], [], []⟩, ⟨[], [60], [], []⟩, ⟨[14], [61], [], []⟩, ⟨[61], [62], [15], []⟩, ⟨[14], [63], [], []⟩, ⟨[63], [64], [15], []⟩, ⟨[60, 62, 64], [65], [], []⟩, ⟨[0], [66], [], []⟩, ⟨[66], [67], [], []⟩, ⟨[67], [68], [], []⟩, ⟨[68], [69], [0], []⟩, ⟨[65, 69], [70], [], []⟩, ⟨[59], [71], [], []⟩, ⟨[71], [72], [], []⟩, ⟨[72, 70], [], [0], [0]⟩] mixed (by kernel_rfl) <| SMp rfl <| SCl [] (c_rewrite_None _ hx31) e77 rfl <| SFd lInst_2 fl124_2 rfl <| SLd ty42 15 rfl <| SFd lInst_3 fl124_3 rfl <| SLd ty42 15 rfl <| Sc (lo [60, 62, 64] [] rfl fun S hs hr => op_call (xs := [.tmp 60, .const (Value.int IntKind.i64 1), .tmp 62, .tmp 64]) (c_rewrite_Set _ _ _ _ _ hx32) e207 rfl rfl ⟨vt ((hs 60 rfl).trans rfl), vk rfl, vt ((hs 62 rfl).trans rfl), vt ((hs 64 rfl).trans rfl), trivial⟩) rfl <| SMp rfl <| SNc rfl <| SFd lsem_packet_o4_5_2 flv144_2_4_5 rfl <| SLd ty44 0 rfl <| SCl [65, 69] (c_rewrite_Apply _ _ _ hx33) e109 rfl <| SNc rfl <| SFd lsem_packet_o4_5_2 flv144_2_4_5 rfl <| SSt ty44 0 rfl ?_
            exact ⟨(b19, b20, x33, b22), h, ⟨rfl, ⟨rfl, rfl, trivial⟩, ⟨rfl, rfl, rfl, trivial⟩⟩⟩
          · have h := cond_f hc h
            refine AW.skip ?_
            exact ⟨(b19, b20, b21, b22), h, ⟨rfl, ⟨rfl, rfl, trivial⟩, ⟨rfl, rfl, rfl, trivial⟩⟩⟩
      case hx3 =>
        refine AW.seq ?_
        obtain ⟨x34, hx34, h⟩ := bsome h
        refine Rg <| Md rfl <| Ac (op_call (xs := [.tmp 38, .const (Value.int IntKind.i64 3)]) (c_inst_Of _ _ _ hx34) e204 rfl rfl ⟨vt rfl, vk rfl, trivial⟩) rfl <| Mt2 rfl <| Ac (op_fst rfl rfl (vt rfl)) rfl <| Ac (op_snd rfl rfl (vt rfl)) rfl <| Ct rfl (op_alloc 13 rfl rfl zr124) ?_
        rintro _ ⟨g35, rfl⟩
        refine Sto ty124 13 rfl <| As rfl <| Nl <| SR <| Md rfl <| Nl <| Cn rfl (fun hc => ?_) (fun hc => ?_)
        · have h := cond_t hc h
          obtain ⟨x36, hx36, h⟩ := bsome h
          refine AW.regionAny [⟨[0], [43], [], []⟩, ⟨[0], [44], [], []⟩, ⟨[44], [45], [], []⟩, ⟨[45], [46], [], []⟩, ⟨[46], [47], [0], []⟩, ⟨[12], [48], [], []⟩, ⟨[48], [49], [13], []⟩, ⟨[47, 49], [50], [], []⟩, ⟨[43], [51], [], []⟩, ⟨[51], [52], [], []⟩, ⟨[52, 50], [], [0], [0]⟩] mixed (by kernel_rfl) <| SMp rfl <| SMp rfl <| SNc rfl <| SFd lsem_packet_o4_5_3 flv144_3_4_5 rfl <| SLd ty122 0 rfl <| SFd lInst_4 fl124_4 rfl <| SLd ty122 13 rfl <| SCl [47, 49] (c_aset_Write _ _ _ hx36) e206 rfl <| SNc rfl <| SFd lsem_packet_o4_5_3 flv144_3_4_5 rfl <| SSt ty122 0 rfl ?_
          exact ⟨(b15, b16, b17, x36), h, ⟨rfl, ⟨rfl, rfl, rfl, trivial⟩, ⟨rfl, rfl, rfl, trivial⟩⟩⟩
        · have h := cond_f hc h
          refine AW.skip ?_
          exact ⟨(b15, b16, b17, b18), h, ⟨rfl, ⟨rfl, rfl, rfl, trivial⟩, ⟨rfl, rfl, rfl, trivial⟩⟩⟩
    case hx2 =>
      refine AW.seq ?_
      obtain ⟨x37, hx37, h⟩ := bsome h
      refine Rg <| Md rfl <| Ac (op_call (xs := [.tmp 29, .const (Value.int IntKind.i64 5)]) (c_inst_Of _ _ _ hx37) e204 rfl rfl ⟨vt rfl, vk rfl, trivial⟩) rfl <| Mt2 rfl <| Ac (op_fst rfl rfl (vt rfl)) rfl <| Ac (op_snd rfl rfl (vt rfl)) rfl <| Ct rfl (op_alloc 11 rfl rfl zr124) ?_
      rintro _ ⟨g38, rfl⟩
      refine Sto ty124 11 rfl <| As rfl <| Nl <| SR <| Md rfl <| Nl <| Cn rfl (fun hc => ?_) (fun hc => ?_)
      · have h := cond_t hc h
        refine Rg <| Mp rfl <| Nc rfl <| FdA lsem_packet_o4_5_3 flv144_3_4_5 rfl <| Ac (op_store rfl rfl ty122 (vt rfl) (i := 0) rfl vnil) rfl <| Nl ?_
        exact ⟨(b11, b12, b13, []), h, ⟨rfl, ⟨rfl, rfl, rfl, trivial⟩, ⟨rfl, rfl, rfl, trivial⟩⟩⟩
      · have h := cond_f hc h
        refine AW.skip ?_
        exact ⟨(b11, b12, b13, b14), h, ⟨rfl, ⟨rfl, rfl, rfl, trivial⟩, ⟨rfl, rfl, rfl, trivial⟩⟩⟩
  case hx1 =>
    refine AW.seq ?_
    obtain ⟨x39, hx39, h⟩ := bsome h
    refine Rg <| Md rfl <| Ac (op_call (xs := [.tmp 19, .const (Value.int IntKind.i64 4)]) (c_inst_Of _ _ _ hx39) e204 rfl rfl ⟨vt rfl, vk rfl, trivial⟩) rfl <| Mt2 rfl <| Ac (op_fst rfl rfl (vt rfl)) rfl <| Ac (op_snd rfl rfl (vt rfl)) rfl <| Ct rfl (op_alloc 9 rfl rfl zr124) ?_
    rintro _ ⟨g40, rfl⟩
    refine Sto ty124 9 rfl <| As rfl <| Nl <| SR <| Md rfl <| Nl <| Cn rfl (fun hc => ?_) (fun hc => ?_)
    · have h := cond_t hc h
      obtain ⟨b41, hb41, h⟩ := bsome h
      refine Rg <| Mp rfl <| FdA lInst_4 fl124_4 rfl <| Ld ty122 9 rfl <| AOps.packF 0 2004 (fun v => (⟨p1.Switch, p1.env, p1.header, p1.set, v, v4⟩ : sem_packet_o4_5)) (by decide) rfl rfl <| AOps.packS 0 2005 (fun v2 => BoxF g2 gT ksem_packet_o4_5 (fun v => (⟨p1.Switch, p1.env, p1.header, p1.set, v, v2⟩ : sem_packet_o4_5)) 71 kOut p1.out) (by decide) rfl rfl <| Ct rfl (op_callR 0 (xs := [.tmp 24, .tmp 26]) (c_sem_packet_act _ _ _ _ _ hb41) e148 rfl rfl ⟨vt rfl, vt rfl, trivial⟩ rfl) ?_
      rintro _ ⟨_u, rfl⟩
      refine AOps.unboxS 0 2005 (by decide) rfl rfl fun v43 => AOps.unboxF 0 2004 (by decide) rfl rfl fun v42 => Nl ?_
      exact ⟨(b41.out, b41.path, b41.Switch, b41.env, b41.header, b41.set, v42, v43), h, ⟨rfl, ⟨rfl, rfl, rfl, trivial⟩, ⟨rfl, rfl, rfl, trivial⟩⟩⟩
    · have h := cond_f hc h
      refine AW.skip ?_
      exact ⟨(p1.out, p1.path, p1.Switch, p1.env, p1.header, p1.set, v3, v4), h, ⟨rfl, ⟨rfl, rfl, rfl, trivial⟩, ⟨rfl, rfl, rfl, trivial⟩⟩⟩
def F_sem_packet_through_l1 : Nat → (List Out) → (List Place) → Switch → Env → (Vector Wide 24) → (List Action) → Int → Option sem_packet
  | 0, _, _, _, _, _, _, _ => none
  | m23 + 1, l14, l16, b18, b19, b20, b21, at22 => (chk 4 at22).bind fun j24 => (F_first_Find (Vector.get b18.Tables j24) b20).bind fun x25 => (bif (!x25.2) then (appd l16 [(⟨at22, (-1)⟩ : Place)]).bind fun l26 => some (⟨b18, b19, b20, b21, l14, l26⟩ : sem_packet) else (appd l16 [(⟨at22, x25.1⟩ : Place)]).bind fun l28 => (chk 4 at22).bind fun j30 => (lget (Vector.get b18.Tables j30) x25.1).bind fun e31 => (F_sem_packet_follow (⟨b18, b19, b20, b21, l14, l28⟩ : sem_packet) at22 e31.Insts).bind fun b32 => (bif (!b32.2.1) then (F_aset_List b32.2.2.set).bind fun x35 => (F_sem_packet_act (⟨b32.2.2.Switch, b32.2.2.env, b32.2.2.header, b32.2.2.set, b32.2.2.out, b32.2.2.path⟩ : sem_packet) x35).bind fun b36 => some (⟨b36.Switch, b36.env, b36.header, b36.set, b36.out, b36.path⟩ : sem_packet) else (F_sem_packet_through_l1 m23) b32.2.2.out b32.2.2.path b32.2.2.Switch b32.2.2.env b32.2.2.header b32.2.2.set b32.1))
def F_sem_packet_through (p1 : sem_packet) : Option sem_packet :=
  F_sem_packet_through_l1 fuel0 p1.out p1.path p1.Switch p1.env p1.header p1.set 0
theorem c_sem_packet_through (g2 gT : Nat) (p1 : sem_packet) (r : sem_packet) (h : F_sem_packet_through p1 = some r) : Con Tryz.prog 86 [ptrL g2 (Lens.id ksem_packet_o4_5)] (Star (fun v2 => BoxF g2 gT ksem_packet_o4_5 (fun v => (⟨p1.Switch, p1.env, p1.header, p1.set, v, v2⟩ : sem_packet_o4_5)) 71 kOut p1.out) 51 kPlace p1.path) (fun _ : Unit => top) (fun _ => Star (fun v2 => BoxF g2 gT ksem_packet_o4_5 (fun v => (⟨r.Switch, r.env, r.header, r.set, v, v2⟩ : sem_packet_o4_5)) 71 kOut r.out) 51 kPlace r.path) := by
  refine Con.intro Tryz.func86 rfl Tryz.ntmps86 rfl fun w H X => ?_
  unfold F_sem_packet_through at h
  refine AW.unboxS 0 2005 (by decide) rfl rfl fun v4 => AW.unboxF 0 2004 (by decide) rfl rfl fun v3 => AW.scope <| SR <| Ak rfl <| Nl <| AW.seq <| AW.label <| AW.block <| AW.loopG (d := []) (ν := Nat × (List Out) × (List Place) × Switch × Env × (Vector Wide 24) × (List Action) × Int × Value × Value) (fun n => True ∧ F_sem_packet_through_l1 n.1 n.2.1 n.2.2.1 n.2.2.2.1 n.2.2.2.2.1 n.2.2.2.2.2.1 n.2.2.2.2.2.2.1 n.2.2.2.2.2.2.2.1 = some r) (fun n => n.1) (fun n => [(0, ptrL g2 (Lens.id ksem_packet_o4_5)), (2, rd (kint .i64) n.2.2.2.2.2.2.2.1)]) (fun n => [(0, Blk g2 gT ksem_packet_o4_5 (⟨n.2.2.2.1, n.2.2.2.2.1, n.2.2.2.2.2.1, n.2.2.2.2.2.2.1, n.2.2.2.2.2.2.2.2.1, n.2.2.2.2.2.2.2.2.2⟩ : sem_packet_o4_5)), (2004, Row n.2.2.2.2.2.2.2.2.1 71 kOut n.2.1), (2005, Row n.2.2.2.2.2.2.2.2.2 51 kPlace n.2.2.1)]) (fuel0, p1.out, p1.path, p1.Switch, p1.env, p1.header, p1.set, 0, v3, v4) ⟨trivial, h⟩ ⟨rfl, ⟨rfl, rfl, trivial⟩, ⟨rfl, rfl, rfl, trivial⟩⟩ ?_
  rintro ⟨m23, l14, l16, b18, b19, b20, b21, at22, v15, v17⟩ ⟨hsf1, h⟩
  change True at hsf1
  change F_sem_packet_through_l1 m23 l14 l16 b18 b19 b20 b21 at22 = some r at h
  change AW _ _ _ ⟨slots [(0, ptrL g2 (Lens.id ksem_packet_o4_5)), (2, rd (kint .i64) at22)], ress [(0, Blk g2 gT ksem_packet_o4_5 (⟨b18, b19, b20, b21, v15, v17⟩ : sem_packet_o4_5)), (2004, Row v15 71 kOut l14), (2005, Row v17 51 kPlace l16)], _⟩
  cases m23 with
  | zero => cases h
  | succ m23 =>
    unfold F_sem_packet_through_l1 at h
    generalize hgo1 : F_sem_packet_through_l1 m23 = go1 at h
    refine AW.block <| AW.seq ?_
    obtain ⟨j24, hj24, h⟩ := bsome h
    obtain ⟨x25, hx25, h⟩ := bsome h
    refine AW.regionAny [⟨[0], [8], [], []⟩, ⟨[2], [9], [], []⟩, ⟨[8], [10], [], []⟩, ⟨[10], [11], [], []⟩, ⟨[11], [12], [], []⟩, ⟨[12, 9], [13], [], []⟩, ⟨[13], [14], [0], []⟩, ⟨[0], [15], [], []⟩, ⟨[15], [16], [], []⟩, ⟨[16], [17], [], []⟩, ⟨[17], [18], [0], []⟩, ⟨[14, 18], [19], [], []⟩, ⟨[19], [7], [], []⟩, ⟨[7], [20], [], []⟩, ⟨[7], [21], [], []⟩, ⟨[20], [3], [], []⟩, ⟨[21], [4], [], []⟩] mixed (by kernel_rfl) <| SMp rfl <| SMd rfl <| SNc rfl <| SFd lsem_packet_o4_5_0 flv144_0_4_5 rfl <| SFd lSwitch_0 fl26_0 rfl <| Sc (lo [12, 9] [] rfl fun S hs hr => op_index' rfl rfl ar23 (vh hs 12 rfl rfl) (vh hs 9 rfl rfl) hj24) rfl <| SLd ty22 0 rfl <| SMp rfl <| SNc rfl <| SFd lsem_packet_o4_5_2 flv144_2_4_5 rfl <| SLd ty44 0 rfl <| SCl [14, 18] (c_first_Find _ _ _ hx25) e34 rfl <| Sc (lo [19] [] rfl fun S hs hr => op_move (A := tup2 (rd (kint .i64) x25.1) (rd kbool x25.2)) rfl rfl (vh hs 19 rfl rfl)) rfl <| Sc (lo [7] [] rfl fun S hs hr => op_fst rfl rfl (vh hs 7 rfl rfl)) rfl <| Sc (lo [7] [] rfl fun S hs hr => op_snd rfl rfl (vh hs 7 rfl rfl)) rfl <| SAs rfl <| SAs rfl <| AW.seq <| SR <| Md rfl <| Ac (op_not rfl rfl (vt rfl)) rfl <| Nl <| Cn rfl (fun hc => ?_) (fun hc => ?_)
    · have h := cond_t hc h
      refine AW.seq ?_
      obtain ⟨l26, hl26, h⟩ := bsome h
      refine Rg <| Mp rfl <| Mp rfl <| Nc rfl <| FdA lsem_packet_o4_5_5 flv144_5_4_5 rfl <| Ac (op_loadv v17 rfl rfl tyr49 (vt rfl) (i := 0) rfl rfl) rfl <| Md rfl <| Ac (op_build (ps := [(0, .tmp 29), (1, .const (Value.int IntKind.i64 (-1)))]) (x := (⟨at22, (-1)⟩ : Place)) rfl rfl rfl (by kernel_rfl) zr51 ⟨_, _, lPlace_0, _, by kernel_rfl, (vt rfl), _, _, lPlace_1, _, by kernel_rfl, (vk rfl), rfl⟩) rfl <| Ac (op_buildSliceR (ps := [(0, .tmp 30)]) (l := [(⟨at22, (-1)⟩ : Place)]) rfl rfl sl49 zr51 rfl rfl ⟨_, _, Lens.idx 1 kPlace 0 (by decide), _, rfl, (vt rfl), rfl⟩ rfl) rfl <| Ct rfl (op_append' 2005 hl26 rfl rfl el49 (vt rfl) rfl (vt rfl)) ?_
      rintro _ ⟨v27, rfl⟩
      refine Nc rfl <| FdA lsem_packet_o4_5_5 flv144_5_4_5 rfl <| Ac (op_store rfl rfl tyr49 (vt rfl) (i := 0) rfl (vrow (i := 2005) rfl rfl)) rfl <| Nl <| AW.exit ?_
      obtain rfl := si h
      exact RetOK.turn (Turn.packF 0 2004 (fun v => (⟨b18, b19, b20, b21, v, v27⟩ : sem_packet_o4_5)) (by decide) rfl rfl) (RetOK.turn (Turn.packS 0 2005 (fun v2 => BoxF g2 gT ksem_packet_o4_5 (fun v => (⟨b18, b19, b20, b21, v, v2⟩ : sem_packet_o4_5)) 71 kOut l14) (by decide) rfl rfl) (ret0Y (i := 0) Tryz.results86 rfl rfl))
    · have h := cond_f hc h
      refine AW.skip <| AW.seq ?_
      obtain ⟨l28, hl28, h⟩ := bsome h
      refine Rg <| Mp rfl <| Mp rfl <| Nc rfl <| FdA lsem_packet_o4_5_5 flv144_5_4_5 rfl <| Ac (op_loadv v17 rfl rfl tyr49 (vt rfl) (i := 0) rfl rfl) rfl <| Md rfl <| Md rfl <| Ac (op_build (ps := [(0, .tmp 40), (1, .tmp 41)]) (x := (⟨at22, x25.1⟩ : Place)) rfl rfl rfl (by kernel_rfl) zr51 ⟨_, _, lPlace_0, _, by kernel_rfl, (vt rfl), _, _, lPlace_1, _, by kernel_rfl, (vt rfl), rfl⟩) rfl <| Ac (op_buildSliceR (ps := [(0, .tmp 42)]) (l := [(⟨at22, x25.1⟩ : Place)]) rfl rfl sl49 zr51 rfl rfl ⟨_, _, Lens.idx 1 kPlace 0 (by decide), _, rfl, (vt rfl), rfl⟩ rfl) rfl <| Ct rfl (op_append' 2005 hl28 rfl rfl el49 (vt rfl) rfl (vt rfl)) ?_
      rintro _ ⟨v29, rfl⟩
      refine Nc rfl <| FdA lsem_packet_o4_5_5 flv144_5_4_5 rfl <| Ac (op_store rfl rfl tyr49 (vt rfl) (i := 0) rfl (vrow (i := 2005) rfl rfl)) rfl <| Nl <| AW.seq ?_
      obtain ⟨j30, hj30, h⟩ := bsome h
      obtain ⟨e31, he31, h⟩ := bsome h
      obtain ⟨b32, hb32, h⟩ := bsome h
      refine Rg <| Mp rfl <| Md rfl <| Mp rfl <| Md rfl <| Nc rfl <| FdA lsem_packet_o4_5_0 flv144_0_4_5 rfl <| FdA lSwitch_0 fl26_0 rfl <| Ac (op_index' rfl rfl ar23 (vt rfl) (vt rfl) hj30) rfl <| Ld ty22 0 rfl <| Md rfl <| Ac (op_indexs' rfl rfl sl22 (vt rfl) (vt rfl) he31) rfl <| Fp lFlow_6 fl61_6 rfl <| Lp1 ty59 rfl <| AOps.packF 0 2004 (fun v => (⟨b18, b19, b20, b21, v, v29⟩ : sem_packet_o4_5)) (by decide) rfl rfl <| AOps.packS 0 2005 (fun v2 => BoxF g2 gT ksem_packet_o4_5 (fun v => (⟨b18, b19, b20, b21, v, v2⟩ : sem_packet_o4_5)) 71 kOut l14) (by decide) rfl rfl <| Ct rfl (op_callR 0 (xs := [.tmp 48, .tmp 49, .tmp 60]) (c_sem_packet_follow _ _ _ _ _ _ hb32) e147 rfl rfl ⟨vt rfl, vt rfl, vt rfl, trivial⟩ rfl) ?_
      rintro _ ⟨_u, rfl⟩
      refine AOps.unboxS 0 2005 (by decide) rfl rfl fun v34 => AOps.unboxF 0 2004 (by decide) rfl rfl fun v33 => Mt2 rfl <| Ac (op_fst rfl rfl (vt rfl)) rfl <| Ac (op_snd rfl rfl (vt rfl)) rfl <| As rfl <| As rfl <| Nl <| AW.seq <| SR <| Md rfl <| Ac (op_not rfl rfl (vt rfl)) rfl <| Nl <| Cn rfl (fun hc => ?_) (fun hc => ?_)
      · have h := cond_t hc h
        refine AW.seq ?_
        obtain ⟨x35, hx35, h⟩ := bsome h
        obtain ⟨b36, hb36, h⟩ := bsome h
        refine Rg <| Mp rfl <| Mp rfl <| Nc rfl <| FdA lsem_packet_o4_5_3 flv144_3_4_5 rfl <| Ld ty122 0 rfl <| Cl [70] (c_aset_List _ _ hx35) e149 rfl <| AOps.packF 0 2004 (fun v => (⟨b32.2.2.Switch, b32.2.2.env, b32.2.2.header, b32.2.2.set, v, v34⟩ : sem_packet_o4_5)) (by decide) rfl rfl <| AOps.packS 0 2005 (fun v2 => BoxF g2 gT ksem_packet_o4_5 (fun v => (⟨b32.2.2.Switch, b32.2.2.env, b32.2.2.header, b32.2.2.set, v, v2⟩ : sem_packet_o4_5)) 71 kOut b32.2.2.out) (by decide) rfl rfl <| Ct rfl (op_callR 0 (xs := [.tmp 66, .tmp 71]) (c_sem_packet_act _ _ _ _ _ hb36) e148 rfl rfl ⟨vt rfl, vt rfl, trivial⟩ rfl) ?_
        rintro _ ⟨_u, rfl⟩
        refine AOps.unboxS 0 2005 (by decide) rfl rfl fun v38 => AOps.unboxF 0 2004 (by decide) rfl rfl fun v37 => Nl <| AW.exit ?_
        obtain rfl := si h
        exact RetOK.turn (Turn.packF 0 2004 (fun v => (⟨b36.Switch, b36.env, b36.header, b36.set, v, v38⟩ : sem_packet_o4_5)) (by decide) rfl rfl) (RetOK.turn (Turn.packS 0 2005 (fun v2 => BoxF g2 gT ksem_packet_o4_5 (fun v => (⟨b36.Switch, b36.env, b36.header, b36.set, v, v2⟩ : sem_packet_o4_5)) 71 kOut b36.out) (by decide) rfl rfl) (ret0Y (i := 0) Tryz.results86 rfl rfl))
      · have h := cond_f hc h
        refine AW.skip <| Rg <| Md rfl <| As rfl <| Nl ?_
        subst hgo1
        exact ⟨(m23, b32.2.2.out, b32.2.2.path, b32.2.2.Switch, b32.2.2.env, b32.2.2.header, b32.2.2.set, b32.1, v33, v34), Nat.lt_succ_self _, ⟨trivial, h⟩, ⟨rfl, ⟨rfl, rfl, trivial⟩, ⟨rfl, rfl, rfl, trivial⟩⟩⟩
def F_sem_Out (s1 : Switch) (e2 : Env) (h3 : (Vector Wide 24)) : Option (List Out) :=
  (F_sem_packet_through (⟨s1, e2, h3, [], [], []⟩ : sem_packet)).bind fun b8 => some b8.out
theorem c_sem_Out (s1 : Switch) (e2 : Env) (h3 : (Vector Wide 24)) (r : (List Out)) (h : F_sem_Out s1 e2 h3 = some r) : PCon Tryz.prog 29 [rd kSwitch s1, rd kEnv e2, rd (karr 24 kWide) h3] (rd (ksl kOut) r) := by
  refine PCon.of (Con.intro0 Tryz.func29 rfl Tryz.ntmps29 rfl fun w H => ?_)
  unfold F_sem_Out at h
  refine SR <| Ct rfl (op_box 4 rfl rfl (vt rfl)) ?_
  rintro _ ⟨g4, rfl⟩
  refine Ct rfl (op_box 5 rfl rfl (vt rfl)) ?_
  rintro _ ⟨g5, rfl⟩
  refine Ct rfl (op_box 6 rfl rfl (vt rfl)) ?_
  rintro _ ⟨g6, rfl⟩
  refine Ac (op_assign (A := rd (ksl kOut) []) rfl rfl vnil) rfl <| Nl <| AW.seq <| AW.newnil 2264 71 kOut <| AW.newnil 2265 51 kPlace <| Rg <| Ld ty26 4 rfl <| Ld ty39 5 rfl <| Ld ty44 6 rfl <| Ac (op_build (ps := [(0, .tmp 8), (1, .tmp 9), (2, .tmp 10)]) (x := (⟨s1, e2, h3, [], (.slice none 0 0), (.slice none 0 0)⟩ : sem_packet_o4_5)) rfl rfl rfl (by kernel_rfl) zrv144_4_5 ⟨_, _, lsem_packet_o4_5_0, _, by kernel_rfl, (vt rfl), _, _, lsem_packet_o4_5_1, _, by kernel_rfl, (vt rfl), _, _, lsem_packet_o4_5_2, _, by kernel_rfl, (vt rfl), rfl⟩) rfl <| Ct rfl (op_box 13 rfl rfl (vt rfl)) ?_
  rintro _ ⟨g7, rfl⟩
  refine Ac (op_assign (A := ptrL g7 (Lens.id ksem_packet_o4_5)) rfl rfl (vt rfl)) rfl <| Nl <| AW.seq ?_
  obtain ⟨b8, hb8, h⟩ := bsome h
  refine Rg <| Mp rfl <| AOps.packF 13 2264 (fun v => (⟨s1, e2, h3, [], v, (.slice none 0 0)⟩ : sem_packet_o4_5)) (by decide) rfl rfl <| AOps.packS 13 2265 (fun v2 => BoxF g7 144 ksem_packet_o4_5 (fun v => (⟨s1, e2, h3, [], v, v2⟩ : sem_packet_o4_5)) 71 kOut []) (by decide) rfl rfl <| Ct rfl (op_callR 13 (xs := [.tmp 13]) (c_sem_packet_through _ _ _ _ hb8) e86 rfl rfl ⟨vt rfl, trivial⟩ rfl) ?_
  rintro _ ⟨_u, rfl⟩
  refine AOps.unboxS 13 2265 (by decide) rfl rfl fun v10 => AOps.unboxF 13 2264 (by decide) rfl rfl fun v9 => Nl <| SR <| Mp rfl <| Nc rfl <| FdA lsem_packet_o4_5_4 flv144_4_4_5 rfl <| Ac (op_loadv v9 rfl rfl tyr46 (vt rfl) (i := 13) rfl rfl) rfl <| Aw rfl <| Nl <| AW.freezes [6, 18] 2264 rfl ⟨rfl, rfl, trivial⟩ rfl <| AW.ret ?_
  obtain rfl := si h
  exact ret1 Tryz.results29 rfl (out_tmp rfl)
def F_links_there (n1 : Net) (at2 : Int) : Option Bool :=
  some ((decide (at2 ≥ 0)) && (decide (at2 < (n1.Switches.length : Int))))
theorem c_links_there (n1 : Net) (at2 : Int) (r : Bool) (h : F_links_there n1 at2 = some r) : PCon Tryz.prog 131 [rd kNet n1, rd (kint .i64) at2] (rd kbool r) := by
  refine PCon.of (Con.intro0 Tryz.func131 rfl Tryz.ntmps131 rfl fun w H => ?_)
  unfold F_links_there at h
  refine SR <| Ct rfl (op_box 3 rfl rfl (vt rfl)) ?_
  rintro _ ⟨g3, rfl⟩
  refine Ab rfl <| Nl <| SR <| Md rfl <| Ac (op_geq rfl rfl (vt rfl) (vk rfl)) rfl <| Md rfl <| Gd rfl (fun hq => op_move (A := rd (kint .i64) at2) rfl rfl (vt rfl)) <| Gd rfl (fun hq => op_field lNet_0 rfl rfl fl67_0 (vt rfl)) <| Gd rfl (fun hq => op_load rfl rfl ty64 (vgt rfl hq) (i := 3) rfl) <| Gd rfl (fun hq => op_len' rfl rfl sl64 (vgt rfl hq)) <| Gd rfl (fun hq => op_lss rfl rfl (vgt rfl hq) (vgt rfl hq)) <| Ac (op_all rfl rfl (vt rfl) (vt rfl)) rfl <| As rfl <| Nl <| AW.ret ?_
  obtain rfl := si h
  exact ret1 Tryz.results131 rfl (out_tmp rfl)
def F_links_Next_1 (l1 : Link) (cp2 : Int) (cp3 : Int) (cp4 : Net) : Option Bool :=
  (opt ((decide (l1.From = cp2)) && (decide (l1.Out = cp3))) (F_links_there cp4 l1.To)).bind fun x6 => some (((decide (l1.From = cp2)) && (decide (l1.Out = cp3))) && x6)
theorem c_links_Next_1 (l1 : Link) (cp2 : Int) (cp3 : Int) (cp4 : Net) (r : Bool) (h : F_links_Next_1 l1 cp2 cp3 cp4 = some r) : PCon Tryz.prog 130 [rd kLink l1, rp (kint .i64) cp2, rp (kint .i64) cp3, rp kNet cp4] (rd kbool r) := by
  refine PCon.of (Con.intro0 Tryz.func130 rfl Tryz.ntmps130 rfl fun w H => ?_)
  unfold F_links_Next_1 at h
  refine SR <| Ct rfl (op_box 5 rfl rfl (vt rfl)) ?_
  rintro _ ⟨g5, rfl⟩
  refine Ab rfl <| Nl <| AW.seq ?_
  obtain ⟨x6, hx6, h⟩ := bsome h
  refine Rg <| FdA lLink_0 fl152_0 rfl <| Ld ty3 5 rfl <| Lp1 ty3 rfl <| Ac (op_eql rfl rfl (vt rfl) (vt rfl)) rfl <| Md rfl <| Gd rfl (fun hq => op_field lLink_1 rfl rfl fl152_1 (vt rfl)) <| Gd rfl (fun hq => op_load rfl rfl ty3 (vgt rfl hq) (i := 5) rfl) <| Gd rfl (fun hq => op_loadp rfl rfl ty3 (vt rfl)) <| Gd rfl (fun hq => op_eql rfl rfl (vgt rfl hq) (vgt rfl hq)) <| Ac (op_all rfl rfl (vt rfl) (vt rfl)) rfl <| Md rfl <| Gd rfl (fun hq => op_loadp rfl rfl ty67 (vt rfl)) <| Gd rfl (fun hq => op_field lLink_2 rfl rfl fl152_2 (vt rfl)) <| Gd rfl (fun hq => op_load rfl rfl ty3 (vgt rfl hq) (i := 5) rfl) <| Gd rfl (fun hq => op_call (xs := [.tmp 17, .tmp 19]) (c_links_there _ _ _ (opt_t hx6 hq)) e131 rfl rfl ⟨vgt rfl hq, vgt rfl hq, trivial⟩) <| Ac (op_all rfl rfl (vt rfl) (vt rfl)) rfl <| As rfl <| Nl <| AW.ret ?_
  obtain rfl := si h
  exact ret1 Tryz.results130 rfl (out_tmp rfl)
def F_slices_IndexFunc_Link_l1 (s1 : (List Link)) (f2 : (Link → Option Bool)) : Nat → Nat → Option Int
  | 0, i3 => some (-1)
  | m4 + 1, i3 => (lget s1 (i3 : Int)).bind fun e5 => (f2 e5).bind fun x6 => (bif x6 then some (i3 : Int) else (F_slices_IndexFunc_Link_l1 s1 f2 m4) (i3 + 1))
def F_slices_IndexFunc_Link (s1 : (List Link)) (f2 : (Link → Option Bool)) : Option Int :=
  F_slices_IndexFunc_Link_l1 s1 f2 ((s1.length : Int) : Int).toNat 0
theorem c_slices_IndexFunc_Link (s1 : (List Link)) (f2 : (Link → Option Bool)) (r : Int) (h : F_slices_IndexFunc_Link s1 f2 = some r) : PCon Tryz.prog 129 [rd (ksl kLink) s1, fn1 Tryz.prog kLink kbool f2] (rd (kint .i64) r) := by
  refine PCon.of (Con.intro0 Tryz.func129 rfl Tryz.ntmps129 rfl fun w H => ?_)
  unfold F_slices_IndexFunc_Link at h
  refine SR <| Ak rfl <| Nl <| AW.seq <| SR <| Md rfl <| Ac (op_len' rfl rfl sl65 (vt rfl)) rfl <| Mk rfl <| Nl <| AW.block <| AW.loopG (d := []) (ν := Nat × Nat) (fun n => Cnt (s1.length : Int) n.2 n.1 ∧ F_slices_IndexFunc_Link_l1 s1 f2 n.1 n.2 = some r) (fun n => n.1) (fun n => [(0, rd (ksl kLink) s1), (1, fn1 Tryz.prog kLink kbool f2), (7, rd (kint .i64) (s1.length : Int)), (8, rd (kint .i64) (n.2 : Int))]) (fun n => []) (((s1.length : Int) : Int).toNat, 0) ⟨Cnt.start _, h⟩ ⟨rfl, ⟨rfl, rfl, rfl, rfl, trivial⟩, trivial⟩ ?_
  rintro ⟨m4, i3⟩ ⟨hsf1, h⟩
  change Cnt (s1.length : Int) i3 m4 at hsf1
  change F_slices_IndexFunc_Link_l1 s1 f2 m4 i3 = some r at h
  change AW _ _ _ ⟨slots [(0, rd (ksl kLink) s1), (1, fn1 Tryz.prog kLink kbool f2), (7, rd (kint .i64) (s1.length : Int)), (8, rd (kint .i64) (i3 : Int))], ress [], _⟩
  cases m4 with
  | zero =>
    unfold F_slices_IndexFunc_Link_l1 at h
    refine SR <| Ac (op_lss rfl rfl (vt rfl) (vt rfl)) rfl <| Nl <| AW.seq <| Cn rfl (fun hc => absurd (of_decide_eq_true hc) hsf1.zero) (fun hc => ?_)
    refine AW.exit <| SR <| Ak rfl <| Nl <| AW.ret ?_
    obtain rfl := si h
    exact ret1 Tryz.results129 rfl (out_tmp rfl)
  | succ m4 =>
    unfold F_slices_IndexFunc_Link_l1 at h
    generalize hgo1 : F_slices_IndexFunc_Link_l1 s1 f2 m4 = go1 at h
    refine SR <| Ac (op_lss rfl rfl (vt rfl) (vt rfl)) rfl <| Nl <| AW.seq <| Cn rfl (fun hc => ?_) (fun hc => absurd hsf1.succ (of_decide_eq_false hc))
    have hlti3 := of_decide_eq_true hc
    refine AW.skip <| AW.seq <| AW.block <| SR <| Md rfl <| As rfl <| Nl <| AW.seq ?_
    obtain ⟨e5, he5, h⟩ := bsome h
    obtain ⟨x6, hx6, h⟩ := bsome h
    refine Rg <| Ac (op_move (A := fn1 Tryz.prog kLink kbool f2) rfl rfl (vt rfl)) rfl <| Md rfl <| Md rfl <| Ac (op_indexs' rfl rfl sl65 (vt rfl) (vt rfl) he5) rfl <| Lp1 ty152 rfl <| Ac (op_call1 hx6 rfl rfl (vt rfl) (vt rfl)) rfl <| Nl <| Cn rfl (fun hc => ?_) (fun hc => ?_)
    · have h := cond_t hc h
      refine SR <| Md rfl <| As rfl <| Nl <| AW.ret ?_
      obtain rfl := si h
      exact ret1 Tryz.results129 rfl (out_tmp rfl)
    · have h := cond_f hc h
      refine AW.skip <| Rg <| Ac (op_incr (t := 7) rfl rfl (vt rfl) (vk rfl) (vt rfl) hlti3) rfl <| Md rfl <| Nl ?_
      subst hgo1
      exact ⟨(m4, i3 + 1), Nat.lt_succ_self _, ⟨hsf1.next, h⟩, ⟨rfl, ⟨rfl, rfl, rfl, rfl, trivial⟩, trivial⟩⟩
end Go.Proofs.YtknpgojdkobgjaaGreat.W
