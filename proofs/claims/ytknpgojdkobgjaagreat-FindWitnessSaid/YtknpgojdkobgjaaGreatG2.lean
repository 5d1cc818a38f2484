/- A part of the proof. -/
import Derived.Test.YtknpgojdkobgjaaGreatG1
set_option linter.unusedVariables false
set_option maxRecDepth 4000
set_option linter.unusedSimpArgs false
namespace Go.Proofs.YtknpgojdkobgjaaGreat.W
open Go Go.Wb
theorem e323 : Ent Tryz.prog 323 := Ent.mk Tryz.func323 rfl rfl
theorem e83 : Ent Tryz.prog 83 := Ent.mk Tryz.func83 rfl rfl
theorem e142 : Ent Tryz.prog 142 := Ent.mk Tryz.func142 rfl rfl
theorem e322 : Ent Tryz.prog 322 := Ent.mk Tryz.func322 rfl rfl
theorem e324 : Ent Tryz.prog 324 := Ent.mk Tryz.func324 rfl rfl
theorem e281 : Ent Tryz.prog 281 := Ent.mk Tryz.func281 rfl rfl
theorem e282 : Ent Tryz.prog 282 := Ent.mk Tryz.func282 rfl rfl
theorem e283 : Ent Tryz.prog 283 := Ent.mk Tryz.func283 rfl rfl
theorem e236 : Ent Tryz.prog 236 := Ent.mk Tryz.func236 rfl rfl
theorem e172 : Ent Tryz.prog 172 := Ent.mk Tryz.func172 rfl rfl
theorem e171 : Ent Tryz.prog 171 := Ent.mk Tryz.func171 rfl rfl
theorem e105 : Ent Tryz.prog 105 := Ent.mk Tryz.func105 rfl rfl
theorem e47 : Ent Tryz.prog 47 := Ent.mk Tryz.func47 rfl rfl
def F_r05_Bits_l1 (b2 : Tern) (a1 : Tern) : Nat → (List Int) → Int → Option (List Int)
  | 0, _, _ => none
  | m12 + 1, l9, i11 => (bif (decide (i11 ≥ 0)) then (F_r02_Has b2.Mask i11).bind fun x13 => (opt x13 (F_r02_Has a1.Mask i11)).bind fun x14 => (bif (x13 && (!x14)) then (appd l9 [i11]).bind fun l15 => (F_r05_Bits_l1 b2 a1 m12) l15 (IntKind.i64.wrap (i11 - 1)) else (F_r05_Bits_l1 b2 a1 m12) l9 (IntKind.i64.wrap (i11 - 1))) else some l9)
def F_r05_Bits (a1 : Tern) (b2 : Tern) : Option (List Int) :=
  F_r05_Bits_l1 b2 a1 (((127 : Int) - 0).toNat + 2) [] 127
theorem c_r05_Bits (a1 : Tern) (b2 : Tern) (r : (List Int)) (h : F_r05_Bits a1 b2 = some r) : PCon Tryz.prog 322 [rd kTern a1, rd kTern b2] (rd (ksl (kint .i64)) r) := by
  refine PCon.of (Con.intro0 Tryz.func322 rfl Tryz.ntmps322 rfl fun w H => ?_)
  unfold F_r05_Bits at h
  refine SR <| Ct rfl (op_box 3 rfl rfl (vt rfl)) ?_
  rintro _ ⟨g3, rfl⟩
  refine Ct rfl (op_box 4 rfl rfl (vt rfl)) ?_
  rintro _ ⟨g4, rfl⟩
  refine Ac (op_assign (A := rd (ksl (kint .i64)) []) rfl rfl vnil) rfl <| Nl <| SR <| Ct rfl (op_buildSlice 1001 (ps := []) (l := []) rfl rfl sl37 zr3 rfl rfl rfl rfl) ?_
  rintro _ ⟨v5, rfl⟩
  refine Aw rfl <| Nl <| AW.seq <| SR <| Ak rfl <| Nl <| AW.block <| AW.loopG (d := []) (ν := Nat × (List Int) × Int × Value) (fun n => True ∧ F_r05_Bits_l1 b2 a1 n.1 n.2.1 n.2.2.1 = some r) (fun n => n.1) (fun n => [(2, ptrL g3 (Lens.id kTern)), (3, ptrL g4 (Lens.id kTern)), (5, raw n.2.2.2), (6, rd (kint .i64) n.2.2.1)]) (fun n => [(3, Blk g3 85 kTern a1), (4, Blk g4 85 kTern b2), (1001, Row n.2.2.2 3 (kint .i64) n.2.1)]) ((((127 : Int) - 0).toNat + 2), [], 127, v5) ⟨trivial, h⟩ ⟨rfl, ⟨rfl, rfl, rfl, rfl, trivial⟩, ⟨rfl, rfl, rfl, trivial⟩⟩ ?_
  rintro ⟨m12, l9, i11, v10⟩ ⟨hsf1, h⟩
  change True at hsf1
  change F_r05_Bits_l1 b2 a1 m12 l9 i11 = some r at h
  change AW _ _ _ ⟨slots [(2, ptrL g3 (Lens.id kTern)), (3, ptrL g4 (Lens.id kTern)), (5, raw v10), (6, rd (kint .i64) i11)], ress [(3, Blk g3 85 kTern a1), (4, Blk g4 85 kTern b2), (1001, Row v10 3 (kint .i64) l9)], _⟩
  cases m12 with
  | zero => cases h
  | succ m12 =>
    unfold F_r05_Bits_l1 at h
    generalize hgo1 : F_r05_Bits_l1 b2 a1 m12 = go1 at h
    refine AW.seq <| SR <| Md rfl <| Ac (op_geq rfl rfl (vt rfl) (vk rfl)) rfl <| Nl <| Cn rfl (fun hc => ?_) (fun hc => ?_)
    · have h := cond_t hc h
      refine AW.skip <| AW.seq <| AW.block <| AW.seq ?_
      obtain ⟨x13, hx13, h⟩ := bsome h
      obtain ⟨x14, hx14, h⟩ := bsome h
      refine Rg <| FdA lTern_1 fl85_1 rfl <| Ld ty42 4 rfl <| Md rfl <| Cl [13, 14] (c_r02_Has _ _ _ hx13) e323 rfl <| Md rfl <| Gd rfl (fun hq => op_field lTern_1 rfl rfl fl85_1 (vt rfl)) <| Gd rfl (fun hq => op_load rfl rfl ty42 (vgt rfl hq) (i := 3) rfl) <| Gd rfl (fun hq => op_move (A := rd (kint .i64) i11) rfl rfl (vt rfl)) <| Gd rfl (fun hq => op_call (xs := [.tmp 18, .tmp 19]) (c_r02_Has _ _ _ (opt_t hx14 hq)) e323 rfl rfl ⟨vgt rfl hq, vgt rfl hq, trivial⟩) <| Gd rfl (fun hq => op_not rfl rfl (vgt rfl hq)) <| Ac (op_all rfl rfl (vt rfl) (vt rfl)) rfl <| Nl <| Cn rfl (fun hc => ?_) (fun hc => ?_)
      · have h := cond_t hc h
        obtain ⟨l15, hl15, h⟩ := bsome h
        refine Rg <| Mw rfl <| Md rfl <| Ac (op_buildSliceR (ps := [(0, .tmp 24)]) (l := [i11]) rfl rfl sl37 zr3 rfl rfl ⟨_, _, Lens.idx 1 (kint .i64) 0 (by decide), _, rfl, (vt rfl), rfl⟩ rfl) rfl <| Ct rfl (op_append' 1001 hl15 rfl rfl el37 (vt rfl) rfl (vt rfl)) ?_
        rintro _ ⟨v16, rfl⟩
        refine Aw rfl <| Nl <| Rg <| Md rfl <| Ac (op_sub rfl rfl (vt rfl) (vk rfl)) rfl <| As rfl <| Nl ?_
        subst hgo1
        exact ⟨(m12, l15, (IntKind.i64.wrap (i11 - 1)), v16), Nat.lt_succ_self _, ⟨trivial, h⟩, ⟨rfl, ⟨rfl, rfl, rfl, rfl, trivial⟩, ⟨rfl, rfl, rfl, trivial⟩⟩⟩
      · have h := cond_f hc h
        refine AW.skip <| Rg <| Md rfl <| Ac (op_sub rfl rfl (vt rfl) (vk rfl)) rfl <| As rfl <| Nl ?_
        subst hgo1
        exact ⟨(m12, l9, (IntKind.i64.wrap (i11 - 1)), v10), Nat.lt_succ_self _, ⟨trivial, h⟩, ⟨rfl, ⟨rfl, rfl, rfl, rfl, trivial⟩, ⟨rfl, rfl, rfl, trivial⟩⟩⟩
    · have h := cond_f hc h
      refine AW.exit <| SR <| Mw rfl <| Aw rfl <| Nl <| AW.freezes [4, 5, 27] 1001 rfl ⟨rfl, rfl, rfl, trivial⟩ rfl <| AW.ret ?_
      obtain rfl := si h
      exact ret1 Tryz.results322 rfl (out_tmp rfl)
def F_r05_Fix (t1 : Tern) (i2 : Int) (on3 : Bool) : Option Tern :=
  (F_r05_Clean t1).bind fun x6 => (F_r02_Bit i2).bind fun x7 => (F_r02_Or x6.Mask x7).bind fun x9 => (F_r02_Less ({ x6 with Mask := x9 }.Value) x7).bind fun x10 => (bif on3 then (F_r02_Or ({ { x6 with Mask := x9 } with Value := x10 }.Value) x7).bind fun x11 => some { { { x6 with Mask := x9 } with Value := x10 } with Value := x11 } else some { { x6 with Mask := x9 } with Value := x10 })
theorem c_r05_Fix (t1 : Tern) (i2 : Int) (on3 : Bool) (r : Tern) (h : F_r05_Fix t1 i2 on3 = some r) : PCon Tryz.prog 324 [rd kTern t1, rd (kint .i64) i2, rd kbool on3] (rd kTern r) := by
  refine PCon.of (Con.intro0 Tryz.func324 rfl Tryz.ntmps324 rfl fun w H => ?_)
  unfold F_r05_Fix at h
  refine SR <| Ct rfl (op_box 4 rfl rfl (vt rfl)) ?_
  rintro _ ⟨g4, rfl⟩
  refine Ct rfl (op_alloc 7 rfl rfl zr85) ?_
  rintro _ ⟨g5, rfl⟩
  refine Nl <| AW.seq ?_
  obtain ⟨x6, hx6, h⟩ := bsome h
  refine Rg <| Ld ty85 4 rfl <| Cl [8] (c_r05_Clean _ _ hx6) e144 rfl <| Sto ty85 4 rfl <| Nl <| AW.seq ?_
  obtain ⟨x7, hx7, h⟩ := bsome h
  refine Rg <| Md rfl <| Cl [10] (c_r02_Bit _ _ hx7) e309 rfl <| Ct rfl (op_alloc 8 rfl rfl zr42) ?_
  rintro _ ⟨g8, rfl⟩
  refine Sto ty42 8 rfl <| Nl <| AW.seq ?_
  obtain ⟨x9, hx9, h⟩ := bsome h
  refine Rg <| FdA lTern_1 fl85_1 rfl <| Ld ty42 4 rfl <| Ld ty42 8 rfl <| Cl [13, 14] (c_r02_Or _ _ _ hx9) e187 rfl <| FdA lTern_1 fl85_1 rfl <| Sto ty42 4 rfl <| Nl <| AW.seq ?_
  obtain ⟨x10, hx10, h⟩ := bsome h
  refine Rg <| FdA lTern_0 fl85_0 rfl <| Ld ty42 4 rfl <| Ld ty42 8 rfl <| Cl [18, 19] (c_r02_Less _ _ _ hx10) e188 rfl <| FdA lTern_0 fl85_0 rfl <| Sto ty42 4 rfl <| Nl <| AW.seq <| SR <| Md rfl <| Nl <| Cn rfl (fun hc => ?_) (fun hc => ?_)
  · have h := cond_t hc h
    obtain ⟨x11, hx11, h⟩ := bsome h
    refine Rg <| FdA lTern_0 fl85_0 rfl <| Ld ty42 4 rfl <| Ld ty42 8 rfl <| Cl [24, 25] (c_r02_Or _ _ _ hx11) e187 rfl <| FdA lTern_0 fl85_0 rfl <| Sto ty42 4 rfl <| Nl <| SR <| Ld ty85 4 rfl <| Sto ty85 7 rfl <| Nl <| AW.ret ?_
    obtain rfl := si h
    exact ret1 Tryz.results324 rfl (out_cell rfl (i := 7) rfl ty85)
  · have h := cond_f hc h
    refine AW.skip <| SR <| Ld ty85 4 rfl <| Sto ty85 7 rfl <| Nl <| AW.ret ?_
    obtain rfl := si h
    exact ret1 Tryz.results324 rfl (out_cell rfl (i := 7) rfl ty85)
def F_r07_List_l2 (x21 : (List Int)) (f17 : Int) (b2 : (Vector Tern 24)) (go1 : (Vector Tern 24) → (List (Vector Tern 24)) → Int → Option (List (Vector Tern 24))) : Nat → (Vector Tern 24) → (List (Vector Tern 24)) → Int → Option (List (Vector Tern 24))
  | 0, _, _, _ => none
  | m30 + 1, b26, l27, i29 => (bif (decide (i29 < (x21.length : Int))) then (chk 24 f17).bind fun j31 => (lget x21 i29).bind fun e32 => (F_r02_Has ((Vector.get b2 j31).Value) e32).bind fun x33 => (chk 24 f17).bind fun j35 => (lget x21 i29).bind fun e36 => (F_r05_Fix (Vector.get b26 j35) e36 (!x33)).bind fun x37 => (chk 24 f17).bind fun j38 => (appd l27 [(Vector.set b26 j38.1 x37 j38.2)]).bind fun l39 => (chk 24 f17).bind fun j41 => (lget x21 i29).bind fun e42 => (F_r05_Fix (Vector.get b26 j41) e42 x33).bind fun x43 => (chk 24 f17).bind fun j44 => (F_r07_List_l2 x21 f17 b2 go1 m30) (Vector.set b26 j44.1 x43 j44.2) l39 (IntKind.i64.wrap (i29 + 1)) else go1 b26 l27 (IntKind.i64.wrap (f17 + 1)))
def F_r07_List_l1 (a1 : (Vector Tern 24)) (b2 : (Vector Tern 24)) : Nat → (Vector Tern 24) → (List (Vector Tern 24)) → Int → Option (List (Vector Tern 24))
  | 0, _, _, _ => none
  | m18 + 1, b14, l15, f17 => (bif (decide (f17 < 24)) then (chk 24 f17).bind fun j19 => (chk 24 f17).bind fun j20 => (F_r05_Bits (Vector.get a1 j19) (Vector.get b2 j20)).bind fun x21 => F_r07_List_l2 x21 f17 b2 (F_r07_List_l1 a1 b2 m18) ((((x21.length : Int) : Int) - 0).toNat + 1) b14 l15 0 else some l15)
def F_r07_List (a1 : (Vector Tern 24)) (b2 : (Vector Tern 24)) : Option (List (Vector Tern 24)) :=
  (F_r06_Clean a1).bind fun x5 => (F_r06_Meet a1 b2).bind fun x7 => (bif (!x7.2) then some [x5] else F_r07_List_l1 a1 b2 (((24 : Int) - 0).toNat + 1) x5 [] 0)
theorem c_r07_List (a1 : (Vector Tern 24)) (b2 : (Vector Tern 24)) (r : (List (Vector Tern 24))) (h : F_r07_List a1 b2 = some r) : PCon Tryz.prog 283 [rd (karr 24 kTern) a1, rd (karr 24 kTern) b2] (rd (ksl (karr 24 kTern)) r) := by
  refine PCon.of (Con.intro0 Tryz.func283 rfl Tryz.ntmps283 rfl fun w H => ?_)
  unfold F_r07_List at h
  refine SR <| Ct rfl (op_box 3 rfl rfl (vt rfl)) ?_
  rintro _ ⟨g3, rfl⟩
  refine Ct rfl (op_box 4 rfl rfl (vt rfl)) ?_
  rintro _ ⟨g4, rfl⟩
  refine Ac (op_assign (A := rd (ksl (karr 24 kTern)) []) rfl rfl vnil) rfl <| Nl <| AW.seq ?_
  obtain ⟨x5, hx5, h⟩ := bsome h
  refine Rg <| Ld ty87 3 rfl <| Cl [14] (c_r06_Clean _ _ hx5) e83 rfl <| Ct rfl (op_alloc 6 rfl rfl zr87) ?_
  rintro _ ⟨g6, rfl⟩
  refine Sto ty87 6 rfl <| Nl <| AW.seq <| AW.seq ?_
  obtain ⟨x7, hx7, h⟩ := bsome h
  refine Rg <| Ld ty87 3 rfl <| Ld ty87 4 rfl <| Cl [17, 18] (c_r06_Meet _ _ _ hx7) e142 rfl <| Mt2 rfl <| Ac (op_fst rfl rfl (vt rfl)) rfl <| Ac (op_snd rfl rfl (vt rfl)) rfl <| Ct rfl (op_alloc 7 rfl rfl zr87) ?_
  rintro _ ⟨g8, rfl⟩
  refine Sto ty87 7 rfl <| As rfl <| Nl <| SR <| Md rfl <| Ac (op_not rfl rfl (vt rfl)) rfl <| Nl <| Cn rfl (fun hc => ?_) (fun hc => ?_)
  · have h := cond_t hc h
    refine SR <| Ld ty87 6 rfl <| Ac (op_buildSliceR (ps := [(0, .tmp 24)]) (l := [x5]) rfl rfl sl229 zr87 rfl rfl ⟨_, _, Lens.idx 1 (karr 24 kTern) 0 (by decide), _, rfl, (vt rfl), rfl⟩ rfl) rfl <| As rfl <| Nl <| AW.ret ?_
    obtain rfl := si h
    exact ret1 Tryz.results283 rfl (out_tmp rfl)
  · have h := cond_f hc h
    refine AW.skip <| SR <| Ct rfl (op_buildSlice 1001 (ps := []) (l := []) rfl rfl sl229 zr87 rfl rfl rfl rfl) ?_
    rintro _ ⟨v9, rfl⟩
    refine Aw rfl <| Nl <| AW.seq <| SR <| Ak rfl <| Nl <| AW.block <| AW.loopG (d := []) (ν := Nat × (Vector Tern 24) × (List (Vector Tern 24)) × Int × Value) (fun n => True ∧ F_r07_List_l1 a1 b2 n.1 n.2.1 n.2.2.1 n.2.2.2.1 = some r) (fun n => n.1) (fun n => [(2, ptrL g3 (Lens.id (karr 24 kTern))), (3, ptrL g4 (Lens.id (karr 24 kTern))), (5, ptrL g6 (Lens.id (karr 24 kTern))), (8, raw n.2.2.2.2), (9, rd (kint .i64) n.2.2.2.1)]) (fun n => [(3, Blk g3 87 (karr 24 kTern) a1), (4, Blk g4 87 (karr 24 kTern) b2), (6, Blk g6 87 (karr 24 kTern) n.2.1), (1001, Row n.2.2.2.2 87 (karr 24 kTern) n.2.2.1)]) ((((24 : Int) - 0).toNat + 1), x5, [], 0, v9) ⟨trivial, h⟩ ⟨rfl, ⟨rfl, rfl, rfl, rfl, rfl, trivial⟩, ⟨rfl, rfl, rfl, rfl, trivial⟩⟩ ?_
    rintro ⟨m18, b14, l15, f17, v16⟩ ⟨hsf1, h⟩
    change True at hsf1
    change F_r07_List_l1 a1 b2 m18 b14 l15 f17 = some r at h
    change AW _ _ _ ⟨slots [(2, ptrL g3 (Lens.id (karr 24 kTern))), (3, ptrL g4 (Lens.id (karr 24 kTern))), (5, ptrL g6 (Lens.id (karr 24 kTern))), (8, raw v16), (9, rd (kint .i64) f17)], ress [(3, Blk g3 87 (karr 24 kTern) a1), (4, Blk g4 87 (karr 24 kTern) b2), (6, Blk g6 87 (karr 24 kTern) b14), (1001, Row v16 87 (karr 24 kTern) l15)], _⟩
    cases m18 with
    | zero => cases h
    | succ m18 =>
      unfold F_r07_List_l1 at h
      generalize hgo1 : F_r07_List_l1 a1 b2 m18 = go1 at h
      refine AW.seq <| SR <| Md rfl <| Ac (op_lss rfl rfl (vt rfl) (vk rfl)) rfl <| Nl <| Cn rfl (fun hc => ?_) (fun hc => ?_)
      · have h := cond_t hc h
        refine AW.skip <| AW.seq <| AW.block <| AW.seq ?_
        obtain ⟨j19, hj19, h⟩ := bsome h
        obtain ⟨j20, hj20, h⟩ := bsome h
        obtain ⟨x21, hx21, h⟩ := bsome h
        refine AW.regionAny [⟨[9], [31], [], []⟩, ⟨[2, 31], [32], [], []⟩, ⟨[32], [33], [3], []⟩, ⟨[9], [34], [], []⟩, ⟨[3, 34], [35], [], []⟩, ⟨[35], [36], [4], []⟩, ⟨[33, 36], [37], [], []⟩, ⟨[37], [10], [], []⟩] mixed (by kernel_rfl) <| SMd rfl <| Sc (lo [2, 31] [] rfl fun S hs hr => op_index' rfl rfl ar87 (vh hs 2 rfl rfl) (vh hs 31 rfl rfl) hj19) rfl <| SLd ty85 3 rfl <| SMd rfl <| Sc (lo [3, 34] [] rfl fun S hs hr => op_index' rfl rfl ar87 (vh hs 3 rfl rfl) (vh hs 34 rfl rfl) hj20) rfl <| SLd ty85 4 rfl <| SCl [33, 36] (c_r05_Bits _ _ _ hx21) e322 rfl <| SAs rfl <| SR <| Ak rfl <| Nl <| AW.block <| AW.loopG (d := []) (ν := Nat × (Vector Tern 24) × (List (Vector Tern 24)) × Int × Value) (fun n => True ∧ F_r07_List_l2 x21 f17 b2 go1 n.1 n.2.1 n.2.2.1 n.2.2.2.1 = some r) (fun n => n.1) (fun n => [(2, ptrL g3 (Lens.id (karr 24 kTern))), (3, ptrL g4 (Lens.id (karr 24 kTern))), (5, ptrL g6 (Lens.id (karr 24 kTern))), (8, raw n.2.2.2.2), (9, rd (kint .i64) f17), (10, rd (ksl (kint .i64)) x21), (11, rd (kint .i64) n.2.2.2.1)]) (fun n => [(3, Blk g3 87 (karr 24 kTern) a1), (4, Blk g4 87 (karr 24 kTern) b2), (6, Blk g6 87 (karr 24 kTern) n.2.1), (1001, Row n.2.2.2.2 87 (karr 24 kTern) n.2.2.1)]) (((((x21.length : Int) : Int) - 0).toNat + 1), b14, l15, 0, v16) ⟨trivial, h⟩ ⟨rfl, ⟨rfl, rfl, rfl, rfl, rfl, rfl, rfl, trivial⟩, ⟨rfl, rfl, rfl, rfl, trivial⟩⟩ ?_
        rintro ⟨m30, b26, l27, i29, v28⟩ ⟨hsf2, h⟩
        change True at hsf2
        change F_r07_List_l2 x21 f17 b2 go1 m30 b26 l27 i29 = some r at h
        change AW _ _ _ ⟨slots [(2, ptrL g3 (Lens.id (karr 24 kTern))), (3, ptrL g4 (Lens.id (karr 24 kTern))), (5, ptrL g6 (Lens.id (karr 24 kTern))), (8, raw v28), (9, rd (kint .i64) f17), (10, rd (ksl (kint .i64)) x21), (11, rd (kint .i64) i29)], ress [(3, Blk g3 87 (karr 24 kTern) a1), (4, Blk g4 87 (karr 24 kTern) b2), (6, Blk g6 87 (karr 24 kTern) b26), (1001, Row v28 87 (karr 24 kTern) l27)], _⟩
        cases m30 with
        | zero => cases h
        | succ m30 =>
          unfold F_r07_List_l2 at h
          generalize hgo2 : F_r07_List_l2 x21 f17 b2 go1 m30 = go2 at h
          refine AW.seq <| SR <| Md rfl <| Md rfl <| Ac (op_len' rfl rfl sl37 (vt rfl)) rfl <| Ac (op_lss rfl rfl (vt rfl) (vt rfl)) rfl <| Nl <| Cn rfl (fun hc => ?_) (fun hc => ?_)
          · have h := cond_t hc h
            refine AW.skip <| AW.seq <| AW.block <| AW.seq ?_
            obtain ⟨j31, hj31, h⟩ := bsome h
            obtain ⟨e32, he32, h⟩ := bsome h
            obtain ⟨x33, hx33, h⟩ := bsome h
            refine AW.regionAny [⟨[9], [44], [], []⟩, ⟨[3, 44], [45], [], []⟩, ⟨[45], [46], [], []⟩, ⟨[46], [47], [4], []⟩, ⟨[10], [48], [], []⟩, ⟨[11], [49], [], []⟩, ⟨[48, 49], [50], [], []⟩, ⟨[50], [51], [], []⟩, ⟨[47, 51], [52], [], []⟩, ⟨[52], [12], [], []⟩] mixed (by kernel_rfl) <| SMd rfl <| Sc (lo [3, 44] [] rfl fun S hs hr => op_index' rfl rfl ar87 (vh hs 3 rfl rfl) (vh hs 44 rfl rfl) hj31) rfl <| SFd lTern_0 fl85_0 rfl <| SLd ty42 4 rfl <| SMd rfl <| SMd rfl <| Sc (lo [48, 49] [] rfl fun S hs hr => op_indexs' rfl rfl sl37 (vh hs 48 rfl rfl) (vh hs 49 rfl rfl) he32) rfl <| SLp ty3 rfl <| SCl [47, 51] (c_r02_Has _ _ _ hx33) e323 rfl <| SAs rfl <| SR <| Ld ty87 6 rfl <| Ct rfl (op_alloc 14 rfl rfl zr87) ?_
            rintro _ ⟨g34, rfl⟩
            refine Sto ty87 14 rfl <| Nl <| AW.seq ?_
            obtain ⟨j35, hj35, h⟩ := bsome h
            obtain ⟨e36, he36, h⟩ := bsome h
            obtain ⟨x37, hx37, h⟩ := bsome h
            obtain ⟨j38, hj38, h⟩ := bsome h
            refine AW.regionAny [⟨[9], [54], [], []⟩, ⟨[9], [55], [], []⟩, ⟨[5, 55], [56], [], []⟩, ⟨[56], [57], [6], []⟩, ⟨[10], [58], [], []⟩, ⟨[11], [59], [], []⟩, ⟨[58, 59], [60], [], []⟩, ⟨[60], [61], [], []⟩, ⟨[12], [62], [], []⟩, ⟨[62], [63], [], []⟩, ⟨[57, 61, 63], [64], [], []⟩, ⟨[13, 54], [65], [], []⟩, ⟨[65, 64], [], [14], [14]⟩] mixed (by kernel_rfl) <| SMd rfl <| SMd rfl <| Sc (lo [5, 55] [] rfl fun S hs hr => op_index' rfl rfl ar87 (vh hs 5 rfl rfl) (vh hs 55 rfl rfl) hj35) rfl <| SLd ty85 6 rfl <| SMd rfl <| SMd rfl <| Sc (lo [58, 59] [] rfl fun S hs hr => op_indexs' rfl rfl sl37 (vh hs 58 rfl rfl) (vh hs 59 rfl rfl) he36) rfl <| SLp ty3 rfl <| SMd rfl <| Sc (lo [62] [] rfl fun S hs hr => op_not rfl rfl (vh hs 62 rfl rfl)) rfl <| SCl [57, 61, 63] (c_r05_Fix _ _ _ _ hx37) e324 rfl <| Sc (lo [13, 54] [] rfl fun S hs hr => op_index' rfl rfl ar87 (vh hs 13 rfl rfl) (vh hs 54 rfl rfl) hj38) rfl <| SSt ty85 14 rfl <| AW.seq ?_
            obtain ⟨l39, hl39, h⟩ := bsome h
            refine Rg <| Mw rfl <| Ld ty87 14 rfl <| Ac (op_buildSliceR (ps := [(0, .tmp 67)]) (l := [(Vector.set b26 j38.1 x37 j38.2)]) rfl rfl sl229 zr87 rfl rfl ⟨_, _, Lens.idx 1 (karr 24 kTern) 0 (by decide), _, rfl, (vt rfl), rfl⟩ rfl) rfl <| Ct rfl (op_append' 1001 hl39 rfl rfl el229 (vt rfl) rfl (vt rfl)) ?_
            rintro _ ⟨v40, rfl⟩
            refine Aw rfl <| Nl ?_
            obtain ⟨j41, hj41, h⟩ := bsome h
            obtain ⟨e42, he42, h⟩ := bsome h
            obtain ⟨x43, hx43, h⟩ := bsome h
            obtain ⟨j44, hj44, h⟩ := bsome h
            refine AW.regionAny [⟨[9], [70], [], []⟩, ⟨[9], [71], [], []⟩, ⟨[5, 71], [72], [], []⟩, ⟨[72], [73], [6], []⟩, ⟨[10], [74], [], []⟩, ⟨[11], [75], [], []⟩, ⟨[74, 75], [76], [], []⟩, ⟨[76], [77], [], []⟩, ⟨[12], [78], [], []⟩, ⟨[73, 77, 78], [79], [], []⟩, ⟨[5, 70], [80], [], []⟩, ⟨[80, 79], [], [6], [6]⟩] mixed (by kernel_rfl) <| SMd rfl <| SMd rfl <| Sc (lo [5, 71] [] rfl fun S hs hr => op_index' rfl rfl ar87 (vh hs 5 rfl rfl) (vh hs 71 rfl rfl) hj41) rfl <| SLd ty85 6 rfl <| SMd rfl <| SMd rfl <| Sc (lo [74, 75] [] rfl fun S hs hr => op_indexs' rfl rfl sl37 (vh hs 74 rfl rfl) (vh hs 75 rfl rfl) he42) rfl <| SLp ty3 rfl <| SMd rfl <| SCl [73, 77, 78] (c_r05_Fix _ _ _ _ hx43) e324 rfl <| Sc (lo [5, 70] [] rfl fun S hs hr => op_index' rfl rfl ar87 (vh hs 5 rfl rfl) (vh hs 70 rfl rfl) hj44) rfl <| SSt ty85 6 rfl <| Rg <| Md rfl <| Ac (op_add rfl rfl (vt rfl) (vk rfl)) rfl <| As rfl <| Nl ?_
            subst hgo2
            exact ⟨(m30, (Vector.set b26 j44.1 x43 j44.2), l39, (IntKind.i64.wrap (i29 + 1)), v40), Nat.lt_succ_self _, ⟨trivial, h⟩, ⟨rfl, ⟨rfl, rfl, rfl, rfl, rfl, rfl, rfl, trivial⟩, ⟨rfl, rfl, rfl, rfl, trivial⟩⟩⟩
          · have h := cond_f hc h
            refine AW.exit <| Rg <| Md rfl <| Ac (op_add rfl rfl (vt rfl) (vk rfl)) rfl <| As rfl <| Nl ?_
            subst hgo1
            exact ⟨(m18, b26, l27, (IntKind.i64.wrap (f17 + 1)), v28), Nat.lt_succ_self _, ⟨trivial, h⟩, ⟨rfl, ⟨rfl, rfl, rfl, rfl, rfl, trivial⟩, ⟨rfl, rfl, rfl, rfl, trivial⟩⟩⟩
      · have h := cond_f hc h
        refine AW.exit <| SR <| Mw rfl <| Aw rfl <| Nl <| AW.freezes [4, 8, 81] 1001 rfl ⟨rfl, rfl, rfl, trivial⟩ rfl <| AW.ret ?_
        obtain rfl := si h
        exact ret1 Tryz.results283 rfl (out_tmp rfl)
def F_r08_look_s_l3 (x20 : (List (Vector Tern 24))) (l2 : (List (Vector Tern 24))) (first10 : Int) (R_r08_look : ((Vector Tern 24) → (List (Vector Tern 24)) → Int → Bool → Option ((Vector Wide 24) × Bool × Int))) (free4 : Bool) : Nat → Int → Int → Option ((Vector Wide 24) × Bool × Int)
  | 0, _, _ => none
  | m25 + 1, left23, i24 => (bif (decide (i24 < (x20.length : Int))) then (lget x20 i24).bind fun e26 => (odrop l2 (IntKind.i64.wrap (first10 + 1))).bind fun s27 => (R_r08_look e26 s27 left23 free4).bind fun x28 => (bif (x28.2.1 || (decide (x28.2.2 < 0))) then some (x28.1, x28.2.1, x28.2.2) else (F_r08_look_s_l3 x20 l2 first10 R_r08_look free4 m25) x28.2.2 (IntKind.i64.wrap (i24 + 1))) else some ((Vector.replicate 24 zWide), false, left23))
def F_r08_look_s_l2 (l2 : (List (Vector Tern 24))) (cu1 : (Vector Tern 24)) (left7 : Int) (R_r08_look : ((Vector Tern 24) → (List (Vector Tern 24)) → Int → Bool → Option ((Vector Wide 24) × Bool × Int))) (free4 : Bool) : Nat → Int → Int → Option ((Vector Wide 24) × Bool × Int)
  | 0, _, _ => none
  | m12 + 1, first10, i11 => (bif (decide (i11 < (l2.length : Int))) then (lget l2 i11).bind fun e13 => (F_r06_Within cu1 e13).bind fun x14 => (bif x14 then some ((Vector.replicate 24 zWide), false, left7) else (lget l2 i11).bind fun e15 => (F_r06_Meet cu1 e15).bind fun x16 => (bif (x16.2 && (decide (first10 < 0))) then (F_r08_look_s_l2 l2 cu1 left7 R_r08_look free4 m12) i11 (IntKind.i64.wrap (i11 + 1)) else (F_r08_look_s_l2 l2 cu1 left7 R_r08_look free4 m12) first10 (IntKind.i64.wrap (i11 + 1)))) else (bif (decide (first10 < 0)) then (F_r06_Pick cu1).bind fun x18 => some (x18, true, left7) else (lget l2 first10).bind fun e19 => (F_r07_List cu1 e19).bind fun x20 => F_r08_look_s_l3 x20 l2 first10 R_r08_look free4 ((((x20.length : Int) : Int) - 0).toNat + 1) left7 0))
def F_r08_look_s_j1 (l2 : (List (Vector Tern 24))) (cu1 : (Vector Tern 24)) (R_r08_look : ((Vector Tern 24) → (List (Vector Tern 24)) → Int → Bool → Option ((Vector Wide 24) × Bool × Int))) (free4 : Bool) (left7 : Int) : Option ((Vector Wide 24) × Bool × Int) :=
  F_r08_look_s_l2 l2 cu1 left7 R_r08_look free4 ((((l2.length : Int) : Int) - 0).toNat + 1) (-1) 0
def F_r08_look_s (R_r08_look : ((Vector Tern 24) → (List (Vector Tern 24)) → Int → Bool → Option ((Vector Wide 24) × Bool × Int))) (cu1 : (Vector Tern 24)) (l2 : (List (Vector Tern 24))) (left3 : Int) (free4 : Bool) : Option ((Vector Wide 24) × Bool × Int) :=
  (bif ((!free4) && (decide (left3 < 1))) then some ((Vector.replicate 24 zWide), false, (-1)) else (bif (!free4) then F_r08_look_s_j1 l2 cu1 R_r08_look free4 (IntKind.i64.wrap (left3 - 1)) else F_r08_look_s_j1 l2 cu1 R_r08_look free4 left3))
theorem c_r08_look_s (R_r08_look : ((Vector Tern 24) → (List (Vector Tern 24)) → Int → Bool → Option ((Vector Wide 24) × Bool × Int))) (hR_r08_look : ∀ (cu1 : (Vector Tern 24)) (l2 : (List (Vector Tern 24))) (left3 : Int) (free4 : Bool) (r : ((Vector Wide 24) × Bool × Int)), R_r08_look cu1 l2 left3 free4 = some r → PCon Tryz.prog 236 [rd (karr 24 kTern) cu1, rd (ksl (karr 24 kTern)) l2, rd (kint .i64) left3, rd kbool free4] (tup3 (rd (karr 24 kWide) r.1) (rd kbool r.2.1) (rd (kint .i64) r.2.2))) (cu1 : (Vector Tern 24)) (l2 : (List (Vector Tern 24))) (left3 : Int) (free4 : Bool) (r : ((Vector Wide 24) × Bool × Int)) (h : F_r08_look_s R_r08_look cu1 l2 left3 free4 = some r) : PCon Tryz.prog 236 [rd (karr 24 kTern) cu1, rd (ksl (karr 24 kTern)) l2, rd (kint .i64) left3, rd kbool free4] (tup3 (rd (karr 24 kWide) r.1) (rd kbool r.2.1) (rd (kint .i64) r.2.2)) := by
  refine PCon.of (Con.intro0 Tryz.func236 rfl Tryz.ntmps236 rfl fun w H => ?_)
  unfold F_r08_look_s at h
  refine SR <| Ct rfl (op_box 5 rfl rfl (vt rfl)) ?_
  rintro _ ⟨g5, rfl⟩
  refine Ct rfl (op_alloc 9 rfl rfl zr44) ?_
  rintro _ ⟨g6, rfl⟩
  refine Ab rfl <| Ak rfl <| Nl <| AW.seq <| SR <| Md rfl <| Ac (op_not rfl rfl (vt rfl)) rfl <| Md rfl <| Gd rfl (fun hq => op_move (A := rd (kint .i64) left3) rfl rfl (vt rfl)) <| Gd rfl (fun hq => op_lss rfl rfl (vgt rfl hq) (vk rfl)) <| Ac (op_all rfl rfl (vt rfl) (vt rfl)) rfl <| Nl <| Cn rfl (fun hc => ?_) (fun hc => ?_)
  · have h := cond_t hc h
    refine SR <| Ac (op_build (ps := []) (x := (Vector.replicate 24 zWide)) rfl rfl rfl (by kernel_rfl) zr44 rfl) rfl <| Sto ty44 9 rfl <| Ab rfl <| Ak rfl <| Nl <| AW.ret ?_
    obtain rfl := si h
    exact ret3 Tryz.results236 rfl (out_cell rfl (i := 9) rfl ty44) (out_tmp rfl) (out_tmp rfl)
  · have h := cond_f hc h
    refine AW.skip ?_
    refine AW.join (d := []) (ν := Int) (fun n => F_r08_look_s_j1 l2 cu1 R_r08_look free4 n = some r) (fun n => [(1, rd (ksl (karr 24 kTern)) l2), (2, rd (kint .i64) n), (3, rd kbool free4), (4, ptrL g5 (Lens.id (karr 24 kTern))), (8, ptrL g6 (Lens.id (karr 24 kWide)))]) (fun n => [(5, Blk g5 87 (karr 24 kTern) cu1), (9, Blk g6 44 (karr 24 kWide) (Vector.replicate 24 zWide))]) ?hx1 ?hy1
    case hy1 =>
      intro left7 h
      unfold F_r08_look_s_j1 at h
      change AW _ _ _ ⟨slots [(1, rd (ksl (karr 24 kTern)) l2), (2, rd (kint .i64) left7), (3, rd kbool free4), (4, ptrL g5 (Lens.id (karr 24 kTern))), (8, ptrL g6 (Lens.id (karr 24 kWide)))], ress [(5, Blk g5 87 (karr 24 kTern) cu1), (9, Blk g6 44 (karr 24 kWide) (Vector.replicate 24 zWide))], _⟩
      refine SR <| Ak rfl <| Nl <| AW.seq <| SR <| Ak rfl <| Nl <| AW.block <| AW.loopG (d := []) (ν := Nat × Int × Int) (fun n => True ∧ F_r08_look_s_l2 l2 cu1 left7 R_r08_look free4 n.1 n.2.1 n.2.2 = some r) (fun n => n.1) (fun n => [(1, rd (ksl (karr 24 kTern)) l2), (2, rd (kint .i64) left7), (3, rd kbool free4), (4, ptrL g5 (Lens.id (karr 24 kTern))), (8, ptrL g6 (Lens.id (karr 24 kWide))), (11, rd (kint .i64) n.2.1), (12, rd (kint .i64) n.2.2)]) (fun n => [(5, Blk g5 87 (karr 24 kTern) cu1), (9, Blk g6 44 (karr 24 kWide) (Vector.replicate 24 zWide))]) (((((l2.length : Int) : Int) - 0).toNat + 1), (-1), 0) ⟨trivial, h⟩ ⟨rfl, ⟨rfl, rfl, rfl, rfl, rfl, rfl, rfl, trivial⟩, ⟨rfl, rfl, trivial⟩⟩ ?_
      rintro ⟨m12, first10, i11⟩ ⟨hsf2, h⟩
      change True at hsf2
      change F_r08_look_s_l2 l2 cu1 left7 R_r08_look free4 m12 first10 i11 = some r at h
      change AW _ _ _ ⟨slots [(1, rd (ksl (karr 24 kTern)) l2), (2, rd (kint .i64) left7), (3, rd kbool free4), (4, ptrL g5 (Lens.id (karr 24 kTern))), (8, ptrL g6 (Lens.id (karr 24 kWide))), (11, rd (kint .i64) first10), (12, rd (kint .i64) i11)], ress [(5, Blk g5 87 (karr 24 kTern) cu1), (9, Blk g6 44 (karr 24 kWide) (Vector.replicate 24 zWide))], _⟩
      cases m12 with
      | zero => cases h
      | succ m12 =>
        unfold F_r08_look_s_l2 at h
        generalize hgo2 : F_r08_look_s_l2 l2 cu1 left7 R_r08_look free4 m12 = go2 at h
        refine AW.seq <| SR <| Md rfl <| Md rfl <| Ac (op_len' rfl rfl sl229 (vt rfl)) rfl <| Ac (op_lss rfl rfl (vt rfl) (vt rfl)) rfl <| Nl <| Cn rfl (fun hc => ?_) (fun hc => ?_)
        · have h := cond_t hc h
          refine AW.skip <| AW.seq <| AW.block <| AW.seq <| AW.seq ?_
          obtain ⟨e13, he13, h⟩ := bsome h
          obtain ⟨x14, hx14, h⟩ := bsome h
          refine AW.regionAny [⟨[4], [37], [5], []⟩, ⟨[1], [38], [], []⟩, ⟨[12], [39], [], []⟩, ⟨[38, 39], [40], [], []⟩, ⟨[40], [41], [], []⟩, ⟨[37, 41], [42], [], []⟩] mixed (by kernel_rfl) <| SLd ty87 5 rfl <| SMd rfl <| SMd rfl <| Sc (lo [38, 39] [] rfl fun S hs hr => op_indexs' rfl rfl sl229 (vh hs 38 rfl rfl) (vh hs 39 rfl rfl) he13) rfl <| SLp ty87 rfl <| SCl [37, 41] (c_r06_Within _ _ _ hx14) e281 rfl <| Cn rfl (fun hc => ?_) (fun hc => ?_)
          · have h := cond_t hc h
            refine SR <| Ac (op_build (ps := []) (x := (Vector.replicate 24 zWide)) rfl rfl rfl (by kernel_rfl) zr44 rfl) rfl <| Md rfl <| Sto ty44 9 rfl <| Ab rfl <| As rfl <| Nl <| AW.ret ?_
            obtain rfl := si h
            exact ret3 Tryz.results236 rfl (out_cell rfl (i := 9) rfl ty44) (out_tmp rfl) (out_tmp rfl)
          · have h := cond_f hc h
            refine AW.skip <| AW.seq ?_
            obtain ⟨e15, he15, h⟩ := bsome h
            obtain ⟨x16, hx16, h⟩ := bsome h
            refine AW.regionAny [⟨[4], [46], [5], []⟩, ⟨[1], [47], [], []⟩, ⟨[12], [48], [], []⟩, ⟨[47, 48], [49], [], []⟩, ⟨[49], [50], [], []⟩, ⟨[46, 50], [51], [], []⟩, ⟨[51], [45], [], []⟩, ⟨[45], [52], [], []⟩, ⟨[45], [53], [], []⟩, ⟨[], [13], [], []⟩, ⟨[13, 52], [13], [], []⟩, ⟨[53], [14], [], []⟩] mixed (by kernel_rfl) <| SLd ty87 5 rfl <| SMd rfl <| SMd rfl <| Sc (lo [47, 48] [] rfl fun S hs hr => op_indexs' rfl rfl sl229 (vh hs 47 rfl rfl) (vh hs 48 rfl rfl) he15) rfl <| SLp ty87 rfl <| SCl [46, 50] (c_r06_Meet _ _ _ hx16) e142 rfl <| Sc (lo [51] [] rfl fun S hs hr => op_move (A := tup2 (rd (karr 24 kTern) x16.1) (rd kbool x16.2)) rfl rfl (vh hs 51 rfl rfl)) rfl <| Sc (lo [45] [] rfl fun S hs hr => op_fst rfl rfl (vh hs 45 rfl rfl)) rfl <| Sc (lo [45] [] rfl fun S hs hr => op_snd rfl rfl (vh hs 45 rfl rfl)) rfl <| Sc (locs (us := [(13, ownP 87 (karr 24 kTern) (Vector.replicate 24 zTern))]) (ur := []) [] [] rfl fun S hs hr => op_allocO rfl rfl rfl zr87) rfl <| Sc (locs (us := [(13, ownP 87 (karr 24 kTern) x16.1)]) (ur := []) [13, 52] [] rfl fun S hs hr => op_storeO rfl rfl ty87 ((hs 13 rfl).trans rfl) (vh hs 52 rfl rfl)) rfl <| SAs rfl <| AW.unpackP 13 14 rfl rfl fun g17 => SR <| Md rfl <| Md rfl <| Gd rfl (fun hq => op_move (A := rd (kint .i64) first10) rfl rfl (vt rfl)) <| Gd rfl (fun hq => op_lss rfl rfl (vgt rfl hq) (vk rfl)) <| Ac (op_all rfl rfl (vt rfl) (vt rfl)) rfl <| Nl <| Cn rfl (fun hc => ?_) (fun hc => ?_)
            · have h := cond_t hc h
              refine Rg <| Md rfl <| As rfl <| Nl <| Rg <| Md rfl <| Ac (op_add rfl rfl (vt rfl) (vk rfl)) rfl <| As rfl <| Nl ?_
              subst hgo2
              exact ⟨(m12, i11, (IntKind.i64.wrap (i11 + 1))), Nat.lt_succ_self _, ⟨trivial, h⟩, ⟨rfl, ⟨rfl, rfl, rfl, rfl, rfl, rfl, rfl, trivial⟩, ⟨rfl, rfl, trivial⟩⟩⟩
            · have h := cond_f hc h
              refine AW.skip <| Rg <| Md rfl <| Ac (op_add rfl rfl (vt rfl) (vk rfl)) rfl <| As rfl <| Nl ?_
              subst hgo2
              exact ⟨(m12, first10, (IntKind.i64.wrap (i11 + 1))), Nat.lt_succ_self _, ⟨trivial, h⟩, ⟨rfl, ⟨rfl, rfl, rfl, rfl, rfl, rfl, rfl, trivial⟩, ⟨rfl, rfl, trivial⟩⟩⟩
        · have h := cond_f hc h
          refine AW.exit <| AW.seq <| SR <| Md rfl <| Ac (op_lss rfl rfl (vt rfl) (vk rfl)) rfl <| Nl <| Cn rfl (fun hc => ?_) (fun hc => ?_)
          · have h := cond_t hc h
            refine AW.seq ?_
            obtain ⟨x18, hx18, h⟩ := bsome h
            refine Rg <| Ld ty87 5 rfl <| Cl [62] (c_r06_Pick _ _ hx18) e282 rfl <| Md rfl <| Sto ty44 9 rfl <| Ab rfl <| As rfl <| Nl <| AW.ret ?_
            obtain rfl := si h
            exact ret3 Tryz.results236 rfl (out_cell rfl (i := 9) rfl ty44) (out_tmp rfl) (out_tmp rfl)
          · have h := cond_f hc h
            refine AW.skip <| AW.seq ?_
            obtain ⟨e19, he19, h⟩ := bsome h
            obtain ⟨x20, hx20, h⟩ := bsome h
            refine AW.regionAny [⟨[4], [65], [5], []⟩, ⟨[1], [66], [], []⟩, ⟨[11], [67], [], []⟩, ⟨[66, 67], [68], [], []⟩, ⟨[68], [69], [], []⟩, ⟨[65, 69], [70], [], []⟩, ⟨[70], [15], [], []⟩] mixed (by kernel_rfl) <| SLd ty87 5 rfl <| SMd rfl <| SMd rfl <| Sc (lo [66, 67] [] rfl fun S hs hr => op_indexs' rfl rfl sl229 (vh hs 66 rfl rfl) (vh hs 67 rfl rfl) he19) rfl <| SLp ty87 rfl <| SCl [65, 69] (c_r07_List _ _ _ hx20) e283 rfl <| SAs rfl <| AW.seq <| SR <| Ak rfl <| Nl <| AW.block <| AW.loopG (d := []) (ν := Nat × Int × Int) (fun n => True ∧ F_r08_look_s_l3 x20 l2 first10 R_r08_look free4 n.1 n.2.1 n.2.2 = some r) (fun n => n.1) (fun n => [(1, rd (ksl (karr 24 kTern)) l2), (2, rd (kint .i64) n.2.1), (3, rd kbool free4), (8, ptrL g6 (Lens.id (karr 24 kWide))), (11, rd (kint .i64) first10), (15, rd (ksl (karr 24 kTern)) x20), (16, rd (kint .i64) n.2.2)]) (fun n => [(9, Blk g6 44 (karr 24 kWide) (Vector.replicate 24 zWide))]) (((((x20.length : Int) : Int) - 0).toNat + 1), left7, 0) ⟨trivial, h⟩ ⟨rfl, ⟨rfl, rfl, rfl, rfl, rfl, rfl, rfl, trivial⟩, ⟨rfl, trivial⟩⟩ ?_
            rintro ⟨m25, left23, i24⟩ ⟨hsf3, h⟩
            change True at hsf3
            change F_r08_look_s_l3 x20 l2 first10 R_r08_look free4 m25 left23 i24 = some r at h
            change AW _ _ _ ⟨slots [(1, rd (ksl (karr 24 kTern)) l2), (2, rd (kint .i64) left23), (3, rd kbool free4), (8, ptrL g6 (Lens.id (karr 24 kWide))), (11, rd (kint .i64) first10), (15, rd (ksl (karr 24 kTern)) x20), (16, rd (kint .i64) i24)], ress [(9, Blk g6 44 (karr 24 kWide) (Vector.replicate 24 zWide))], _⟩
            cases m25 with
            | zero => cases h
            | succ m25 =>
              unfold F_r08_look_s_l3 at h
              generalize hgo3 : F_r08_look_s_l3 x20 l2 first10 R_r08_look free4 m25 = go3 at h
              refine AW.seq <| SR <| Md rfl <| Md rfl <| Ac (op_len' rfl rfl sl229 (vt rfl)) rfl <| Ac (op_lss rfl rfl (vt rfl) (vt rfl)) rfl <| Nl <| Cn rfl (fun hc => ?_) (fun hc => ?_)
              · have h := cond_t hc h
                refine AW.skip <| AW.seq <| AW.block <| AW.seq ?_
                obtain ⟨e26, he26, h⟩ := bsome h
                obtain ⟨s27, hs27, h⟩ := bsome h
                obtain ⟨x28, hx28, h⟩ := bsome h
                refine AW.regionAny [⟨[15], [78], [], []⟩, ⟨[16], [79], [], []⟩, ⟨[78, 79], [80], [], []⟩, ⟨[80], [81], [], []⟩, ⟨[1], [82], [], []⟩, ⟨[11], [83], [], []⟩, ⟨[83], [84], [], []⟩, ⟨[82, 84], [85], [], []⟩, ⟨[2], [86], [], []⟩, ⟨[3], [87], [], []⟩, ⟨[81, 85, 86, 87], [88], [], []⟩, ⟨[88], [77], [], []⟩, ⟨[77], [89], [], []⟩, ⟨[77], [90], [], []⟩, ⟨[77], [91], [], []⟩, ⟨[], [17], [], []⟩, ⟨[17, 89], [17], [], []⟩, ⟨[90], [18], [], []⟩, ⟨[91], [19], [], []⟩] mixed (by kernel_rfl) <| SMd rfl <| SMd rfl <| Sc (lo [78, 79] [] rfl fun S hs hr => op_indexs' rfl rfl sl229 (vh hs 78 rfl rfl) (vh hs 79 rfl rfl) he26) rfl <| SLp ty87 rfl <| SMd rfl <| SMd rfl <| Sc (lo [83] [] rfl fun S hs hr => op_add rfl rfl (vh hs 83 rfl rfl) (vk rfl)) rfl <| Sc (lo [82, 84] [] rfl fun S hs hr => op_slice_l' hs27 rfl rfl sl229 (vh hs 82 rfl rfl) (vh hs 84 rfl rfl)) rfl <| SMd rfl <| SMd rfl <| SCl [81, 85, 86, 87] (hR_r08_look _ _ _ _ _ hx28) e236 rfl <| Sc (lo [88] [] rfl fun S hs hr => op_move (A := tup3 (rd (karr 24 kWide) x28.1) (rd kbool x28.2.1) (rd (kint .i64) x28.2.2)) rfl rfl (vh hs 88 rfl rfl)) rfl <| Sc (lo [77] [] rfl fun S hs hr => op_ext3_0 rfl rfl (vh hs 77 rfl rfl)) rfl <| Sc (lo [77] [] rfl fun S hs hr => op_ext3_1 rfl rfl (vh hs 77 rfl rfl)) rfl <| Sc (lo [77] [] rfl fun S hs hr => op_ext3_2 rfl rfl (vh hs 77 rfl rfl)) rfl <| Sc (locs (us := [(17, ownP 44 (karr 24 kWide) (Vector.replicate 24 zWide))]) (ur := []) [] [] rfl fun S hs hr => op_allocO rfl rfl rfl zr44) rfl <| Sc (locs (us := [(17, ownP 44 (karr 24 kWide) x28.1)]) (ur := []) [17, 89] [] rfl fun S hs hr => op_storeO rfl rfl ty44 ((hs 17 rfl).trans rfl) (vh hs 89 rfl rfl)) rfl <| SAs rfl <| SAs rfl <| AW.unpackP 17 18 rfl rfl fun g29 => AW.seq <| SR <| Md rfl <| Md rfl <| Gd rfl (fun hq => op_move (A := rd (kint .i64) x28.2.2) rfl rfl (vt rfl)) <| Gd rfl (fun hq => op_lss rfl rfl (vgt rfl hq) (vk rfl)) <| Ac (op_any rfl rfl (vt rfl) (vt rfl)) rfl <| Nl <| Cn rfl (fun hc => ?_) (fun hc => ?_)
                · have h := cond_t hc h
                  refine SR <| Ld ty44 18 rfl <| Md rfl <| Md rfl <| Sto ty44 9 rfl <| As rfl <| As rfl <| Nl <| AW.ret ?_
                  obtain rfl := si h
                  exact ret3 Tryz.results236 rfl (out_cell rfl (i := 9) rfl ty44) (out_tmp rfl) (out_tmp rfl)
                · have h := cond_f hc h
                  refine AW.skip <| Rg <| Md rfl <| As rfl <| Nl <| Rg <| Md rfl <| Ac (op_add rfl rfl (vt rfl) (vk rfl)) rfl <| As rfl <| Nl ?_
                  subst hgo3
                  exact ⟨(m25, x28.2.2, (IntKind.i64.wrap (i24 + 1))), Nat.lt_succ_self _, ⟨trivial, h⟩, ⟨rfl, ⟨rfl, rfl, rfl, rfl, rfl, rfl, rfl, trivial⟩, ⟨rfl, trivial⟩⟩⟩
              · have h := cond_f hc h
                refine AW.exit <| SR <| Ac (op_build (ps := []) (x := (Vector.replicate 24 zWide)) rfl rfl rfl (by kernel_rfl) zr44 rfl) rfl <| Md rfl <| Sto ty44 9 rfl <| Ab rfl <| As rfl <| Nl <| AW.ret ?_
                obtain rfl := si h
                exact ret3 Tryz.results236 rfl (out_cell rfl (i := 9) rfl ty44) (out_tmp rfl) (out_tmp rfl)
    case hx1 =>
      refine SR <| Md rfl <| Ac (op_not rfl rfl (vt rfl)) rfl <| Nl <| Cn rfl (fun hc => ?_) (fun hc => ?_)
      · have h := cond_t hc h
        refine Rg <| Md rfl <| Ac (op_sub rfl rfl (vt rfl) (vk rfl)) rfl <| As rfl <| Nl ?_
        exact ⟨(IntKind.i64.wrap (left3 - 1)), h, ⟨rfl, ⟨rfl, rfl, rfl, rfl, rfl, trivial⟩, ⟨rfl, rfl, trivial⟩⟩⟩
      · have h := cond_f hc h
        refine AW.skip ?_
        exact ⟨left3, h, ⟨rfl, ⟨rfl, rfl, rfl, rfl, rfl, trivial⟩, ⟨rfl, rfl, trivial⟩⟩⟩
def FR_r08_look : Nat → ((Vector Tern 24) → (List (Vector Tern 24)) → Int → Bool → Option ((Vector Wide 24) × Bool × Int))
  | 0 => (fun _ _ _ _ => none)
  | n + 1 => (F_r08_look_s (FR_r08_look n))
theorem cR_r08_look : ∀ n : Nat, (∀ (cu1 : (Vector Tern 24)) (l2 : (List (Vector Tern 24))) (left3 : Int) (free4 : Bool) (r : ((Vector Wide 24) × Bool × Int)), (FR_r08_look n) cu1 l2 left3 free4 = some r → PCon Tryz.prog 236 [rd (karr 24 kTern) cu1, rd (ksl (karr 24 kTern)) l2, rd (kint .i64) left3, rd kbool free4] (tup3 (rd (karr 24 kWide) r.1) (rd kbool r.2.1) (rd (kint .i64) r.2.2)))
  | 0 => (by intros; rename_i h; cases h)
  | n + 1 => by
    have ih := cR_r08_look n
    exact (c_r08_look_s (FR_r08_look n) ih)
def F_r08_look (cu1 : (Vector Tern 24)) (l2 : (List (Vector Tern 24))) (left3 : Int) (free4 : Bool) : Option ((Vector Wide 24) × Bool × Int) := (FR_r08_look fuel0) cu1 l2 left3 free4
theorem c_r08_look : ∀ (cu1 : (Vector Tern 24)) (l2 : (List (Vector Tern 24))) (left3 : Int) (free4 : Bool) (r : ((Vector Wide 24) × Bool × Int)), F_r08_look cu1 l2 left3 free4 = some r → PCon Tryz.prog 236 [rd (karr 24 kTern) cu1, rd (ksl (karr 24 kTern)) l2, rd (kint .i64) left3, rd kbool free4] (tup3 (rd (karr 24 kWide) r.1) (rd kbool r.2.1) (rd (kint .i64) r.2.2)) := cR_r08_look fuel0
def F_r08_Look (cu1 : (Vector Tern 24)) (l2 : (List (Vector Tern 24))) (most3 : Int) : Option ((Vector Wide 24) × Bool × Int) :=
  (F_r08_look cu1 l2 (imax most3 0) (decide (most3 ≥ 1099511627776))).bind fun x6 => (bif (decide (x6.2.2 < 0)) then some ((Vector.replicate 24 zWide), false, 5) else some (x6.1, x6.2.1, 0))
theorem c_r08_Look (cu1 : (Vector Tern 24)) (l2 : (List (Vector Tern 24))) (most3 : Int) (r : ((Vector Wide 24) × Bool × Int)) (h : F_r08_Look cu1 l2 most3 = some r) : PCon Tryz.prog 171 [rd (karr 24 kTern) cu1, rd (ksl (karr 24 kTern)) l2, rd (kint .i64) most3] (tup3 (rd (karr 24 kWide) r.1) (rd kbool r.2.1) (rd (kint .i64) r.2.2)) := by
  refine PCon.of (Con.intro0 Tryz.func171 rfl Tryz.ntmps171 rfl fun w H => ?_)
  unfold F_r08_Look at h
  refine SR <| Ct rfl (op_box 4 rfl rfl (vt rfl)) ?_
  rintro _ ⟨g4, rfl⟩
  refine Ct rfl (op_alloc 7 rfl rfl zr44) ?_
  rintro _ ⟨g5, rfl⟩
  refine Ab rfl <| Ak rfl <| Nl <| SR <| Md rfl <| Ac (op_geq rfl rfl (vt rfl) (vk rfl)) rfl <| As rfl <| Nl <| AW.seq ?_
  obtain ⟨x6, hx6, h⟩ := bsome h
  refine Rg <| Ld ty87 4 rfl <| Md rfl <| Md rfl <| Ac (op_max rfl rfl (vt rfl) (vk rfl)) rfl <| Md rfl <| Cl [16, 17, 19, 20] (c_r08_look _ _ _ _ _ hx6) e236 rfl <| Ac (op_move (A := tup3 (rd (karr 24 kWide) x6.1) (rd kbool x6.2.1) (rd (kint .i64) x6.2.2)) rfl rfl (vt rfl)) rfl <| Ac (op_ext3_0 rfl rfl (vt rfl)) rfl <| Ac (op_ext3_1 rfl rfl (vt rfl)) rfl <| Ac (op_ext3_2 rfl rfl (vt rfl)) rfl <| Ct rfl (op_alloc 11 rfl rfl zr44) ?_
  rintro _ ⟨g7, rfl⟩
  refine Sto ty44 11 rfl <| As rfl <| As rfl <| Nl <| AW.seq <| SR <| Md rfl <| Ac (op_lss rfl rfl (vt rfl) (vk rfl)) rfl <| Nl <| Cn rfl (fun hc => ?_) (fun hc => ?_)
  · have h := cond_t hc h
    refine SR <| Ac (op_build (ps := []) (x := (Vector.replicate 24 zWide)) rfl rfl rfl (by kernel_rfl) zr44 rfl) rfl <| Sto ty44 7 rfl <| Ab rfl <| Ak rfl <| Nl <| AW.ret ?_
    obtain rfl := si h
    exact ret3 Tryz.results171 rfl (out_cell rfl (i := 7) rfl ty44) (out_tmp rfl) (out_tmp rfl)
  · have h := cond_f hc h
    refine AW.skip <| SR <| Ld ty44 11 rfl <| Md rfl <| Sto ty44 7 rfl <| As rfl <| Ak rfl <| Nl <| AW.ret ?_
    obtain rfl := si h
    exact ret3 Tryz.results171 rfl (out_cell rfl (i := 7) rfl ty44) (out_tmp rfl) (out_tmp rfl)
def F_r34_Look (l1 : (List Rule)) (i2 : Int) (most3 : Int) : Option ((Vector Wide 24) × Bool × Int) :=
  (bif ((decide (i2 < 0)) || (decide (i2 ≥ (l1.length : Int)))) then some ((Vector.replicate 24 zWide), false, 6) else (lget l1 i2).bind fun e5 => (otake l1 i2).bind fun s6 => (F_r34_Cubes s6).bind fun x7 => (F_r08_Look e5.Cube x7 most3).bind fun x8 => some (x8.1, x8.2.1, x8.2.2))
theorem c_r34_Look (l1 : (List Rule)) (i2 : Int) (most3 : Int) (r : ((Vector Wide 24) × Bool × Int)) (h : F_r34_Look l1 i2 most3 = some r) : PCon Tryz.prog 105 [rd (ksl kRule) l1, rd (kint .i64) i2, rd (kint .i64) most3] (tup3 (rd (karr 24 kWide) r.1) (rd kbool r.2.1) (rd (kint .i64) r.2.2)) := by
  refine PCon.of (Con.intro0 Tryz.func105 rfl Tryz.ntmps105 rfl fun w H => ?_)
  unfold F_r34_Look at h
  refine SR <| Ct rfl (op_alloc 7 rfl rfl zr44) ?_
  rintro _ ⟨g4, rfl⟩
  refine Ab rfl <| Ak rfl <| Nl <| AW.seq <| SR <| Md rfl <| Ac (op_lss rfl rfl (vt rfl) (vk rfl)) rfl <| Md rfl <| Gd rfl (fun hq => op_move (A := rd (kint .i64) i2) rfl rfl (vt rfl)) <| Gd rfl (fun hq => op_move (A := rd (ksl kRule) l1) rfl rfl (vt rfl)) <| Gd rfl (fun hq => op_len' rfl rfl sl32 (vgt rfl hq)) <| Gd rfl (fun hq => op_geq rfl rfl (vgt rfl hq) (vgt rfl hq)) <| Ac (op_any rfl rfl (vt rfl) (vt rfl)) rfl <| Nl <| Cn rfl (fun hc => ?_) (fun hc => ?_)
  · have h := cond_t hc h
    refine SR <| Ac (op_build (ps := []) (x := (Vector.replicate 24 zWide)) rfl rfl rfl (by kernel_rfl) zr44 rfl) rfl <| Sto ty44 7 rfl <| Ab rfl <| Ak rfl <| Nl <| AW.ret ?_
    obtain rfl := si h
    exact ret3 Tryz.results105 rfl (out_cell rfl (i := 7) rfl ty44) (out_tmp rfl) (out_tmp rfl)
  · have h := cond_f hc h
    refine AW.skip <| AW.seq ?_
    obtain ⟨e5, he5, h⟩ := bsome h
    obtain ⟨s6, hs6, h⟩ := bsome h
    obtain ⟨x7, hx7, h⟩ := bsome h
    obtain ⟨x8, hx8, h⟩ := bsome h
    refine AW.regionAny [⟨[0], [18], [], []⟩, ⟨[1], [19], [], []⟩, ⟨[18, 19], [20], [], []⟩, ⟨[20], [21], [], []⟩, ⟨[21], [22], [], []⟩, ⟨[0], [23], [], []⟩, ⟨[1], [24], [], []⟩, ⟨[23, 24], [25], [], []⟩, ⟨[25], [26], [], []⟩, ⟨[2], [27], [], []⟩, ⟨[22, 26, 27], [28], [], []⟩, ⟨[28], [29], [], []⟩, ⟨[28], [30], [], []⟩, ⟨[28], [31], [], []⟩, ⟨[6, 29], [], [7], [7]⟩, ⟨[30], [7], [], []⟩, ⟨[31], [8], [], []⟩] mixed (by kernel_rfl) <| SMd rfl <| SMd rfl <| Sc (lo [18, 19] [] rfl fun S hs hr => op_indexs' rfl rfl sl32 (vh hs 18 rfl rfl) (vh hs 19 rfl rfl) he5) rfl <| SFp lRule_0 fl90_0 rfl <| SLp ty87 rfl <| SMd rfl <| SMd rfl <| Sc (lo [23, 24] [] rfl fun S hs hr => op_slice_h' hs6 rfl rfl sl32 (vh hs 23 rfl rfl) (vh hs 24 rfl rfl)) rfl <| SCl [25] (c_r34_Cubes _ _ hx7) e172 rfl <| SMd rfl <| SCl [22, 26, 27] (c_r08_Look _ _ _ _ hx8) e171 rfl <| Sc (lo [28] [] rfl fun S hs hr => op_ext3_0 rfl rfl (vh hs 28 rfl rfl)) rfl <| Sc (lo [28] [] rfl fun S hs hr => op_ext3_1 rfl rfl (vh hs 28 rfl rfl)) rfl <| Sc (lo [28] [] rfl fun S hs hr => op_ext3_2 rfl rfl (vh hs 28 rfl rfl)) rfl <| SSt ty44 7 rfl <| SAs rfl <| SAs rfl <| AW.ret ?_
    obtain rfl := si h
    exact ret3 Tryz.results105 rfl (out_cell rfl (i := 7) rfl ty44) (out_tmp rfl) (out_tmp rfl)
def F_r36_Witness (f1 : Flat) (i2 : Int) (most3 : Int) : Option ((Vector Wide 24) × Bool × Int) :=
  (F_r34_Look f1.Rules i2 most3).bind fun x6 => some (x6.1, x6.2.1, x6.2.2)
theorem c_r36_Witness (f1 : Flat) (i2 : Int) (most3 : Int) (r : ((Vector Wide 24) × Bool × Int)) (h : F_r36_Witness f1 i2 most3 = some r) : PCon Tryz.prog 47 [rd kFlat f1, rd (kint .i64) i2, rd (kint .i64) most3] (tup3 (rd (karr 24 kWide) r.1) (rd kbool r.2.1) (rd (kint .i64) r.2.2)) := by
  refine PCon.of (Con.intro0 Tryz.func47 rfl Tryz.ntmps47 rfl fun w H => ?_)
  unfold F_r36_Witness at h
  refine SR <| Ct rfl (op_box 4 rfl rfl (vt rfl)) ?_
  rintro _ ⟨g4, rfl⟩
  refine Ct rfl (op_alloc 7 rfl rfl zr44) ?_
  rintro _ ⟨g5, rfl⟩
  refine Ab rfl <| Ak rfl <| Nl <| AW.seq ?_
  obtain ⟨x6, hx6, h⟩ := bsome h
  refine Rg <| FdA lFlat_0 fl73_0 rfl <| Ld ty32 4 rfl <| Md rfl <| Md rfl <| Cl [10, 11, 12] (c_r34_Look _ _ _ _ hx6) e105 rfl <| Ac (op_ext3_0 rfl rfl (vt rfl)) rfl <| Ac (op_ext3_1 rfl rfl (vt rfl)) rfl <| Ac (op_ext3_2 rfl rfl (vt rfl)) rfl <| Sto ty44 7 rfl <| As rfl <| As rfl <| Nl <| AW.ret ?_
  obtain rfl := si h
  exact ret3 Tryz.results47 rfl (out_cell rfl (i := 7) rfl ty44) (out_tmp rfl) (out_tmp rfl)
def F_l36_FindWitness (f1 : Flat) (i2 : Int) (most3 : Int) : Option Bool :=
  (F_pl_Rules f1.Rules 8).bind fun x5 => (bif ((!x5) || (decide (most3 > 4096))) then (F_l36_awake).bind fun x6 => some x6 else (F_find_Witness f1 i2 most3).bind fun x7 => (F_r36_Witness f1 i2 most3).bind fun x9 => (bif (((decide (x7.1 ≠ x9.1)) || (!(x7.2.1 == x9.2.1))) || (decide (x7.2.2 ≠ x9.2.2))) then some false else (F_find_Find f1 x7.1).bind fun x11 => (opt ((!x7.2.1) || (x11.2 && (decide (x11.1 = i2)))) (F_l36_awake)).bind fun x12 => some (((!x7.2.1) || (x11.2 && (decide (x11.1 = i2)))) && x12)))
theorem c_l36_FindWitness (f1 : Flat) (i2 : Int) (most3 : Int) (r : Bool) (h : F_l36_FindWitness f1 i2 most3 = some r) : PCon Tryz.prog 9 [rd kFlat f1, rd (kint .i64) i2, rd (kint .i64) most3] (rd kbool r) := by
  refine PCon.of (Con.intro0 Tryz.func9 rfl Tryz.ntmps9 rfl fun w H => ?_)
  unfold F_l36_FindWitness at h
  refine SR <| Ct rfl (op_box 4 rfl rfl (vt rfl)) ?_
  rintro _ ⟨g4, rfl⟩
  refine Ab rfl <| Nl <| AW.seq <| AW.seq ?_
  obtain ⟨x5, hx5, h⟩ := bsome h
  refine Rg <| FdA lFlat_0 fl73_0 rfl <| Ld ty32 4 rfl <| Ac (op_call (xs := [.tmp 16, .const (Value.int IntKind.i64 8)]) (c_pl_Rules _ _ _ hx5) e39 rfl rfl ⟨vt rfl, vk rfl, trivial⟩) rfl <| Ac (op_not rfl rfl (vt rfl)) rfl <| Md rfl <| Gd rfl (fun hq => op_move (A := rd (kint .i64) most3) rfl rfl (vt rfl)) <| Gd rfl (fun hq => op_gtr rfl rfl (vgt rfl hq) (vk rfl)) <| Ac (op_any rfl rfl (vt rfl) (vt rfl)) rfl <| Nl <| Cn rfl (fun hc => ?_) (fun hc => ?_)
  · have h := cond_t hc h
    refine AW.seq ?_
    obtain ⟨x6, hx6, h⟩ := bsome h
    refine Rg <| Cl [] (c_l36_awake _ hx6) e41 rfl <| As rfl <| Nl <| AW.ret ?_
    obtain rfl := si h
    exact ret1 Tryz.results9 rfl (out_tmp rfl)
  · have h := cond_f hc h
    refine AW.skip <| AW.seq ?_
    obtain ⟨x7, hx7, h⟩ := bsome h
    refine Rg <| Ld ty73 4 rfl <| Md rfl <| Md rfl <| Cl [25, 26, 27] (c_find_Witness _ _ _ _ hx7) e46 rfl <| Ac (op_move (A := tup3 (rd (karr 24 kWide) x7.1) (rd kbool x7.2.1) (rd (kint .i64) x7.2.2)) rfl rfl (vt rfl)) rfl <| Ac (op_ext3_0 rfl rfl (vt rfl)) rfl <| Ac (op_ext3_1 rfl rfl (vt rfl)) rfl <| Ac (op_ext3_2 rfl rfl (vt rfl)) rfl <| Ct rfl (op_alloc 8 rfl rfl zr44) ?_
    rintro _ ⟨g8, rfl⟩
    refine Sto ty44 8 rfl <| As rfl <| As rfl <| Nl <| AW.seq ?_
    obtain ⟨x9, hx9, h⟩ := bsome h
    refine Rg <| Ld ty73 4 rfl <| Md rfl <| Md rfl <| Cl [33, 34, 35] (c_r36_Witness _ _ _ _ hx9) e47 rfl <| Ac (op_move (A := tup3 (rd (karr 24 kWide) x9.1) (rd kbool x9.2.1) (rd (kint .i64) x9.2.2)) rfl rfl (vt rfl)) rfl <| Ac (op_ext3_0 rfl rfl (vt rfl)) rfl <| Ac (op_ext3_1 rfl rfl (vt rfl)) rfl <| Ac (op_ext3_2 rfl rfl (vt rfl)) rfl <| Ct rfl (op_alloc 11 rfl rfl zr44) ?_
    rintro _ ⟨g10, rfl⟩
    refine Sto ty44 11 rfl <| As rfl <| As rfl <| Nl <| AW.seq <| SR <| Ld ty44 8 rfl <| Ld ty44 11 rfl <| Ac (op_neqk rfl rfl eqk44 (by decide) rfl eg44 (vt rfl) (vt rfl)) rfl <| Md rfl <| Gd rfl (fun hq => op_move (A := rd kbool x7.2.1) rfl rfl (vt rfl)) <| Gd rfl (fun hq => op_move (A := rd kbool x9.2.1) rfl rfl (vt rfl)) <| Gd rfl (fun hq => op_neqb rfl rfl un4 (vgt rfl hq) (vgt rfl hq)) <| Ac (op_any rfl rfl (vt rfl) (vt rfl)) rfl <| Md rfl <| Gd rfl (fun hq => op_move (A := rd (kint .i64) x7.2.2) rfl rfl (vt rfl)) <| Gd rfl (fun hq => op_move (A := rd (kint .i64) x9.2.2) rfl rfl (vt rfl)) <| Gd rfl (fun hq => op_neq rfl rfl (vgt rfl hq) (vgt rfl hq)) <| Ac (op_any rfl rfl (vt rfl) (vt rfl)) rfl <| Nl <| Cn rfl (fun hc => ?_) (fun hc => ?_)
    · have h := cond_t hc h
      refine SR <| Ab rfl <| Nl <| AW.ret ?_
      obtain rfl := si h
      exact ret1 Tryz.results9 rfl (out_tmp rfl)
    · have h := cond_f hc h
      refine AW.skip <| AW.seq ?_
      obtain ⟨x11, hx11, h⟩ := bsome h
      refine Rg <| Ld ty73 4 rfl <| Ld ty44 8 rfl <| Cl [54, 55] (c_find_Find _ _ _ hx11) e42 rfl <| Mt2 rfl <| Ac (op_fst rfl rfl (vt rfl)) rfl <| Ac (op_snd rfl rfl (vt rfl)) rfl <| As rfl <| As rfl <| Nl <| AW.seq ?_
      obtain ⟨x12, hx12, h⟩ := bsome h
      refine Rg <| Md rfl <| Ac (op_not rfl rfl (vt rfl)) rfl <| Md rfl <| Gd rfl (fun hq => op_move (A := rd kbool x11.2) rfl rfl (vt rfl)) <| AOps.consG (OpG.guardX rfl rfl rfl rfl rfl fun hq => op_move (A := rd kbool x11.2) rfl rfl (vgt rfl hq)) <| AOps.consG (OpG.guardN rfl rfl rfl rfl rfl fun hq => op_move (A := rd (kint .i64) x11.1) rfl rfl (vt rfl)) <| AOps.consG (OpG.guardN rfl rfl rfl rfl rfl fun hq => op_move (A := rd (kint .i64) i2) rfl rfl (vt rfl)) <| AOps.consG (OpG.guardN rfl rfl rfl rfl rfl fun hq => op_eql rfl rfl (vgt rfl hq) (vgt rfl hq)) <| Gd rfl (fun hq => op_all rfl rfl (vgx rfl hq) (vgw rfl hq)) <| Ac (op_any rfl rfl (vt rfl) (vt rfl)) rfl <| Md rfl <| Gd rfl (fun hq => op_call (xs := []) (c_l36_awake _ (opt_t hx12 hq)) e41 rfl rfl trivial) <| Ac (op_all rfl rfl (vt rfl) (vt rfl)) rfl <| As rfl <| Nl <| AW.ret ?_
      obtain rfl := si h
      exact ret1 Tryz.results9 rfl (out_tmp rfl)
end Go.Proofs.YtknpgojdkobgjaaGreat.W
