/- GzF13: a part of the proof. -/
import Derived.Test.YtokmmcflinnfiaaGreatGzF12
set_option linter.unusedVariables false
set_option maxRecDepth 4000
set_option linter.unusedSimpArgs false
namespace Go.Proofs.YtokmmcflinnfiaaGreat.W
open Go Go.Wb
-- weirbox/weirboxlaw38.awake
def F15 : Option Bool :=
  (F17 [(⟨1, 1, [(⟨0, 0, 0, [(⟨0, 4, 0, 0, 0, zOxm⟩ : Action)]⟩ : Bucket), (⟨0, 0, 0, [(⟨0, 5, 0, 0, 0, zOxm⟩ : Action)]⟩ : Bucket)]⟩ : Group)] (⟨1, []⟩ : Env) [(⟨(Vector.replicate 24 zTern), true, 1, 0⟩ : Atom), (⟨(Vector.replicate 24 zTern), false, 6, 0⟩ : Atom)]).bind fun x1 => (opt (decide ((x1.length : Int) = 2)) (lget x1 0)).bind fun e2 => (opt ((decide ((x1.length : Int) = 2)) && (decide (e2.Port = 5))) (lget x1 0)).bind fun e3 => (opt (((decide ((x1.length : Int) = 2)) && (decide (e2.Port = 5))) && (!e3.Group)) (lget x1 1)).bind fun e4 => (opt ((((decide ((x1.length : Int) = 2)) && (decide (e2.Port = 5))) && (!e3.Group)) && (decide (e4.Port = 6))) (F34)).bind fun x5 => (opt ((((decide ((x1.length : Int) = 2)) && (decide (e2.Port = 5))) && (!e3.Group)) && (decide (e4.Port = 6))) (F20 [(⟨1, 1, [(⟨0, 0, 0, [(⟨0, 4, 0, 0, 0, zOxm⟩ : Action)]⟩ : Bucket), (⟨0, 0, 0, [(⟨0, 5, 0, 0, 0, zOxm⟩ : Action)]⟩ : Bucket)]⟩ : Group)] (⟨0, []⟩ : Env) 1 x5)).bind fun x6 => some (((((decide ((x1.length : Int) = 2)) && (decide (e2.Port = 5))) && (!e3.Group)) && (decide (e4.Port = 6))) && (decide ((x6.length : Int) = 1)))
theorem c15 (r : Bool) (h : F15 = some r) : PCon Tryz.prog 15 [] (rd kbool r) := by
  refine PCon.of (Con.intro0 Tryz.func15 rfl Tryz.ntmps15 rfl fun w H => ?_)
  unfold F15 at h
  refine AW.seq ?_
  refine AW.region ?_
  refine AOps.cons (op_assign (A := rd kbool false) rfl rfl vb) rfl ?_
  refine AOps.nil ?_
  refine AW.seq ?_
  refine AW.region ?_
  refine AOps.cons (op_build (ps := [(0, .const (Value.int IntKind.i64 0)), (1, .const (Value.int IntKind.i64 4))]) (x := (⟨0, 4, 0, 0, 0, zOxm⟩ : Action)) rfl rfl rfl (by kernel_rfl) zr62 ⟨_, _, lAction_0, _, by kernel_rfl, (vk rfl), _, _, lAction_1, _, by kernel_rfl, (vk rfl), rfl⟩) rfl ?_
  refine AOps.cons (op_buildSliceR (ps := [(0, .tmp 3)]) (l := [(⟨0, 4, 0, 0, 0, zOxm⟩ : Action)]) rfl rfl sl26 zr62 rfl rfl ⟨_, _, Lens.idx 1 kAction 0 (by decide), _, rfl, (vt rfl), rfl⟩ rfl) rfl ?_
  refine AOps.cons (op_build (ps := [(3, .tmp 4)]) (x := (⟨0, 0, 0, [(⟨0, 4, 0, 0, 0, zOxm⟩ : Action)]⟩ : Bucket)) rfl rfl rfl (by kernel_rfl) zr64 ⟨_, _, lBucket_3, _, by kernel_rfl, (vt rfl), rfl⟩) rfl ?_
  refine AOps.cons (op_build (ps := [(0, .const (Value.int IntKind.i64 0)), (1, .const (Value.int IntKind.i64 5))]) (x := (⟨0, 5, 0, 0, 0, zOxm⟩ : Action)) rfl rfl rfl (by kernel_rfl) zr62 ⟨_, _, lAction_0, _, by kernel_rfl, (vk rfl), _, _, lAction_1, _, by kernel_rfl, (vk rfl), rfl⟩) rfl ?_
  refine AOps.cons (op_buildSliceR (ps := [(0, .tmp 6)]) (l := [(⟨0, 5, 0, 0, 0, zOxm⟩ : Action)]) rfl rfl sl26 zr62 rfl rfl ⟨_, _, Lens.idx 1 kAction 0 (by decide), _, rfl, (vt rfl), rfl⟩ rfl) rfl ?_
  refine AOps.cons (op_build (ps := [(3, .tmp 7)]) (x := (⟨0, 0, 0, [(⟨0, 5, 0, 0, 0, zOxm⟩ : Action)]⟩ : Bucket)) rfl rfl rfl (by kernel_rfl) zr64 ⟨_, _, lBucket_3, _, by kernel_rfl, (vt rfl), rfl⟩) rfl ?_
  refine AOps.cons (op_buildSliceR (ps := [(0, .tmp 5), (1, .tmp 8)]) (l := [(⟨0, 0, 0, [(⟨0, 4, 0, 0, 0, zOxm⟩ : Action)]⟩ : Bucket), (⟨0, 0, 0, [(⟨0, 5, 0, 0, 0, zOxm⟩ : Action)]⟩ : Bucket)]) rfl rfl sl65 zr64 rfl rfl ⟨_, _, Lens.idx 2 kBucket 0 (by decide), _, rfl, (vt rfl), _, _, Lens.idx 2 kBucket 1 (by decide), _, rfl, (vt rfl), rfl⟩ rfl) rfl ?_
  refine AOps.cons (op_build (ps := [(0, .const (Value.int IntKind.i64 1)), (1, .const (Value.int IntKind.i64 1)), (2, .tmp 9)]) (x := (⟨1, 1, [(⟨0, 0, 0, [(⟨0, 4, 0, 0, 0, zOxm⟩ : Action)]⟩ : Bucket), (⟨0, 0, 0, [(⟨0, 5, 0, 0, 0, zOxm⟩ : Action)]⟩ : Bucket)]⟩ : Group)) rfl rfl rfl (by kernel_rfl) zr67 ⟨_, _, lGroup_0, _, by kernel_rfl, (vk rfl), _, _, lGroup_1, _, by kernel_rfl, (vk rfl), _, _, lGroup_2, _, by kernel_rfl, (vt rfl), rfl⟩) rfl ?_
  refine AOps.cons (op_buildSliceR (ps := [(0, .tmp 10)]) (l := [(⟨1, 1, [(⟨0, 0, 0, [(⟨0, 4, 0, 0, 0, zOxm⟩ : Action)]⟩ : Bucket), (⟨0, 0, 0, [(⟨0, 5, 0, 0, 0, zOxm⟩ : Action)]⟩ : Bucket)]⟩ : Group)]) rfl rfl sl22 zr67 rfl rfl ⟨_, _, Lens.idx 1 kGroup 0 (by decide), _, rfl, (vt rfl), rfl⟩ rfl) rfl ?_
  refine AOps.cons (op_assign (A := rd (ksl kGroup) [(⟨1, 1, [(⟨0, 0, 0, [(⟨0, 4, 0, 0, 0, zOxm⟩ : Action)]⟩ : Bucket), (⟨0, 0, 0, [(⟨0, 5, 0, 0, 0, zOxm⟩ : Action)]⟩ : Bucket)]⟩ : Group)]) rfl rfl (vt rfl)) rfl ?_
  refine AOps.nil ?_
  refine AW.seq ?_
  obtain ⟨x1, hx1, h⟩ := bsome h
  refine AW.region ?_
  refine AOps.cons (op_move (A := rd (ksl kGroup) [(⟨1, 1, [(⟨0, 0, 0, [(⟨0, 4, 0, 0, 0, zOxm⟩ : Action)]⟩ : Bucket), (⟨0, 0, 0, [(⟨0, 5, 0, 0, 0, zOxm⟩ : Action)]⟩ : Bucket)]⟩ : Group)]) rfl rfl (vt rfl)) rfl ?_
  refine AOps.cons (op_build (ps := [(0, .const (Value.int IntKind.i64 1))]) (x := (⟨1, []⟩ : Env)) rfl rfl rfl (by kernel_rfl) zr25 ⟨_, _, lEnv_0, _, by kernel_rfl, (vk rfl), rfl⟩) rfl ?_
  refine AOps.cons (op_build (ps := [(1, .const (Value.bool true)), (2, .const (Value.int IntKind.i64 1))]) (x := (⟨(Vector.replicate 24 zTern), true, 1, 0⟩ : Atom)) rfl rfl rfl (by kernel_rfl) zr48 ⟨_, _, lAtom_1, _, by kernel_rfl, vb, _, _, lAtom_2, _, by kernel_rfl, (vk rfl), rfl⟩) rfl ?_
  refine AOps.cons (op_build (ps := [(2, .const (Value.int IntKind.i64 6))]) (x := (⟨(Vector.replicate 24 zTern), false, 6, 0⟩ : Atom)) rfl rfl rfl (by kernel_rfl) zr48 ⟨_, _, lAtom_2, _, by kernel_rfl, (vk rfl), rfl⟩) rfl ?_
  refine AOps.cons (op_buildSliceR (ps := [(0, .tmp 14), (1, .tmp 15)]) (l := [(⟨(Vector.replicate 24 zTern), true, 1, 0⟩ : Atom), (⟨(Vector.replicate 24 zTern), false, 6, 0⟩ : Atom)]) rfl rfl sl40 zr48 rfl rfl ⟨_, _, Lens.idx 2 kAtom 0 (by decide), _, rfl, (vt rfl), _, _, Lens.idx 2 kAtom 1 (by decide), _, rfl, (vt rfl), rfl⟩ rfl) rfl ?_
  refine AOps.cons (op_call (xs := [.tmp 12, .tmp 13, .tmp 16]) (c17 _ _ _ _ hx1) (Ent.mk Tryz.func17 rfl rfl) rfl rfl ⟨vt rfl, vt rfl, vt rfl, trivial⟩) rfl ?_
  refine AOps.cons (op_assign (A := rd (ksl kAtom) x1) rfl rfl (vt rfl)) rfl ?_
  refine AOps.nil ?_
  refine AW.seq ?_
  obtain ⟨e2, he2, h⟩ := bsome h
  obtain ⟨e3, he3, h⟩ := bsome h
  obtain ⟨e4, he4, h⟩ := bsome h
  obtain ⟨x5, hx5, h⟩ := bsome h
  obtain ⟨x6, hx6, h⟩ := bsome h
  refine AW.region ?_
  refine AOps.cons (op_move (A := rd (ksl kAtom) x1) rfl rfl (vt rfl)) rfl ?_
  refine AOps.cons (op_len' rfl rfl sl40 (vt rfl)) rfl ?_
  refine AOps.cons (op_eql rfl rfl (vt rfl) (vk rfl)) rfl ?_
  refine AOps.cons (op_move (A := rd kbool (decide ((x1.length : Int) = 2))) rfl rfl (vt rfl)) rfl ?_
  refine AOps.consG (OpG.guard rfl rfl rfl rfl rfl fun hq => op_move (A := rd (ksl kAtom) x1) rfl rfl (vt rfl)) ?_
  refine AOps.consG (OpG.guard rfl rfl rfl rfl rfl fun hq => op_indexs' rfl rfl sl40 (vgt rfl hq) (vk rfl) (opt_t he2 hq)) ?_
  refine AOps.consG (OpG.guard rfl rfl rfl rfl rfl fun hq => op_fieldp lAtom_2 rfl rfl fl48_2 (vgt rfl hq)) ?_
  refine AOps.consG (OpG.guard rfl rfl rfl rfl rfl fun hq => op_loadp rfl rfl ty3 (vgt rfl hq)) ?_
  refine AOps.consG (OpG.guard rfl rfl rfl rfl rfl fun hq => op_eql rfl rfl (vgt rfl hq) (vk rfl)) ?_
  refine AOps.cons (op_all rfl rfl (vt rfl) (vt rfl)) rfl ?_
  refine AOps.cons (op_move (A := rd kbool ((decide ((x1.length : Int) = 2)) && (decide (e2.Port = 5)))) rfl rfl (vt rfl)) rfl ?_
  refine AOps.consG (OpG.guard rfl rfl rfl rfl rfl fun hq => op_move (A := rd (ksl kAtom) x1) rfl rfl (vt rfl)) ?_
  refine AOps.consG (OpG.guard rfl rfl rfl rfl rfl fun hq => op_indexs' rfl rfl sl40 (vgt rfl hq) (vk rfl) (opt_t he3 hq)) ?_
  refine AOps.consG (OpG.guard rfl rfl rfl rfl rfl fun hq => op_fieldp lAtom_1 rfl rfl fl48_1 (vgt rfl hq)) ?_
  refine AOps.consG (OpG.guard rfl rfl rfl rfl rfl fun hq => op_loadp rfl rfl ty4 (vgt rfl hq)) ?_
  refine AOps.consG (OpG.guard rfl rfl rfl rfl rfl fun hq => op_not rfl rfl (vgt rfl hq)) ?_
  refine AOps.cons (op_all rfl rfl (vt rfl) (vt rfl)) rfl ?_
  refine AOps.cons (op_move (A := rd kbool (((decide ((x1.length : Int) = 2)) && (decide (e2.Port = 5))) && (!e3.Group))) rfl rfl (vt rfl)) rfl ?_
  refine AOps.consG (OpG.guard rfl rfl rfl rfl rfl fun hq => op_move (A := rd (ksl kAtom) x1) rfl rfl (vt rfl)) ?_
  refine AOps.consG (OpG.guard rfl rfl rfl rfl rfl fun hq => op_indexs' rfl rfl sl40 (vgt rfl hq) (vk rfl) (opt_t he4 hq)) ?_
  refine AOps.consG (OpG.guard rfl rfl rfl rfl rfl fun hq => op_fieldp lAtom_2 rfl rfl fl48_2 (vgt rfl hq)) ?_
  refine AOps.consG (OpG.guard rfl rfl rfl rfl rfl fun hq => op_loadp rfl rfl ty3 (vgt rfl hq)) ?_
  refine AOps.consG (OpG.guard rfl rfl rfl rfl rfl fun hq => op_eql rfl rfl (vgt rfl hq) (vk rfl)) ?_
  refine AOps.cons (op_all rfl rfl (vt rfl) (vt rfl)) rfl ?_
  refine AOps.cons (op_move (A := rd kbool ((((decide ((x1.length : Int) = 2)) && (decide (e2.Port = 5))) && (!e3.Group)) && (decide (e4.Port = 6)))) rfl rfl (vt rfl)) rfl ?_
  refine AOps.consG (OpG.guard rfl rfl rfl rfl rfl fun hq => op_move (A := rd (ksl kGroup) [(⟨1, 1, [(⟨0, 0, 0, [(⟨0, 4, 0, 0, 0, zOxm⟩ : Action)]⟩ : Bucket), (⟨0, 0, 0, [(⟨0, 5, 0, 0, 0, zOxm⟩ : Action)]⟩ : Bucket)]⟩ : Group)]) rfl rfl (vt rfl)) ?_
  refine AOps.consG (OpG.guard rfl rfl rfl rfl rfl fun hq => op_build (ps := []) (x := (⟨0, []⟩ : Env)) rfl rfl rfl (by kernel_rfl) zr25 rfl) ?_
  refine AOps.consG (OpG.guard rfl rfl rfl rfl rfl fun hq => op_call (xs := []) (c34 _ (opt_t hx5 hq)) (Ent.mk Tryz.func34 rfl rfl) rfl rfl trivial) ?_
  refine AOps.consG (OpG.guard rfl rfl rfl rfl rfl fun hq => op_call (xs := [.tmp 43, .tmp 44, .const (Value.int IntKind.i64 1), .tmp 45]) (c20 _ _ _ _ _ (opt_t hx6 hq)) (Ent.mk Tryz.func20 rfl rfl) rfl rfl ⟨vgt rfl hq, vgt rfl hq, vk rfl, vgt rfl hq, trivial⟩) ?_
  refine AOps.consG (OpG.guard rfl rfl rfl rfl rfl fun hq => op_len' rfl rfl sl40 (vgt rfl hq)) ?_
  refine AOps.consG (OpG.guard rfl rfl rfl rfl rfl fun hq => op_eql rfl rfl (vgt rfl hq) (vk rfl)) ?_
  refine AOps.cons (op_all rfl rfl (vt rfl) (vt rfl)) rfl ?_
  refine AOps.cons (op_assign (A := rd kbool (((((decide ((x1.length : Int) = 2)) && (decide (e2.Port = 5))) && (!e3.Group)) && (decide (e4.Port = 6))) && (decide ((x6.length : Int) = 1)))) rfl rfl (vt rfl)) rfl ?_
  refine AOps.nil ?_
  refine AW.ret ?_
  obtain rfl := Option.some.inj h
  exact ret1 Tryz.results15 rfl (out_tmp rfl)
-- weirbox/weirboxref32.Do
def F63_j2 (l12 : (List Atom)) (go1 : (Vector Tern 24) → (List Atom) → Int → Option ((List Atom) × (Vector Tern 24))) (b11 : (Vector Tern 24)) (i14 : Int) (b19 : Atom) : Option ((List Atom) × (Vector Tern 24)) :=
  (appd l12 [b19]).bind fun l20 => go1 b11 l20 (IntKind.i64.wrap (i14 + 1))
def F63_l1 (acts1 : (List Action)) : Nat → (Vector Tern 24) → (List Atom) → Int → Option ((List Atom) × (Vector Tern 24))
  | 0, _, _, _ => none
  | m15 + 1, b11, l12, i14 => (bif (decide (i14 < (acts1.length : Int))) then (lget acts1 i14).bind fun e16 => (bif (decide (e16.Kind = 0)) then (lget acts1 i14).bind fun e17 => (bif (decide (((⟨b11, false, e17.Port, 0⟩ : Atom).Port) = 4294967293)) then (lget acts1 i14).bind fun e22 => F63_j2 l12 (F63_l1 acts1 m15) b11 i14 { (⟨b11, false, e17.Port, 0⟩ : Atom) with Max := e22.Max } else F63_j2 l12 (F63_l1 acts1 m15) b11 i14 (⟨b11, false, e17.Port, 0⟩ : Atom)) else (bif (decide (e16.Kind = 22)) then (lget acts1 i14).bind fun e23 => (appd l12 [(⟨b11, true, e23.Group, 0⟩ : Atom)]).bind fun l24 => (F63_l1 acts1 m15) b11 l24 (IntKind.i64.wrap (i14 + 1)) else (lget acts1 i14).bind fun e26 => (F52 e26).bind fun x27 => (F111 b11 x27).bind fun x28 => (F63_l1 acts1 m15) x28 l12 (IntKind.i64.wrap (i14 + 1)))) else some (l12, b11))
def F63 (acts1 : (List Action)) (r2 : (Vector Tern 24)) : Option ((List Atom) × (Vector Tern 24)) :=
  (F37 r2).bind fun x5 => F63_l1 acts1 ((((acts1.length : Int) : Int) - 0).toNat + 1) x5 [] 0
theorem c63 (acts1 : (List Action)) (r2 : (Vector Tern 24)) (r : ((List Atom) × (Vector Tern 24))) (h : F63 acts1 r2 = some r) : PCon Tryz.prog 63 [rd (ksl kAction) acts1, rd (karr 24 kTern) r2] (tup2 (rd (ksl kAtom) r.1) (rd (karr 24 kTern) r.2)) := by
  refine PCon.of (Con.intro0 Tryz.func63 rfl Tryz.ntmps63 rfl fun w H => ?_)
  unfold F63 at h
  refine AW.seq ?_
  refine AW.region ?_
  refine AOps.consT rfl (op_box 4 rfl rfl (vt rfl)) ?_
  rintro _ ⟨g3, rfl⟩
  refine AOps.cons (op_assign (A := rd (ksl kAtom) []) rfl rfl vnil) rfl ?_
  refine AOps.consT rfl (op_alloc 6 rfl rfl zr44) ?_
  rintro _ ⟨g4, rfl⟩
  refine AOps.nil ?_
  refine AW.seq ?_
  obtain ⟨x5, hx5, h⟩ := bsome h
  refine AW.region ?_
  refine AOps.cons (op_load rfl rfl ty44 (vt rfl) (i := 4) rfl) rfl ?_
  refine AOps.cons (op_call (xs := [.tmp 9]) (c37 _ _ hx5) (Ent.mk Tryz.func37 rfl rfl) rfl rfl ⟨vt rfl, trivial⟩) rfl ?_
  refine AOps.cons (op_store rfl rfl ty44 (vt rfl) (i := 4) rfl (vt rfl)) rfl ?_
  refine AOps.nil ?_
  refine AW.seq ?_
  refine AW.region ?_
  refine AOps.consT rfl (op_buildSlice 1001 (ps := []) (l := []) rfl rfl sl40 zr48 rfl rfl rfl rfl) ?_
  rintro _ ⟨v6, rfl⟩
  refine AOps.cons (op_assign (A := raw v6) rfl rfl (vt rfl)) rfl ?_
  refine AOps.nil ?_
  refine AW.seq ?_
  refine AW.seq ?_
  refine AW.region ?_
  refine AOps.cons (op_assign (A := rd (kint .i64) 0) rfl rfl (vk rfl)) rfl ?_
  refine AOps.nil ?_
  refine AW.block ?_
  refine AW.loopG (d := []) (ν := Nat × (Vector Tern 24) × (List Atom) × Int × Value) (fun n => True ∧ F63_l1 acts1 n.1 n.2.1 n.2.2.1 n.2.2.2.1 = some r) (fun n => n.1) (fun n => [(0, rd (ksl kAction) acts1), (3, ptrL g3 (Lens.id (karr 24 kTern))), (5, ptrL g4 (Lens.id (karr 24 kTern))), (6, raw n.2.2.2.2), (7, rd (kint .i64) n.2.2.2.1)]) (fun n => [(4, Blk g3 44 (karr 24 kTern) n.2.1), (6, Blk g4 44 (karr 24 kTern) (Vector.replicate 24 zTern)), (1001, Row n.2.2.2.2 48 kAtom n.2.2.1)]) (((((acts1.length : Int) : Int) - 0).toNat + 1), x5, [], 0, v6) ⟨trivial, h⟩ ⟨rfl, ⟨rfl, rfl, rfl, rfl, rfl, trivial⟩, ⟨rfl, rfl, rfl, trivial⟩⟩ ?_
  rintro ⟨m15, b11, l12, i14, v13⟩ ⟨hsf1, h⟩
  change True at hsf1
  change F63_l1 acts1 m15 b11 l12 i14 = some r at h
  change AW _ _ _ ⟨slots [(0, rd (ksl kAction) acts1), (3, ptrL g3 (Lens.id (karr 24 kTern))), (5, ptrL g4 (Lens.id (karr 24 kTern))), (6, raw v13), (7, rd (kint .i64) i14)], ress [(4, Blk g3 44 (karr 24 kTern) b11), (6, Blk g4 44 (karr 24 kTern) (Vector.replicate 24 zTern)), (1001, Row v13 48 kAtom l12)], _⟩
  cases m15 with
  | zero => cases h
  | succ m15 =>
    unfold F63_l1 at h
    generalize hgo1 : F63_l1 acts1 m15 = go1 at h
    refine AW.seq ?_
    refine AW.seq ?_
    refine AW.region ?_
    refine AOps.cons (op_move (A := rd (kint .i64) i14) rfl rfl (vt rfl)) rfl ?_
    refine AOps.cons (op_move (A := rd (ksl kAction) acts1) rfl rfl (vt rfl)) rfl ?_
    refine AOps.cons (op_len' rfl rfl sl26 (vt rfl)) rfl ?_
    refine AOps.cons (op_lss rfl rfl (vt rfl) (vt rfl)) rfl ?_
    refine AOps.nil ?_
    refine AW.cond (vt rfl) (fun hc => ?_) (fun hc => ?_)
    · have h := cond_t hc h
      refine AW.skip ?_
      refine AW.seq ?_
      refine AW.block ?_
      refine AW.seq ?_
      obtain ⟨e16, he16, h⟩ := bsome h
      refine AW.region ?_
      refine AOps.cons (op_move (A := rd (ksl kAction) acts1) rfl rfl (vt rfl)) rfl ?_
      refine AOps.cons (op_move (A := rd (kint .i64) i14) rfl rfl (vt rfl)) rfl ?_
      refine AOps.cons (op_indexs' rfl rfl sl26 (vt rfl) (vt rfl) he16) rfl ?_
      refine AOps.cons (op_fieldp lAction_0 rfl rfl fl62_0 (vt rfl)) rfl ?_
      refine AOps.cons (op_loadp rfl rfl ty3 (vt rfl)) rfl ?_
      refine AOps.nil ?_
      refine AW.block ?_
      refine AW.seq ?_
      refine AW.region ?_
      refine AOps.cons (op_eql rfl rfl (vt rfl) (vk rfl)) rfl ?_
      refine AOps.cons (op_assign (A := rd kbool (decide (e16.Kind = 0))) rfl rfl (vt rfl)) rfl ?_
      refine AOps.nil ?_
      refine AW.cond (vt rfl) (fun hc => ?_) (fun hc => ?_)
      · have h := cond_t hc h
        refine AW.seq ?_
        obtain ⟨e17, he17, h⟩ := bsome h
        refine AW.regionAny [⟨[3], [32], [4], []⟩, ⟨[0], [33], [], []⟩, ⟨[7], [34], [], []⟩, ⟨[33, 34], [35], [], []⟩, ⟨[35], [36], [], []⟩, ⟨[36], [37], [], []⟩, ⟨[32, 37], [38], [], []⟩, ⟨[], [8], [], []⟩, ⟨[8, 38], [8], [], []⟩] mixed (by kernel_rfl) ?_
        refine SeqA.cons (loc [3] [4] rfl rfl fun S hs hr => op_load rfl rfl ty44 (vt ((hs 3 rfl).trans rfl)) (i := 4) ((hr 4 rfl).trans rfl)) ⟨rfl, rfl, rfl, rfl⟩ ?_
        refine SeqA.cons (loc [0] [] rfl rfl fun S hs hr => op_move (A := rd (ksl kAction) acts1) rfl rfl (vt ((hs 0 rfl).trans rfl))) ⟨rfl, rfl, rfl, rfl⟩ ?_
        refine SeqA.cons (loc [7] [] rfl rfl fun S hs hr => op_move (A := rd (kint .i64) i14) rfl rfl (vt ((hs 7 rfl).trans rfl))) ⟨rfl, rfl, rfl, rfl⟩ ?_
        refine SeqA.cons (loc [33, 34] [] rfl rfl fun S hs hr => op_indexs' rfl rfl sl26 (vt ((hs 33 rfl).trans rfl)) (vt ((hs 34 rfl).trans rfl)) he17) ⟨rfl, rfl, rfl, rfl⟩ ?_
        refine SeqA.cons (loc [35] [] rfl rfl fun S hs hr => op_fieldp lAction_1 rfl rfl fl62_1 (vt ((hs 35 rfl).trans rfl))) ⟨rfl, rfl, rfl, rfl⟩ ?_
        refine SeqA.cons (loc [36] [] rfl rfl fun S hs hr => op_loadp rfl rfl ty3 (vt ((hs 36 rfl).trans rfl))) ⟨rfl, rfl, rfl, rfl⟩ ?_
        refine SeqA.cons (loc [32, 37] [] rfl rfl fun S hs hr => op_build (ps := [(0, .tmp 32), (2, .tmp 37)]) (x := (⟨b11, false, e17.Port, 0⟩ : Atom)) rfl rfl rfl (by kernel_rfl) zr48 ⟨_, _, lAtom_0, _, by kernel_rfl, (vt ((hs 32 rfl).trans rfl)), _, _, lAtom_2, _, by kernel_rfl, (vt ((hs 37 rfl).trans rfl)), rfl⟩) ⟨rfl, rfl, rfl, rfl⟩ ?_
        refine SeqA.cons (locs (us := [(8, ownP 48 kAtom zAtom)]) (ur := []) [] [] rfl fun S hs hr => op_allocO rfl rfl rfl zr48) ⟨rfl, rfl, rfl, rfl⟩ ?_
        refine SeqA.cons (locs (us := [(8, ownP 48 kAtom (⟨b11, false, e17.Port, 0⟩ : Atom))]) (ur := []) [8, 38] [] rfl fun S hs hr => op_storeO rfl rfl ty48 ((hs 8 rfl).trans rfl) (vt ((hs 38 rfl).trans rfl))) ⟨rfl, rfl, rfl, rfl⟩ ?_
        refine AW.unpackP 8 9 rfl rfl fun g18 => ?_
        refine AW.join (d := []) (ν := Atom) (fun n => F63_j2 l12 go1 b11 i14 n = some r) (fun n => [(0, rd (ksl kAction) acts1), (3, ptrL g3 (Lens.id (karr 24 kTern))), (5, ptrL g4 (Lens.id (karr 24 kTern))), (6, raw v13), (7, rd (kint .i64) i14), (8, ptrL g18 (Lens.id kAtom))]) (fun n => [(4, Blk g3 44 (karr 24 kTern) b11), (6, Blk g4 44 (karr 24 kTern) (Vector.replicate 24 zTern)), (9, Blk g18 48 kAtom n), (1001, Row v13 48 kAtom l12)]) ?hx ?hy
        case hy =>
          intro b19 h
          unfold F63_j2 at h
          change AW _ _ _ ⟨slots [(0, rd (ksl kAction) acts1), (3, ptrL g3 (Lens.id (karr 24 kTern))), (5, ptrL g4 (Lens.id (karr 24 kTern))), (6, raw v13), (7, rd (kint .i64) i14), (8, ptrL g18 (Lens.id kAtom))], ress [(4, Blk g3 44 (karr 24 kTern) b11), (6, Blk g4 44 (karr 24 kTern) (Vector.replicate 24 zTern)), (9, Blk g18 48 kAtom b19), (1001, Row v13 48 kAtom l12)], _⟩
          obtain ⟨l20, hl20, h⟩ := bsome h
          refine AW.region ?_
          refine AOps.cons (op_move (A := raw v13) rfl rfl (vt rfl)) rfl ?_
          refine AOps.cons (op_load rfl rfl ty48 (vt rfl) (i := 9) rfl) rfl ?_
          refine AOps.cons (op_buildSliceR (ps := [(0, .tmp 49)]) (l := [b19]) rfl rfl sl40 zr48 rfl rfl ⟨_, _, Lens.idx 1 kAtom 0 (by decide), _, rfl, (vt rfl), rfl⟩ rfl) rfl ?_
          refine AOps.consT rfl (op_append' 1001 hl20 rfl rfl el40 (vt rfl) rfl (vt rfl)) ?_
          rintro _ ⟨v21, rfl⟩
          refine AOps.cons (op_assign (A := raw v21) rfl rfl (vt rfl)) rfl ?_
          refine AOps.nil ?_
          refine AW.region ?_
          refine AOps.cons (op_move (A := rd (kint .i64) i14) rfl rfl (vt rfl)) rfl ?_
          refine AOps.cons (op_add rfl rfl (vt rfl) (vk rfl)) rfl ?_
          refine AOps.cons (op_assign (A := rd (kint .i64) (IntKind.i64.wrap (i14 + 1))) rfl rfl (vt rfl)) rfl ?_
          refine AOps.nil ?_
          subst hgo1
          exact ⟨(m15, b11, l20, (IntKind.i64.wrap (i14 + 1)), v21), Nat.lt_succ_self _, ⟨trivial, h⟩, ⟨rfl, ⟨rfl, rfl, rfl, rfl, rfl, trivial⟩, ⟨rfl, rfl, rfl, trivial⟩⟩⟩
        case hx =>
          refine AW.seq ?_
          refine AW.region ?_
          refine AOps.cons (op_field lAtom_2 rfl rfl fl48_2 (vt rfl)) rfl ?_
          refine AOps.cons (op_load rfl rfl ty3 (vt rfl) (i := 9) rfl) rfl ?_
          refine AOps.cons (op_eql rfl rfl (vt rfl) (vk rfl)) rfl ?_
          refine AOps.nil ?_
          refine AW.cond (vt rfl) (fun hc => ?_) (fun hc => ?_)
          · have h := cond_t hc h
            obtain ⟨e22, he22, h⟩ := bsome h
            refine AW.region ?_
            refine AOps.cons (op_move (A := rd (ksl kAction) acts1) rfl rfl (vt rfl)) rfl ?_
            refine AOps.cons (op_move (A := rd (kint .i64) i14) rfl rfl (vt rfl)) rfl ?_
            refine AOps.cons (op_indexs' rfl rfl sl26 (vt rfl) (vt rfl) he22) rfl ?_
            refine AOps.cons (op_fieldp lAction_2 rfl rfl fl62_2 (vt rfl)) rfl ?_
            refine AOps.cons (op_loadp rfl rfl ty3 (vt rfl)) rfl ?_
            refine AOps.cons (op_field lAtom_3 rfl rfl fl48_3 (vt rfl)) rfl ?_
            refine AOps.cons (op_store rfl rfl ty3 (vt rfl) (i := 9) rfl (vt rfl)) rfl ?_
            refine AOps.nil ?_
            exact ⟨{ (⟨b11, false, e17.Port, 0⟩ : Atom) with Max := e22.Max }, h, ⟨rfl, ⟨rfl, rfl, rfl, rfl, rfl, rfl, trivial⟩, ⟨rfl, rfl, rfl, rfl, trivial⟩⟩⟩
          · have h := cond_f hc h
            refine AW.skip ?_
            exact ⟨(⟨b11, false, e17.Port, 0⟩ : Atom), h, ⟨rfl, ⟨rfl, rfl, rfl, rfl, rfl, rfl, trivial⟩, ⟨rfl, rfl, rfl, rfl, trivial⟩⟩⟩
      · have h := cond_f hc h
        refine AW.seq ?_
        refine AW.region ?_
        refine AOps.cons (op_eql rfl rfl (vt rfl) (vk rfl)) rfl ?_
        refine AOps.cons (op_assign (A := rd kbool (decide (e16.Kind = 22))) rfl rfl (vt rfl)) rfl ?_
        refine AOps.nil ?_
        refine AW.cond (vt rfl) (fun hc => ?_) (fun hc => ?_)
        · have h := cond_t hc h
          obtain ⟨e23, he23, h⟩ := bsome h
          obtain ⟨l24, hl24, h⟩ := bsome h
          refine AW.regionAny [⟨[6], [54], [], []⟩, ⟨[3], [55], [4], []⟩, ⟨[0], [56], [], []⟩, ⟨[7], [57], [], []⟩, ⟨[56, 57], [58], [], []⟩, ⟨[58], [59], [], []⟩, ⟨[59], [60], [], []⟩, ⟨[55, 60], [61], [], []⟩, ⟨[61], [62], [], []⟩, ⟨[54, 62], [63], [1001], [1001]⟩, ⟨[63], [63, 6], [1002], []⟩] mixed (by kernel_rfl) ?_
          refine SeqA.cons (loc [6] [] rfl rfl fun S hs hr => op_move (A := raw v13) rfl rfl (vt ((hs 6 rfl).trans rfl))) ⟨rfl, rfl, rfl, rfl⟩ ?_
          refine SeqA.cons (loc [3] [4] rfl rfl fun S hs hr => op_load rfl rfl ty44 (vt ((hs 3 rfl).trans rfl)) (i := 4) ((hr 4 rfl).trans rfl)) ⟨rfl, rfl, rfl, rfl⟩ ?_
          refine SeqA.cons (loc [0] [] rfl rfl fun S hs hr => op_move (A := rd (ksl kAction) acts1) rfl rfl (vt ((hs 0 rfl).trans rfl))) ⟨rfl, rfl, rfl, rfl⟩ ?_
          refine SeqA.cons (loc [7] [] rfl rfl fun S hs hr => op_move (A := rd (kint .i64) i14) rfl rfl (vt ((hs 7 rfl).trans rfl))) ⟨rfl, rfl, rfl, rfl⟩ ?_
          refine SeqA.cons (loc [56, 57] [] rfl rfl fun S hs hr => op_indexs' rfl rfl sl26 (vt ((hs 56 rfl).trans rfl)) (vt ((hs 57 rfl).trans rfl)) he23) ⟨rfl, rfl, rfl, rfl⟩ ?_
          refine SeqA.cons (loc [58] [] rfl rfl fun S hs hr => op_fieldp lAction_3 rfl rfl fl62_3 (vt ((hs 58 rfl).trans rfl))) ⟨rfl, rfl, rfl, rfl⟩ ?_
          refine SeqA.cons (loc [59] [] rfl rfl fun S hs hr => op_loadp rfl rfl ty3 (vt ((hs 59 rfl).trans rfl))) ⟨rfl, rfl, rfl, rfl⟩ ?_
          refine SeqA.cons (loc [55, 60] [] rfl rfl fun S hs hr => op_build (ps := [(0, .tmp 55), (1, .const (Value.bool true)), (2, .tmp 60)]) (x := (⟨b11, true, e23.Group, 0⟩ : Atom)) rfl rfl rfl (by kernel_rfl) zr48 ⟨_, _, lAtom_0, _, by kernel_rfl, (vt ((hs 55 rfl).trans rfl)), _, _, lAtom_1, _, by kernel_rfl, vb, _, _, lAtom_2, _, by kernel_rfl, (vt ((hs 60 rfl).trans rfl)), rfl⟩) ⟨rfl, rfl, rfl, rfl⟩ ?_
          refine SeqA.cons (loc [61] [] rfl rfl fun S hs hr => op_buildSliceR (ps := [(0, .tmp 61)]) (l := [(⟨b11, true, e23.Group, 0⟩ : Atom)]) rfl rfl sl40 zr48 rfl rfl ⟨_, _, Lens.idx 1 kAtom 0 (by decide), _, rfl, (vt ((hs 61 rfl).trans rfl)), rfl⟩ rfl) ⟨rfl, rfl, rfl, rfl⟩ ?_
          refine SeqA.cons (locs (us := [(63, ownR 48 kAtom l24)]) (ur := [(1001, emp)]) [54, 62] [1001] rfl fun S hs hr => op_appendO 1001 hl24 rfl rfl rfl el40 (vt ((hs 54 rfl).trans rfl)) ((hr 1001 rfl).trans rfl) (vt ((hs 62 rfl).trans rfl))) ⟨rfl, rfl, rfl, rfl⟩ ?_
          refine SeqA.cons (locs (us := [(63, top), (6, ownR 48 kAtom l24)]) (ur := []) [63] [1002] rfl fun S hs hr => op_assignO 1002 rfl rfl rfl rfl ((hs 63 rfl).trans rfl) ((hr 1002 rfl).trans rfl)) ⟨rfl, rfl, rfl, rfl⟩ ?_
          refine AW.unpackR 6 1001 rfl rfl fun v25 => ?_
          refine AW.region ?_
          refine AOps.cons (op_move (A := rd (kint .i64) i14) rfl rfl (vt rfl)) rfl ?_
          refine AOps.cons (op_add rfl rfl (vt rfl) (vk rfl)) rfl ?_
          refine AOps.cons (op_assign (A := rd (kint .i64) (IntKind.i64.wrap (i14 + 1))) rfl rfl (vt rfl)) rfl ?_
          refine AOps.nil ?_
          subst hgo1
          exact ⟨(m15, b11, l24, (IntKind.i64.wrap (i14 + 1)), v25), Nat.lt_succ_self _, ⟨trivial, h⟩, ⟨rfl, ⟨rfl, rfl, rfl, rfl, rfl, trivial⟩, ⟨rfl, rfl, rfl, trivial⟩⟩⟩
        · have h := cond_f hc h
          obtain ⟨e26, he26, h⟩ := bsome h
          obtain ⟨x27, hx27, h⟩ := bsome h
          obtain ⟨x28, hx28, h⟩ := bsome h
          refine AW.regionAny [⟨[3], [23], [4], []⟩, ⟨[0], [24], [], []⟩, ⟨[7], [25], [], []⟩, ⟨[24, 25], [26], [], []⟩, ⟨[26], [27], [], []⟩, ⟨[27], [28], [], []⟩, ⟨[23, 28], [29], [], []⟩, ⟨[3, 29], [], [4], [4]⟩] mixed (by kernel_rfl) ?_
          refine SeqA.cons (loc [3] [4] rfl rfl fun S hs hr => op_load rfl rfl ty44 (vt ((hs 3 rfl).trans rfl)) (i := 4) ((hr 4 rfl).trans rfl)) ⟨rfl, rfl, rfl, rfl⟩ ?_
          refine SeqA.cons (loc [0] [] rfl rfl fun S hs hr => op_move (A := rd (ksl kAction) acts1) rfl rfl (vt ((hs 0 rfl).trans rfl))) ⟨rfl, rfl, rfl, rfl⟩ ?_
          refine SeqA.cons (loc [7] [] rfl rfl fun S hs hr => op_move (A := rd (kint .i64) i14) rfl rfl (vt ((hs 7 rfl).trans rfl))) ⟨rfl, rfl, rfl, rfl⟩ ?_
          refine SeqA.cons (loc [24, 25] [] rfl rfl fun S hs hr => op_indexs' rfl rfl sl26 (vt ((hs 24 rfl).trans rfl)) (vt ((hs 25 rfl).trans rfl)) he26) ⟨rfl, rfl, rfl, rfl⟩ ?_
          refine SeqA.cons (loc [26] [] rfl rfl fun S hs hr => op_loadp rfl rfl ty62 (vt ((hs 26 rfl).trans rfl))) ⟨rfl, rfl, rfl, rfl⟩ ?_
          refine SeqA.cons (loc [27] [] rfl rfl fun S hs hr => op_call (xs := [.tmp 27]) (c52 _ _ hx27) (Ent.mk Tryz.func52 rfl rfl) rfl rfl ⟨vt ((hs 27 rfl).trans rfl), trivial⟩) ⟨rfl, rfl, rfl, rfl⟩ ?_
          refine SeqA.cons (loc [23, 28] [] rfl rfl fun S hs hr => op_call (xs := [.tmp 23, .tmp 28]) (c111 _ _ _ hx28) (Ent.mk Tryz.func111 rfl rfl) rfl rfl ⟨vt ((hs 23 rfl).trans rfl), vt ((hs 28 rfl).trans rfl), trivial⟩) ⟨rfl, rfl, rfl, rfl⟩ ?_
          refine SeqA.cons (locr [3, 29] [4] rfl fun S hs hr => op_store rfl rfl ty44 (vt ((hs 3 rfl).trans rfl)) (i := 4) ((hr 4 rfl).trans rfl) (vt ((hs 29 rfl).trans rfl))) ⟨rfl, rfl, rfl, rfl⟩ ?_
          refine AW.region ?_
          refine AOps.cons (op_move (A := rd (kint .i64) i14) rfl rfl (vt rfl)) rfl ?_
          refine AOps.cons (op_add rfl rfl (vt rfl) (vk rfl)) rfl ?_
          refine AOps.cons (op_assign (A := rd (kint .i64) (IntKind.i64.wrap (i14 + 1))) rfl rfl (vt rfl)) rfl ?_
          refine AOps.nil ?_
          subst hgo1
          exact ⟨(m15, x28, l12, (IntKind.i64.wrap (i14 + 1)), v13), Nat.lt_succ_self _, ⟨trivial, h⟩, ⟨rfl, ⟨rfl, rfl, rfl, rfl, rfl, trivial⟩, ⟨rfl, rfl, rfl, trivial⟩⟩⟩
    · have h := cond_f hc h
      refine AW.exit ?_
      refine AW.seq ?_
      refine AW.regionAny [⟨[6], [64], [], []⟩, ⟨[3], [65], [4], []⟩, ⟨[64], [4], [], []⟩, ⟨[5, 65], [], [6], [6]⟩] mixed (by kernel_rfl) ?_
      refine SeqA.cons (loc [6] [] rfl rfl fun S hs hr => op_move (A := raw v13) rfl rfl (vt ((hs 6 rfl).trans rfl))) ⟨rfl, rfl, rfl, rfl⟩ ?_
      refine SeqA.cons (loc [3] [4] rfl rfl fun S hs hr => op_load rfl rfl ty44 (vt ((hs 3 rfl).trans rfl)) (i := 4) ((hr 4 rfl).trans rfl)) ⟨rfl, rfl, rfl, rfl⟩ ?_
      refine SeqA.cons (loc [64] [] rfl rfl fun S hs hr => op_assign (A := raw v13) rfl rfl (vt ((hs 64 rfl).trans rfl))) ⟨rfl, rfl, rfl, rfl⟩ ?_
      refine SeqA.cons (locr [5, 65] [6] rfl fun S hs hr => op_store rfl rfl ty44 (vt ((hs 5 rfl).trans rfl)) (i := 6) ((hr 6 rfl).trans rfl) (vt ((hs 65 rfl).trans rfl))) ⟨rfl, rfl, rfl, rfl⟩ ?_
      refine AW.freezes [4, 6, 64] 1001 rfl ⟨rfl, rfl, rfl, trivial⟩ rfl ?_
      refine AW.ret ?_
      obtain rfl := Option.some.inj h
      exact ret2 Tryz.results63 rfl (out_tmp rfl) (out_cell rfl (i := 6) rfl ty44)
-- weirbox/weirboxref38.deep
def F36s_l1 (a3 : (List Atom)) (R39 : ((List Group) → Env → Int → (Vector Tern 24) → Int → Option (List Atom))) (l1 : (List Group)) (e2 : Env) (depth4 : Int) : Nat → (List Atom) → Int → Option (List Atom)
  | 0, _, _ => none
  | m13 + 1, l10, i12 => (bif (decide (i12 < (a3.length : Int))) then (lget a3 i12).bind fun e14 => (bif e14.Group then (lget a3 i12).bind fun e15 => (lget a3 i12).bind fun e16 => (R39 l1 e2 e15.Port e16.Rewrite (IntKind.i64.wrap (depth4 + 1))).bind fun x17 => (appd l10 x17).bind fun l18 => (F36s_l1 a3 R39 l1 e2 depth4 m13) l18 (IntKind.i64.wrap (i12 + 1)) else (lget a3 i12).bind fun e20 => (F37 e20.Rewrite).bind fun x22 => (appd l10 [{ e20 with Rewrite := x22 }]).bind fun l23 => (F36s_l1 a3 R39 l1 e2 depth4 m13) l23 (IntKind.i64.wrap (i12 + 1))) else some l10)
def F36s (R36 : ((List Group) → Env → (List Atom) → Int → Option (List Atom))) (R39 : ((List Group) → Env → Int → (Vector Tern 24) → Int → Option (List Atom))) (l1 : (List Group)) (e2 : Env) (a3 : (List Atom)) (depth4 : Int) : Option (List Atom) :=
  F36s_l1 a3 R39 l1 e2 depth4 ((((a3.length : Int) : Int) - 0).toNat + 1) [] 0
theorem c36s (R36 : ((List Group) → Env → (List Atom) → Int → Option (List Atom))) (hR36 : ∀ (l1 : (List Group)) (e2 : Env) (a3 : (List Atom)) (depth4 : Int) (r : (List Atom)), R36 l1 e2 a3 depth4 = some r → PCon Tryz.prog 36 [rd (ksl kGroup) l1, rd kEnv e2, rd (ksl kAtom) a3, rd (kint .i64) depth4] (rd (ksl kAtom) r)) (R39 : ((List Group) → Env → Int → (Vector Tern 24) → Int → Option (List Atom))) (hR39 : ∀ (l1 : (List Group)) (e2 : Env) (id3 : Int) (r4 : (Vector Tern 24)) (depth5 : Int) (r : (List Atom)), R39 l1 e2 id3 r4 depth5 = some r → PCon Tryz.prog 39 [rd (ksl kGroup) l1, rd kEnv e2, rd (kint .i64) id3, rd (karr 24 kTern) r4, rd (kint .i64) depth5] (rd (ksl kAtom) r)) (l1 : (List Group)) (e2 : Env) (a3 : (List Atom)) (depth4 : Int) (r : (List Atom)) (h : F36s R36 R39 l1 e2 a3 depth4 = some r) : PCon Tryz.prog 36 [rd (ksl kGroup) l1, rd kEnv e2, rd (ksl kAtom) a3, rd (kint .i64) depth4] (rd (ksl kAtom) r) := by
  refine PCon.of (Con.intro0 Tryz.func36 rfl Tryz.ntmps36 rfl fun w H => ?_)
  unfold F36s at h
  refine AW.seq ?_
  refine AW.region ?_
  refine AOps.consT rfl (op_box 6 rfl rfl (vt rfl)) ?_
  rintro _ ⟨g5, rfl⟩
  refine AOps.cons (op_assign (A := rd (ksl kAtom) []) rfl rfl vnil) rfl ?_
  refine AOps.nil ?_
  refine AW.seq ?_
  refine AW.region ?_
  refine AOps.consT rfl (op_buildSlice 1001 (ps := []) (l := []) rfl rfl sl40 zr48 rfl rfl rfl rfl) ?_
  rintro _ ⟨v6, rfl⟩
  refine AOps.cons (op_assign (A := raw v6) rfl rfl (vt rfl)) rfl ?_
  refine AOps.nil ?_
  refine AW.seq ?_
  refine AW.seq ?_
  refine AW.region ?_
  refine AOps.cons (op_assign (A := rd (kint .i64) 0) rfl rfl (vk rfl)) rfl ?_
  refine AOps.nil ?_
  refine AW.block ?_
  refine AW.loopG (d := []) (ν := Nat × (List Atom) × Int × Value) (fun n => True ∧ F36s_l1 a3 R39 l1 e2 depth4 n.1 n.2.1 n.2.2.1 = some r) (fun n => n.1) (fun n => [(0, rd (ksl kGroup) l1), (2, rd (ksl kAtom) a3), (3, rd (kint .i64) depth4), (5, ptrL g5 (Lens.id kEnv)), (9, raw n.2.2.2), (10, rd (kint .i64) n.2.2.1)]) (fun n => [(6, Blk g5 25 kEnv e2), (1001, Row n.2.2.2 48 kAtom n.2.1)]) (((((a3.length : Int) : Int) - 0).toNat + 1), [], 0, v6) ⟨trivial, h⟩ ⟨rfl, ⟨rfl, rfl, rfl, rfl, rfl, rfl, trivial⟩, ⟨rfl, rfl, trivial⟩⟩ ?_
  rintro ⟨m13, l10, i12, v11⟩ ⟨hsf1, h⟩
  change True at hsf1
  change F36s_l1 a3 R39 l1 e2 depth4 m13 l10 i12 = some r at h
  change AW _ _ _ ⟨slots [(0, rd (ksl kGroup) l1), (2, rd (ksl kAtom) a3), (3, rd (kint .i64) depth4), (5, ptrL g5 (Lens.id kEnv)), (9, raw v11), (10, rd (kint .i64) i12)], ress [(6, Blk g5 25 kEnv e2), (1001, Row v11 48 kAtom l10)], _⟩
  cases m13 with
  | zero => cases h
  | succ m13 =>
    unfold F36s_l1 at h
    generalize hgo1 : F36s_l1 a3 R39 l1 e2 depth4 m13 = go1 at h
    refine AW.seq ?_
    refine AW.seq ?_
    refine AW.region ?_
    refine AOps.cons (op_move (A := rd (kint .i64) i12) rfl rfl (vt rfl)) rfl ?_
    refine AOps.cons (op_move (A := rd (ksl kAtom) a3) rfl rfl (vt rfl)) rfl ?_
    refine AOps.cons (op_len' rfl rfl sl40 (vt rfl)) rfl ?_
    refine AOps.cons (op_lss rfl rfl (vt rfl) (vt rfl)) rfl ?_
    refine AOps.nil ?_
    refine AW.cond (vt rfl) (fun hc => ?_) (fun hc => ?_)
    · have h := cond_t hc h
      refine AW.skip ?_
      refine AW.seq ?_
      refine AW.block ?_
      refine AW.seq ?_
      refine AW.seq ?_
      obtain ⟨e14, he14, h⟩ := bsome h
      refine AW.region ?_
      refine AOps.cons (op_move (A := rd (ksl kAtom) a3) rfl rfl (vt rfl)) rfl ?_
      refine AOps.cons (op_move (A := rd (kint .i64) i12) rfl rfl (vt rfl)) rfl ?_
      refine AOps.cons (op_indexs' rfl rfl sl40 (vt rfl) (vt rfl) he14) rfl ?_
      refine AOps.cons (op_fieldp lAtom_1 rfl rfl fl48_1 (vt rfl)) rfl ?_
      refine AOps.cons (op_loadp rfl rfl ty4 (vt rfl)) rfl ?_
      refine AOps.nil ?_
      refine AW.cond (vt rfl) (fun hc => ?_) (fun hc => ?_)
      · have h := cond_t hc h
        refine AW.seq ?_
        obtain ⟨e15, he15, h⟩ := bsome h
        obtain ⟨e16, he16, h⟩ := bsome h
        obtain ⟨x17, hx17, h⟩ := bsome h
        obtain ⟨l18, hl18, h⟩ := bsome h
        refine AW.regionAny [⟨[9], [24], [], []⟩, ⟨[0], [25], [], []⟩, ⟨[5], [26], [6], []⟩, ⟨[2], [27], [], []⟩, ⟨[10], [28], [], []⟩, ⟨[27, 28], [29], [], []⟩, ⟨[29], [30], [], []⟩, ⟨[30], [31], [], []⟩, ⟨[2], [32], [], []⟩, ⟨[10], [33], [], []⟩, ⟨[32, 33], [34], [], []⟩, ⟨[34], [35], [], []⟩, ⟨[35], [36], [], []⟩, ⟨[3], [37], [], []⟩, ⟨[37], [38], [], []⟩, ⟨[25, 26, 31, 36, 38], [39], [], []⟩, ⟨[24, 39], [40], [1001], [1001]⟩, ⟨[40], [40, 9], [1002], []⟩] mixed (by kernel_rfl) ?_
        refine SeqA.cons (loc [9] [] rfl rfl fun S hs hr => op_move (A := raw v11) rfl rfl (vt ((hs 9 rfl).trans rfl))) ⟨rfl, rfl, rfl, rfl⟩ ?_
        refine SeqA.cons (loc [0] [] rfl rfl fun S hs hr => op_move (A := rd (ksl kGroup) l1) rfl rfl (vt ((hs 0 rfl).trans rfl))) ⟨rfl, rfl, rfl, rfl⟩ ?_
        refine SeqA.cons (loc [5] [6] rfl rfl fun S hs hr => op_load rfl rfl ty25 (vt ((hs 5 rfl).trans rfl)) (i := 6) ((hr 6 rfl).trans rfl)) ⟨rfl, rfl, rfl, rfl⟩ ?_
        refine SeqA.cons (loc [2] [] rfl rfl fun S hs hr => op_move (A := rd (ksl kAtom) a3) rfl rfl (vt ((hs 2 rfl).trans rfl))) ⟨rfl, rfl, rfl, rfl⟩ ?_
        refine SeqA.cons (loc [10] [] rfl rfl fun S hs hr => op_move (A := rd (kint .i64) i12) rfl rfl (vt ((hs 10 rfl).trans rfl))) ⟨rfl, rfl, rfl, rfl⟩ ?_
        refine SeqA.cons (loc [27, 28] [] rfl rfl fun S hs hr => op_indexs' rfl rfl sl40 (vt ((hs 27 rfl).trans rfl)) (vt ((hs 28 rfl).trans rfl)) he15) ⟨rfl, rfl, rfl, rfl⟩ ?_
        refine SeqA.cons (loc [29] [] rfl rfl fun S hs hr => op_fieldp lAtom_2 rfl rfl fl48_2 (vt ((hs 29 rfl).trans rfl))) ⟨rfl, rfl, rfl, rfl⟩ ?_
        refine SeqA.cons (loc [30] [] rfl rfl fun S hs hr => op_loadp rfl rfl ty3 (vt ((hs 30 rfl).trans rfl))) ⟨rfl, rfl, rfl, rfl⟩ ?_
        refine SeqA.cons (loc [2] [] rfl rfl fun S hs hr => op_move (A := rd (ksl kAtom) a3) rfl rfl (vt ((hs 2 rfl).trans rfl))) ⟨rfl, rfl, rfl, rfl⟩ ?_
        refine SeqA.cons (loc [10] [] rfl rfl fun S hs hr => op_move (A := rd (kint .i64) i12) rfl rfl (vt ((hs 10 rfl).trans rfl))) ⟨rfl, rfl, rfl, rfl⟩ ?_
        refine SeqA.cons (loc [32, 33] [] rfl rfl fun S hs hr => op_indexs' rfl rfl sl40 (vt ((hs 32 rfl).trans rfl)) (vt ((hs 33 rfl).trans rfl)) he16) ⟨rfl, rfl, rfl, rfl⟩ ?_
        refine SeqA.cons (loc [34] [] rfl rfl fun S hs hr => op_fieldp lAtom_0 rfl rfl fl48_0 (vt ((hs 34 rfl).trans rfl))) ⟨rfl, rfl, rfl, rfl⟩ ?_
        refine SeqA.cons (loc [35] [] rfl rfl fun S hs hr => op_loadp rfl rfl ty44 (vt ((hs 35 rfl).trans rfl))) ⟨rfl, rfl, rfl, rfl⟩ ?_
        refine SeqA.cons (loc [3] [] rfl rfl fun S hs hr => op_move (A := rd (kint .i64) depth4) rfl rfl (vt ((hs 3 rfl).trans rfl))) ⟨rfl, rfl, rfl, rfl⟩ ?_
        refine SeqA.cons (loc [37] [] rfl rfl fun S hs hr => op_add rfl rfl (vt ((hs 37 rfl).trans rfl)) (vk rfl)) ⟨rfl, rfl, rfl, rfl⟩ ?_
        refine SeqA.cons (loc [25, 26, 31, 36, 38] [] rfl rfl fun S hs hr => op_call (xs := [.tmp 25, .tmp 26, .tmp 31, .tmp 36, .tmp 38]) (hR39 _ _ _ _ _ _ hx17) (Ent.mk Tryz.func39 rfl rfl) rfl rfl ⟨vt ((hs 25 rfl).trans rfl), vt ((hs 26 rfl).trans rfl), vt ((hs 31 rfl).trans rfl), vt ((hs 36 rfl).trans rfl), vt ((hs 38 rfl).trans rfl), trivial⟩) ⟨rfl, rfl, rfl, rfl⟩ ?_
        refine SeqA.cons (locs (us := [(40, ownR 48 kAtom l18)]) (ur := [(1001, emp)]) [24, 39] [1001] rfl fun S hs hr => op_appendO 1001 hl18 rfl rfl rfl el40 (vt ((hs 24 rfl).trans rfl)) ((hr 1001 rfl).trans rfl) (vt ((hs 39 rfl).trans rfl))) ⟨rfl, rfl, rfl, rfl⟩ ?_
        refine SeqA.cons (locs (us := [(40, top), (9, ownR 48 kAtom l18)]) (ur := []) [40] [1002] rfl fun S hs hr => op_assignO 1002 rfl rfl rfl rfl ((hs 40 rfl).trans rfl) ((hr 1002 rfl).trans rfl)) ⟨rfl, rfl, rfl, rfl⟩ ?_
        refine AW.unpackR 9 1001 rfl rfl fun v19 => ?_
        refine AW.exit ?_
        refine AW.region ?_
        refine AOps.cons (op_move (A := rd (kint .i64) i12) rfl rfl (vt rfl)) rfl ?_
        refine AOps.cons (op_add rfl rfl (vt rfl) (vk rfl)) rfl ?_
        refine AOps.cons (op_assign (A := rd (kint .i64) (IntKind.i64.wrap (i12 + 1))) rfl rfl (vt rfl)) rfl ?_
        refine AOps.nil ?_
        subst hgo1
        exact ⟨(m13, l18, (IntKind.i64.wrap (i12 + 1)), v19), Nat.lt_succ_self _, ⟨trivial, h⟩, ⟨rfl, ⟨rfl, rfl, rfl, rfl, rfl, rfl, trivial⟩, ⟨rfl, rfl, trivial⟩⟩⟩
      · have h := cond_f hc h
        refine AW.skip ?_
        refine AW.seq ?_
        obtain ⟨e20, he20, h⟩ := bsome h
        refine AW.region ?_
        refine AOps.cons (op_move (A := rd (ksl kAtom) a3) rfl rfl (vt rfl)) rfl ?_
        refine AOps.cons (op_move (A := rd (kint .i64) i12) rfl rfl (vt rfl)) rfl ?_
        refine AOps.cons (op_indexs' rfl rfl sl40 (vt rfl) (vt rfl) he20) rfl ?_
        refine AOps.cons (op_loadp rfl rfl ty48 (vt rfl)) rfl ?_
        refine AOps.consT rfl (op_alloc 12 rfl rfl zr48) ?_
        rintro _ ⟨g21, rfl⟩
        refine AOps.cons (op_store rfl rfl ty48 (vt rfl) (i := 12) rfl (vt rfl)) rfl ?_
        refine AOps.nil ?_
        refine AW.seq ?_
        obtain ⟨x22, hx22, h⟩ := bsome h
        refine AW.region ?_
        refine AOps.cons (op_field lAtom_0 rfl rfl fl48_0 (vt rfl)) rfl ?_
        refine AOps.cons (op_load rfl rfl ty44 (vt rfl) (i := 12) rfl) rfl ?_
        refine AOps.cons (op_call (xs := [.tmp 46]) (c37 _ _ hx22) (Ent.mk Tryz.func37 rfl rfl) rfl rfl ⟨vt rfl, trivial⟩) rfl ?_
        refine AOps.cons (op_field lAtom_0 rfl rfl fl48_0 (vt rfl)) rfl ?_
        refine AOps.cons (op_store rfl rfl ty44 (vt rfl) (i := 12) rfl (vt rfl)) rfl ?_
        refine AOps.nil ?_
        obtain ⟨l23, hl23, h⟩ := bsome h
        refine AW.region ?_
        refine AOps.cons (op_move (A := raw v11) rfl rfl (vt rfl)) rfl ?_
        refine AOps.cons (op_load rfl rfl ty48 (vt rfl) (i := 12) rfl) rfl ?_
        refine AOps.cons (op_buildSliceR (ps := [(0, .tmp 50)]) (l := [{ e20 with Rewrite := x22 }]) rfl rfl sl40 zr48 rfl rfl ⟨_, _, Lens.idx 1 kAtom 0 (by decide), _, rfl, (vt rfl), rfl⟩ rfl) rfl ?_
        refine AOps.consT rfl (op_append' 1001 hl23 rfl rfl el40 (vt rfl) rfl (vt rfl)) ?_
        rintro _ ⟨v24, rfl⟩
        refine AOps.cons (op_assign (A := raw v24) rfl rfl (vt rfl)) rfl ?_
        refine AOps.nil ?_
        refine AW.region ?_
        refine AOps.cons (op_move (A := rd (kint .i64) i12) rfl rfl (vt rfl)) rfl ?_
        refine AOps.cons (op_add rfl rfl (vt rfl) (vk rfl)) rfl ?_
        refine AOps.cons (op_assign (A := rd (kint .i64) (IntKind.i64.wrap (i12 + 1))) rfl rfl (vt rfl)) rfl ?_
        refine AOps.nil ?_
        subst hgo1
        exact ⟨(m13, l23, (IntKind.i64.wrap (i12 + 1)), v24), Nat.lt_succ_self _, ⟨trivial, h⟩, ⟨rfl, ⟨rfl, rfl, rfl, rfl, rfl, rfl, trivial⟩, ⟨rfl, rfl, trivial⟩⟩⟩
    · have h := cond_f hc h
      refine AW.exit ?_
      refine AW.seq ?_
      refine AW.region ?_
      refine AOps.cons (op_move (A := raw v11) rfl rfl (vt rfl)) rfl ?_
      refine AOps.cons (op_assign (A := raw v11) rfl rfl (vt rfl)) rfl ?_
      refine AOps.nil ?_
      refine AW.freezes [8, 9, 53] 1001 rfl ⟨rfl, rfl, rfl, trivial⟩ rfl ?_
      refine AW.ret ?_
      obtain rfl := Option.some.inj h
      exact ret1 Tryz.results36 rfl (out_tmp rfl)
-- weirbox/weirboxref38.group
def F39s_l1 (x11 : (List Int)) (x9 : (Group × Bool)) (r4 : (Vector Tern 24)) (R36 : ((List Group) → Env → (List Atom) → Int → Option (List Atom))) (l1 : (List Group)) (e2 : Env) (depth5 : Int) : Nat → (List Atom) → Int → Option (List Atom)
  | 0, _, _ => none
  | m18 + 1, l15, i17 => (bif (decide (i17 < (x11.length : Int))) then (lget x11 i17).bind fun e19 => (lget x9.1.Buckets e19).bind fun e20 => (F60 [] e20.Acts).bind fun x21 => (F59 x21).bind fun x22 => (F63 x22 r4).bind fun x23 => (R36 l1 e2 x23.1 depth5).bind fun x25 => (appd l15 x25).bind fun l26 => (F39s_l1 x11 x9 r4 R36 l1 e2 depth5 m18) l26 (IntKind.i64.wrap (i17 + 1)) else some l15)
def F39s (R36 : ((List Group) → Env → (List Atom) → Int → Option (List Atom))) (R39 : ((List Group) → Env → Int → (Vector Tern 24) → Int → Option (List Atom))) (l1 : (List Group)) (e2 : Env) (id3 : Int) (r4 : (Vector Tern 24)) (depth5 : Int) : Option (List Atom) :=
  (F57 l1 id3).bind fun x9 => (bif ((!x9.2) || (decide (depth5 > 8))) then some [] else (F58 e2 x9.1).bind fun x11 => F39s_l1 x11 x9 r4 R36 l1 e2 depth5 ((((x11.length : Int) : Int) - 0).toNat + 1) [] 0)
theorem c39s (R36 : ((List Group) → Env → (List Atom) → Int → Option (List Atom))) (hR36 : ∀ (l1 : (List Group)) (e2 : Env) (a3 : (List Atom)) (depth4 : Int) (r : (List Atom)), R36 l1 e2 a3 depth4 = some r → PCon Tryz.prog 36 [rd (ksl kGroup) l1, rd kEnv e2, rd (ksl kAtom) a3, rd (kint .i64) depth4] (rd (ksl kAtom) r)) (R39 : ((List Group) → Env → Int → (Vector Tern 24) → Int → Option (List Atom))) (hR39 : ∀ (l1 : (List Group)) (e2 : Env) (id3 : Int) (r4 : (Vector Tern 24)) (depth5 : Int) (r : (List Atom)), R39 l1 e2 id3 r4 depth5 = some r → PCon Tryz.prog 39 [rd (ksl kGroup) l1, rd kEnv e2, rd (kint .i64) id3, rd (karr 24 kTern) r4, rd (kint .i64) depth5] (rd (ksl kAtom) r)) (l1 : (List Group)) (e2 : Env) (id3 : Int) (r4 : (Vector Tern 24)) (depth5 : Int) (r : (List Atom)) (h : F39s R36 R39 l1 e2 id3 r4 depth5 = some r) : PCon Tryz.prog 39 [rd (ksl kGroup) l1, rd kEnv e2, rd (kint .i64) id3, rd (karr 24 kTern) r4, rd (kint .i64) depth5] (rd (ksl kAtom) r) := by
  refine PCon.of (Con.intro0 Tryz.func39 rfl Tryz.ntmps39 rfl fun w H => ?_)
  unfold F39s at h
  refine AW.seq ?_
  refine AW.region ?_
  refine AOps.consT rfl (op_box 7 rfl rfl (vt rfl)) ?_
  rintro _ ⟨g6, rfl⟩
  refine AOps.consT rfl (op_box 9 rfl rfl (vt rfl)) ?_
  rintro _ ⟨g7, rfl⟩
  refine AOps.cons (op_assign (A := rd (ksl kAtom) []) rfl rfl vnil) rfl ?_
  refine AOps.nil ?_
  refine AW.seq ?_
  refine AW.region ?_
  refine AOps.consT rfl (op_buildSlice 1001 (ps := []) (l := []) rfl rfl sl40 zr48 rfl rfl rfl rfl) ?_
  rintro _ ⟨v8, rfl⟩
  refine AOps.cons (op_assign (A := raw v8) rfl rfl (vt rfl)) rfl ?_
  refine AOps.nil ?_
  refine AW.seq ?_
  obtain ⟨x9, hx9, h⟩ := bsome h
  refine AW.region ?_
  refine AOps.cons (op_move (A := rd (ksl kGroup) l1) rfl rfl (vt rfl)) rfl ?_
  refine AOps.cons (op_move (A := rd (kint .i64) id3) rfl rfl (vt rfl)) rfl ?_
  refine AOps.cons (op_call (xs := [.tmp 20, .tmp 21]) (c57 _ _ _ hx9) (Ent.mk Tryz.func57 rfl rfl) rfl rfl ⟨vt rfl, vt rfl, trivial⟩) rfl ?_
  refine AOps.cons (op_move (A := tup2 (rd kGroup x9.1) (rd kbool x9.2)) rfl rfl (vt rfl)) rfl ?_
  refine AOps.cons (op_fst rfl rfl (vt rfl)) rfl ?_
  refine AOps.cons (op_snd rfl rfl (vt rfl)) rfl ?_
  refine AOps.consT rfl (op_alloc 13 rfl rfl zr67) ?_
  rintro _ ⟨g10, rfl⟩
  refine AOps.cons (op_store rfl rfl ty67 (vt rfl) (i := 13) rfl (vt rfl)) rfl ?_
  refine AOps.cons (op_assign (A := rd kbool x9.2) rfl rfl (vt rfl)) rfl ?_
  refine AOps.nil ?_
  refine AW.seq ?_
  refine AW.seq ?_
  refine AW.region ?_
  refine AOps.cons (op_move (A := rd kbool x9.2) rfl rfl (vt rfl)) rfl ?_
  refine AOps.cons (op_not rfl rfl (vt rfl)) rfl ?_
  refine AOps.cons (op_move (A := rd kbool (!x9.2)) rfl rfl (vt rfl)) rfl ?_
  refine AOps.consG (OpG.guard rfl rfl rfl rfl rfl fun hq => op_move (A := rd (kint .i64) depth5) rfl rfl (vt rfl)) ?_
  refine AOps.consG (OpG.guard rfl rfl rfl rfl rfl fun hq => op_gtr rfl rfl (vgt rfl hq) (vk rfl)) ?_
  refine AOps.cons (op_any rfl rfl (vt rfl) (vt rfl)) rfl ?_
  refine AOps.nil ?_
  refine AW.cond (vt rfl) (fun hc => ?_) (fun hc => ?_)
  · have h := cond_t hc h
    refine AW.seq ?_
    refine AW.region ?_
    refine AOps.cons (op_move (A := raw v8) rfl rfl (vt rfl)) rfl ?_
    refine AOps.cons (op_assign (A := raw v8) rfl rfl (vt rfl)) rfl ?_
    refine AOps.nil ?_
    refine AW.freezes [10, 11, 18, 31] 1001 rfl ⟨rfl, rfl, rfl, rfl, trivial⟩ rfl ?_
    refine AW.ret ?_
    obtain rfl := Option.some.inj h
    exact ret1 Tryz.results39 rfl (out_tmp rfl)
  · have h := cond_f hc h
    refine AW.skip ?_
    refine AW.seq ?_
    obtain ⟨x11, hx11, h⟩ := bsome h
    refine AW.region ?_
    refine AOps.cons (op_load rfl rfl ty25 (vt rfl) (i := 7) rfl) rfl ?_
    refine AOps.cons (op_load rfl rfl ty67 (vt rfl) (i := 13) rfl) rfl ?_
    refine AOps.cons (op_call (xs := [.tmp 32, .tmp 33]) (c58 _ _ _ hx11) (Ent.mk Tryz.func58 rfl rfl) rfl rfl ⟨vt rfl, vt rfl, trivial⟩) rfl ?_
    refine AOps.cons (op_assign (A := rd (ksl (kint .i64)) x11) rfl rfl (vt rfl)) rfl ?_
    refine AOps.nil ?_
    refine AW.seq ?_
    refine AW.seq ?_
    refine AW.region ?_
    refine AOps.cons (op_assign (A := rd (kint .i64) 0) rfl rfl (vk rfl)) rfl ?_
    refine AOps.nil ?_
    refine AW.block ?_
    refine AW.loopG (d := []) (ν := Nat × (List Atom) × Int × Value) (fun n => True ∧ F39s_l1 x11 x9 r4 R36 l1 e2 depth5 n.1 n.2.1 n.2.2.1 = some r) (fun n => n.1) (fun n => [(0, rd (ksl kGroup) l1), (4, rd (kint .i64) depth5), (6, ptrL g6 (Lens.id kEnv)), (8, ptrL g7 (Lens.id (karr 24 kTern))), (11, raw n.2.2.2), (12, ptrL g10 (Lens.id kGroup)), (14, rd (ksl (kint .i64)) x11), (15, rd (kint .i64) n.2.2.1)]) (fun n => [(7, Blk g6 25 kEnv e2), (9, Blk g7 44 (karr 24 kTern) r4), (13, Blk g10 67 kGroup x9.1), (1001, Row n.2.2.2 48 kAtom n.2.1)]) (((((x11.length : Int) : Int) - 0).toNat + 1), [], 0, v8) ⟨trivial, h⟩ ⟨rfl, ⟨rfl, rfl, rfl, rfl, rfl, rfl, rfl, rfl, trivial⟩, ⟨rfl, rfl, rfl, rfl, trivial⟩⟩ ?_
    rintro ⟨m18, l15, i17, v16⟩ ⟨hsf1, h⟩
    change True at hsf1
    change F39s_l1 x11 x9 r4 R36 l1 e2 depth5 m18 l15 i17 = some r at h
    change AW _ _ _ ⟨slots [(0, rd (ksl kGroup) l1), (4, rd (kint .i64) depth5), (6, ptrL g6 (Lens.id kEnv)), (8, ptrL g7 (Lens.id (karr 24 kTern))), (11, raw v16), (12, ptrL g10 (Lens.id kGroup)), (14, rd (ksl (kint .i64)) x11), (15, rd (kint .i64) i17)], ress [(7, Blk g6 25 kEnv e2), (9, Blk g7 44 (karr 24 kTern) r4), (13, Blk g10 67 kGroup x9.1), (1001, Row v16 48 kAtom l15)], _⟩
    cases m18 with
    | zero => cases h
    | succ m18 =>
      unfold F39s_l1 at h
      generalize hgo1 : F39s_l1 x11 x9 r4 R36 l1 e2 depth5 m18 = go1 at h
      refine AW.seq ?_
      refine AW.seq ?_
      refine AW.region ?_
      refine AOps.cons (op_move (A := rd (kint .i64) i17) rfl rfl (vt rfl)) rfl ?_
      refine AOps.cons (op_move (A := rd (ksl (kint .i64)) x11) rfl rfl (vt rfl)) rfl ?_
      refine AOps.cons (op_len' rfl rfl sl23 (vt rfl)) rfl ?_
      refine AOps.cons (op_lss rfl rfl (vt rfl) (vt rfl)) rfl ?_
      refine AOps.nil ?_
      refine AW.cond (vt rfl) (fun hc => ?_) (fun hc => ?_)
      · have h := cond_t hc h
        refine AW.skip ?_
        refine AW.seq ?_
        refine AW.block ?_
        refine AW.seq ?_
        obtain ⟨e19, he19, h⟩ := bsome h
        obtain ⟨e20, he20, h⟩ := bsome h
        obtain ⟨x21, hx21, h⟩ := bsome h
        obtain ⟨x22, hx22, h⟩ := bsome h
        obtain ⟨x23, hx23, h⟩ := bsome h
        refine AW.regionAny [⟨[12], [42], [], []⟩, ⟨[42], [43], [13], []⟩, ⟨[14], [44], [], []⟩, ⟨[15], [45], [], []⟩, ⟨[44, 45], [46], [], []⟩, ⟨[46], [47], [], []⟩, ⟨[43, 47], [48], [], []⟩, ⟨[48], [49], [], []⟩, ⟨[49], [50], [], []⟩, ⟨[50], [51], [], []⟩, ⟨[51], [52], [], []⟩, ⟨[8], [53], [9], []⟩, ⟨[52, 53], [54], [], []⟩, ⟨[54], [41], [], []⟩, ⟨[41], [55], [], []⟩, ⟨[41], [56], [], []⟩, ⟨[], [17], [], []⟩, ⟨[55], [16], [], []⟩, ⟨[17, 56], [17], [], []⟩] mixed (by kernel_rfl) ?_
        refine SeqA.cons (loc [12] [] rfl rfl fun S hs hr => op_field lGroup_2 rfl rfl fl67_2 (vt ((hs 12 rfl).trans rfl))) ⟨rfl, rfl, rfl, rfl⟩ ?_
        refine SeqA.cons (loc [42] [13] rfl rfl fun S hs hr => op_load rfl rfl ty65 (vt ((hs 42 rfl).trans rfl)) (i := 13) ((hr 13 rfl).trans rfl)) ⟨rfl, rfl, rfl, rfl⟩ ?_
        refine SeqA.cons (loc [14] [] rfl rfl fun S hs hr => op_move (A := rd (ksl (kint .i64)) x11) rfl rfl (vt ((hs 14 rfl).trans rfl))) ⟨rfl, rfl, rfl, rfl⟩ ?_
        refine SeqA.cons (loc [15] [] rfl rfl fun S hs hr => op_move (A := rd (kint .i64) i17) rfl rfl (vt ((hs 15 rfl).trans rfl))) ⟨rfl, rfl, rfl, rfl⟩ ?_
        refine SeqA.cons (loc [44, 45] [] rfl rfl fun S hs hr => op_indexs' rfl rfl sl23 (vt ((hs 44 rfl).trans rfl)) (vt ((hs 45 rfl).trans rfl)) he19) ⟨rfl, rfl, rfl, rfl⟩ ?_
        refine SeqA.cons (loc [46] [] rfl rfl fun S hs hr => op_loadp rfl rfl ty3 (vt ((hs 46 rfl).trans rfl))) ⟨rfl, rfl, rfl, rfl⟩ ?_
        refine SeqA.cons (loc [43, 47] [] rfl rfl fun S hs hr => op_indexs' rfl rfl sl65 (vt ((hs 43 rfl).trans rfl)) (vt ((hs 47 rfl).trans rfl)) he20) ⟨rfl, rfl, rfl, rfl⟩ ?_
        refine SeqA.cons (loc [48] [] rfl rfl fun S hs hr => op_fieldp lBucket_3 rfl rfl fl64_3 (vt ((hs 48 rfl).trans rfl))) ⟨rfl, rfl, rfl, rfl⟩ ?_
        refine SeqA.cons (loc [49] [] rfl rfl fun S hs hr => op_loadp rfl rfl ty26 (vt ((hs 49 rfl).trans rfl))) ⟨rfl, rfl, rfl, rfl⟩ ?_
        refine SeqA.cons (loc [50] [] rfl rfl fun S hs hr => op_call (xs := [.const (Value.slice none 0 0), .tmp 50]) (c60 _ _ _ hx21) (Ent.mk Tryz.func60 rfl rfl) rfl rfl ⟨vnil, vt ((hs 50 rfl).trans rfl), trivial⟩) ⟨rfl, rfl, rfl, rfl⟩ ?_
        refine SeqA.cons (loc [51] [] rfl rfl fun S hs hr => op_call (xs := [.tmp 51]) (c59 _ _ hx22) (Ent.mk Tryz.func59 rfl rfl) rfl rfl ⟨vt ((hs 51 rfl).trans rfl), trivial⟩) ⟨rfl, rfl, rfl, rfl⟩ ?_
        refine SeqA.cons (loc [8] [9] rfl rfl fun S hs hr => op_load rfl rfl ty44 (vt ((hs 8 rfl).trans rfl)) (i := 9) ((hr 9 rfl).trans rfl)) ⟨rfl, rfl, rfl, rfl⟩ ?_
        refine SeqA.cons (loc [52, 53] [] rfl rfl fun S hs hr => op_call (xs := [.tmp 52, .tmp 53]) (c63 _ _ _ hx23) (Ent.mk Tryz.func63 rfl rfl) rfl rfl ⟨vt ((hs 52 rfl).trans rfl), vt ((hs 53 rfl).trans rfl), trivial⟩) ⟨rfl, rfl, rfl, rfl⟩ ?_
        refine SeqA.cons (loc [54] [] rfl rfl fun S hs hr => op_move (A := tup2 (rd (ksl kAtom) x23.1) (rd (karr 24 kTern) x23.2)) rfl rfl (vt ((hs 54 rfl).trans rfl))) ⟨rfl, rfl, rfl, rfl⟩ ?_
        refine SeqA.cons (loc [41] [] rfl rfl fun S hs hr => op_fst rfl rfl (vt ((hs 41 rfl).trans rfl))) ⟨rfl, rfl, rfl, rfl⟩ ?_
        refine SeqA.cons (loc [41] [] rfl rfl fun S hs hr => op_snd rfl rfl (vt ((hs 41 rfl).trans rfl))) ⟨rfl, rfl, rfl, rfl⟩ ?_
        refine SeqA.cons (locs (us := [(17, ownP 44 (karr 24 kTern) (Vector.replicate 24 zTern))]) (ur := []) [] [] rfl fun S hs hr => op_allocO rfl rfl rfl zr44) ⟨rfl, rfl, rfl, rfl⟩ ?_
        refine SeqA.cons (loc [55] [] rfl rfl fun S hs hr => op_assign (A := rd (ksl kAtom) x23.1) rfl rfl (vt ((hs 55 rfl).trans rfl))) ⟨rfl, rfl, rfl, rfl⟩ ?_
        refine SeqA.cons (locs (us := [(17, ownP 44 (karr 24 kTern) x23.2)]) (ur := []) [17, 56] [] rfl fun S hs hr => op_storeO rfl rfl ty44 ((hs 17 rfl).trans rfl) (vt ((hs 56 rfl).trans rfl))) ⟨rfl, rfl, rfl, rfl⟩ ?_
        refine AW.unpackP 17 18 rfl rfl fun g24 => ?_
        obtain ⟨x25, hx25, h⟩ := bsome h
        obtain ⟨l26, hl26, h⟩ := bsome h
        refine AW.region ?_
        refine AOps.cons (op_move (A := raw v16) rfl rfl (vt rfl)) rfl ?_
        refine AOps.cons (op_move (A := rd (ksl kGroup) l1) rfl rfl (vt rfl)) rfl ?_
        refine AOps.cons (op_load rfl rfl ty25 (vt rfl) (i := 7) rfl) rfl ?_
        refine AOps.cons (op_move (A := rd (ksl kAtom) x23.1) rfl rfl (vt rfl)) rfl ?_
        refine AOps.cons (op_move (A := rd (kint .i64) depth5) rfl rfl (vt rfl)) rfl ?_
        refine AOps.cons (op_call (xs := [.tmp 58, .tmp 59, .tmp 60, .tmp 61]) (hR36 _ _ _ _ _ hx25) (Ent.mk Tryz.func36 rfl rfl) rfl rfl ⟨vt rfl, vt rfl, vt rfl, vt rfl, trivial⟩) rfl ?_
        refine AOps.consT rfl (op_append' 1001 hl26 rfl rfl el40 (vt rfl) rfl (vt rfl)) ?_
        rintro _ ⟨v27, rfl⟩
        refine AOps.cons (op_assign (A := raw v27) rfl rfl (vt rfl)) rfl ?_
        refine AOps.nil ?_
        refine AW.region ?_
        refine AOps.cons (op_move (A := rd (kint .i64) i17) rfl rfl (vt rfl)) rfl ?_
        refine AOps.cons (op_add rfl rfl (vt rfl) (vk rfl)) rfl ?_
        refine AOps.cons (op_assign (A := rd (kint .i64) (IntKind.i64.wrap (i17 + 1))) rfl rfl (vt rfl)) rfl ?_
        refine AOps.nil ?_
        subst hgo1
        exact ⟨(m18, l26, (IntKind.i64.wrap (i17 + 1)), v27), Nat.lt_succ_self _, ⟨trivial, h⟩, ⟨rfl, ⟨rfl, rfl, rfl, rfl, rfl, rfl, rfl, rfl, trivial⟩, ⟨rfl, rfl, rfl, rfl, trivial⟩⟩⟩
      · have h := cond_f hc h
        refine AW.exit ?_
        refine AW.seq ?_
        refine AW.region ?_
        refine AOps.cons (op_move (A := raw v16) rfl rfl (vt rfl)) rfl ?_
        refine AOps.cons (op_assign (A := raw v16) rfl rfl (vt rfl)) rfl ?_
        refine AOps.nil ?_
        refine AW.freezes [10, 11, 64] 1001 rfl ⟨rfl, rfl, rfl, trivial⟩ rfl ?_
        refine AW.ret ?_
        obtain rfl := Option.some.inj h
        exact ret1 Tryz.results39 rfl (out_tmp rfl)
def FR36_39 : Nat → ((List Group) → Env → (List Atom) → Int → Option (List Atom)) × ((List Group) → Env → Int → (Vector Tern 24) → Int → Option (List Atom))
  | 0 => ((fun _ _ _ _ => none), (fun _ _ _ _ _ => none))
  | n + 1 => ((F36s (FR36_39 n).1 (FR36_39 n).2), (F39s (FR36_39 n).1 (FR36_39 n).2))
theorem cR36_39 : ∀ n : Nat, (∀ (l1 : (List Group)) (e2 : Env) (a3 : (List Atom)) (depth4 : Int) (r : (List Atom)), (FR36_39 n).1 l1 e2 a3 depth4 = some r → PCon Tryz.prog 36 [rd (ksl kGroup) l1, rd kEnv e2, rd (ksl kAtom) a3, rd (kint .i64) depth4] (rd (ksl kAtom) r)) ∧ (∀ (l1 : (List Group)) (e2 : Env) (id3 : Int) (r4 : (Vector Tern 24)) (depth5 : Int) (r : (List Atom)), (FR36_39 n).2 l1 e2 id3 r4 depth5 = some r → PCon Tryz.prog 39 [rd (ksl kGroup) l1, rd kEnv e2, rd (kint .i64) id3, rd (karr 24 kTern) r4, rd (kint .i64) depth5] (rd (ksl kAtom) r))
  | 0 => ⟨(by intros; rename_i h; cases h), (by intros; rename_i h; cases h)⟩
  | n + 1 => by
    have ih := cR36_39 n
    exact ⟨(c36s (FR36_39 n).1 ih.1 (FR36_39 n).2 ih.2), (c39s (FR36_39 n).1 ih.1 (FR36_39 n).2 ih.2)⟩
def F36 (l1 : (List Group)) (e2 : Env) (a3 : (List Atom)) (depth4 : Int) : Option (List Atom) := (FR36_39 fuel0).1 l1 e2 a3 depth4
theorem c36 : ∀ (l1 : (List Group)) (e2 : Env) (a3 : (List Atom)) (depth4 : Int) (r : (List Atom)), F36 l1 e2 a3 depth4 = some r → PCon Tryz.prog 36 [rd (ksl kGroup) l1, rd kEnv e2, rd (ksl kAtom) a3, rd (kint .i64) depth4] (rd (ksl kAtom) r) := (cR36_39 fuel0).1
def F39 (l1 : (List Group)) (e2 : Env) (id3 : Int) (r4 : (Vector Tern 24)) (depth5 : Int) : Option (List Atom) := (FR36_39 fuel0).2 l1 e2 id3 r4 depth5
theorem c39 : ∀ (l1 : (List Group)) (e2 : Env) (id3 : Int) (r4 : (Vector Tern 24)) (depth5 : Int) (r : (List Atom)), F39 l1 e2 id3 r4 depth5 = some r → PCon Tryz.prog 39 [rd (ksl kGroup) l1, rd kEnv e2, rd (kint .i64) id3, rd (karr 24 kTern) r4, rd (kint .i64) depth5] (rd (ksl kAtom) r) := (cR36_39 fuel0).2
-- weirbox/weirboxref38.List
def F18 (l1 : (List Group)) (e2 : Env) (a3 : (List Atom)) : Option (List Atom) :=
  (F36 l1 e2 a3 0).bind fun x5 => some x5
theorem c18 (l1 : (List Group)) (e2 : Env) (a3 : (List Atom)) (r : (List Atom)) (h : F18 l1 e2 a3 = some r) : PCon Tryz.prog 18 [rd (ksl kGroup) l1, rd kEnv e2, rd (ksl kAtom) a3] (rd (ksl kAtom) r) := by
  refine PCon.of (Con.intro0 Tryz.func18 rfl Tryz.ntmps18 rfl fun w H => ?_)
  unfold F18 at h
  refine AW.seq ?_
  refine AW.region ?_
  refine AOps.consT rfl (op_box 5 rfl rfl (vt rfl)) ?_
  rintro _ ⟨g4, rfl⟩
  refine AOps.cons (op_assign (A := rd (ksl kAtom) []) rfl rfl vnil) rfl ?_
  refine AOps.nil ?_
  refine AW.seq ?_
  obtain ⟨x5, hx5, h⟩ := bsome h
  refine AW.region ?_
  refine AOps.cons (op_move (A := rd (ksl kGroup) l1) rfl rfl (vt rfl)) rfl ?_
  refine AOps.cons (op_load rfl rfl ty25 (vt rfl) (i := 5) rfl) rfl ?_
  refine AOps.cons (op_move (A := rd (ksl kAtom) a3) rfl rfl (vt rfl)) rfl ?_
  refine AOps.cons (op_call (xs := [.tmp 7, .tmp 8, .tmp 9, .const (Value.int IntKind.i64 0)]) (c36 _ _ _ _ _ hx5) (Ent.mk Tryz.func36 rfl rfl) rfl rfl ⟨vt rfl, vt rfl, vt rfl, vk rfl, trivial⟩) rfl ?_
  refine AOps.cons (op_assign (A := rd (ksl kAtom) x5) rfl rfl (vt rfl)) rfl ?_
  refine AOps.nil ?_
  refine AW.ret ?_
  obtain rfl := Option.some.inj h
  exact ret1 Tryz.results18 rfl (out_tmp rfl)
-- slices.Equal[[]weirbox/api.Atom,weirbox/api.Atom]
def F16_l1 (s11 : (List Atom)) (s22 : (List Atom)) : Nat → Nat → Option Bool
  | 0, i3 => some true
  | m4 + 1, i3 => (lget s11 (i3 : Int)).bind fun e5 => (lget s22 (i3 : Int)).bind fun e6 => (bif (decide (e5 ≠ e6)) then some false else (F16_l1 s11 s22 m4) (i3 + 1))
def F16 (s11 : (List Atom)) (s22 : (List Atom)) : Option Bool :=
  (bif (decide ((s11.length : Int) ≠ (s22.length : Int))) then some false else F16_l1 s11 s22 ((s11.length : Int) : Int).toNat 0)
theorem c16 (s11 : (List Atom)) (s22 : (List Atom)) (r : Bool) (h : F16 s11 s22 = some r) : PCon Tryz.prog 16 [rd (ksl kAtom) s11, rd (ksl kAtom) s22] (rd kbool r) := by
  refine PCon.of (Con.intro0 Tryz.func16 rfl Tryz.ntmps16 rfl fun w H => ?_)
  unfold F16 at h
  refine AW.seq ?_
  refine AW.region ?_
  refine AOps.cons (op_assign (A := rd kbool false) rfl rfl vb) rfl ?_
  refine AOps.nil ?_
  refine AW.seq ?_
  refine AW.seq ?_
  refine AW.region ?_
  refine AOps.cons (op_move (A := rd (ksl kAtom) s11) rfl rfl (vt rfl)) rfl ?_
  refine AOps.cons (op_len' rfl rfl sl40 (vt rfl)) rfl ?_
  refine AOps.cons (op_move (A := rd (ksl kAtom) s22) rfl rfl (vt rfl)) rfl ?_
  refine AOps.cons (op_len' rfl rfl sl40 (vt rfl)) rfl ?_
  refine AOps.cons (op_neq rfl rfl (vt rfl) (vt rfl)) rfl ?_
  refine AOps.nil ?_
  refine AW.cond (vt rfl) (fun hc => ?_) (fun hc => ?_)
  · have h := cond_t hc h
    refine AW.seq ?_
    refine AW.region ?_
    refine AOps.cons (op_assign (A := rd kbool false) rfl rfl vb) rfl ?_
    refine AOps.nil ?_
    refine AW.ret ?_
    obtain rfl := Option.some.inj h
    exact ret1 Tryz.results16 rfl (out_tmp rfl)
  · have h := cond_f hc h
    refine AW.skip ?_
    refine AW.seq ?_
    refine AW.seq ?_
    refine AW.region ?_
    refine AOps.cons (op_move (A := rd (ksl kAtom) s11) rfl rfl (vt rfl)) rfl ?_
    refine AOps.cons (op_len' rfl rfl sl40 (vt rfl)) rfl ?_
    refine AOps.cons (op_move (A := rd (kint .i64) 0) rfl rfl (vk rfl)) rfl ?_
    refine AOps.nil ?_
    refine AW.block ?_
    refine AW.loopG (d := []) (ν := Nat × Nat) (fun n => Cnt (s11.length : Int) n.2 n.1 ∧ F16_l1 s11 s22 n.1 n.2 = some r) (fun n => n.1) (fun n => [(0, rd (ksl kAtom) s11), (1, rd (ksl kAtom) s22), (12, rd (kint .i64) (s11.length : Int)), (13, rd (kint .i64) (n.2 : Int))]) (fun n => []) (((s11.length : Int) : Int).toNat, 0) ⟨Cnt.start _, h⟩ ⟨rfl, ⟨rfl, rfl, rfl, rfl, trivial⟩, trivial⟩ ?_
    rintro ⟨m4, i3⟩ ⟨hsf1, h⟩
    change Cnt (s11.length : Int) i3 m4 at hsf1
    change F16_l1 s11 s22 m4 i3 = some r at h
    change AW _ _ _ ⟨slots [(0, rd (ksl kAtom) s11), (1, rd (ksl kAtom) s22), (12, rd (kint .i64) (s11.length : Int)), (13, rd (kint .i64) (i3 : Int))], ress [], _⟩
    cases m4 with
    | zero =>
      unfold F16_l1 at h
      refine AW.seq ?_
      refine AW.region ?_
      refine AOps.cons (op_lss rfl rfl (vt rfl) (vt rfl)) rfl ?_
      refine AOps.nil ?_
      refine AW.seq ?_
      refine AW.cond (vt rfl) (fun hc => absurd (of_decide_eq_true hc) hsf1.zero) (fun hc => ?_)
      refine AW.exit ?_
      refine AW.seq ?_
      refine AW.region ?_
      refine AOps.cons (op_assign (A := rd kbool true) rfl rfl vb) rfl ?_
      refine AOps.nil ?_
      refine AW.ret ?_
      obtain rfl := Option.some.inj h
      exact ret1 Tryz.results16 rfl (out_tmp rfl)
    | succ m4 =>
      unfold F16_l1 at h
      generalize hgo1 : F16_l1 s11 s22 m4 = go1 at h
      refine AW.seq ?_
      refine AW.region ?_
      refine AOps.cons (op_lss rfl rfl (vt rfl) (vt rfl)) rfl ?_
      refine AOps.nil ?_
      refine AW.seq ?_
      refine AW.cond (vt rfl) (fun hc => ?_) (fun hc => absurd hsf1.succ (of_decide_eq_false hc))
      have hlti3 := of_decide_eq_true hc
      refine AW.skip ?_
      refine AW.seq ?_
      refine AW.block ?_
      refine AW.seq ?_
      refine AW.region ?_
      refine AOps.cons (op_move (A := rd (kint .i64) (i3 : Int)) rfl rfl (vt rfl)) rfl ?_
      refine AOps.cons (op_assign (A := rd (kint .i64) (i3 : Int)) rfl rfl (vt rfl)) rfl ?_
      refine AOps.nil ?_
      refine AW.seq ?_
      obtain ⟨e5, he5, h⟩ := bsome h
      obtain ⟨e6, he6, h⟩ := bsome h
      refine AW.regionAny [⟨[0], [16], [], []⟩, ⟨[5], [17], [], []⟩, ⟨[16, 17], [18], [], []⟩, ⟨[18], [19], [], []⟩, ⟨[1], [20], [], []⟩, ⟨[5], [21], [], []⟩, ⟨[20, 21], [22], [], []⟩, ⟨[22], [23], [], []⟩, ⟨[19, 23], [24], [], []⟩] mixed (by kernel_rfl) ?_
      refine SeqA.cons (loc [0] [] rfl rfl fun S hs hr => op_move (A := rd (ksl kAtom) s11) rfl rfl (vt ((hs 0 rfl).trans rfl))) ⟨rfl, rfl, rfl, rfl⟩ ?_
      refine SeqA.cons (loc [5] [] rfl rfl fun S hs hr => op_move (A := rd (kint .i64) (i3 : Int)) rfl rfl (vt ((hs 5 rfl).trans rfl))) ⟨rfl, rfl, rfl, rfl⟩ ?_
      refine SeqA.cons (loc [16, 17] [] rfl rfl fun S hs hr => op_indexs' rfl rfl sl40 (vt ((hs 16 rfl).trans rfl)) (vt ((hs 17 rfl).trans rfl)) he5) ⟨rfl, rfl, rfl, rfl⟩ ?_
      refine SeqA.cons (loc [18] [] rfl rfl fun S hs hr => op_loadp rfl rfl ty48 (vt ((hs 18 rfl).trans rfl))) ⟨rfl, rfl, rfl, rfl⟩ ?_
      refine SeqA.cons (loc [1] [] rfl rfl fun S hs hr => op_move (A := rd (ksl kAtom) s22) rfl rfl (vt ((hs 1 rfl).trans rfl))) ⟨rfl, rfl, rfl, rfl⟩ ?_
      refine SeqA.cons (loc [5] [] rfl rfl fun S hs hr => op_move (A := rd (kint .i64) (i3 : Int)) rfl rfl (vt ((hs 5 rfl).trans rfl))) ⟨rfl, rfl, rfl, rfl⟩ ?_
      refine SeqA.cons (loc [20, 21] [] rfl rfl fun S hs hr => op_indexs' rfl rfl sl40 (vt ((hs 20 rfl).trans rfl)) (vt ((hs 21 rfl).trans rfl)) he6) ⟨rfl, rfl, rfl, rfl⟩ ?_
      refine SeqA.cons (loc [22] [] rfl rfl fun S hs hr => op_loadp rfl rfl ty48 (vt ((hs 22 rfl).trans rfl))) ⟨rfl, rfl, rfl, rfl⟩ ?_
      refine SeqA.cons (loc [19, 23] [] rfl rfl fun S hs hr => op_neqk rfl rfl eqk48 (by decide) rfl eg48 (vt ((hs 19 rfl).trans rfl)) (vt ((hs 23 rfl).trans rfl))) ⟨rfl, rfl, rfl, rfl⟩ ?_
      refine AW.cond (vt rfl) (fun hc => ?_) (fun hc => ?_)
      · have h := cond_t hc h
        refine AW.seq ?_
        refine AW.region ?_
        refine AOps.cons (op_assign (A := rd kbool false) rfl rfl vb) rfl ?_
        refine AOps.nil ?_
        refine AW.ret ?_
        obtain rfl := Option.some.inj h
        exact ret1 Tryz.results16 rfl (out_tmp rfl)
      · have h := cond_f hc h
        refine AW.skip ?_
        refine AW.region ?_
        refine AOps.cons (op_incr (t := 12) rfl rfl (vt rfl) (vk rfl) (vt rfl) hlti3) rfl ?_
        refine AOps.cons (op_move (A := rd (kint .i64) ((i3 + 1 : Nat) : Int)) rfl rfl (vt rfl)) rfl ?_
        refine AOps.nil ?_
        subst hgo1
        exact ⟨(m4, i3 + 1), Nat.lt_succ_self _, ⟨hsf1.next, h⟩, ⟨rfl, ⟨rfl, rfl, rfl, rfl, trivial⟩, trivial⟩⟩
-- weirbox/weirboxref38.Group
def F21 (l1 : (List Group)) (e2 : Env) (id3 : Int) (r4 : (Vector Tern 24)) : Option (List Atom) :=
  (F39 l1 e2 id3 r4 1).bind fun x7 => some x7
theorem c21 (l1 : (List Group)) (e2 : Env) (id3 : Int) (r4 : (Vector Tern 24)) (r : (List Atom)) (h : F21 l1 e2 id3 r4 = some r) : PCon Tryz.prog 21 [rd (ksl kGroup) l1, rd kEnv e2, rd (kint .i64) id3, rd (karr 24 kTern) r4] (rd (ksl kAtom) r) := by
  refine PCon.of (Con.intro0 Tryz.func21 rfl Tryz.ntmps21 rfl fun w H => ?_)
  unfold F21 at h
  refine AW.seq ?_
  refine AW.region ?_
  refine AOps.consT rfl (op_box 6 rfl rfl (vt rfl)) ?_
  rintro _ ⟨g5, rfl⟩
  refine AOps.consT rfl (op_box 8 rfl rfl (vt rfl)) ?_
  rintro _ ⟨g6, rfl⟩
  refine AOps.cons (op_assign (A := rd (ksl kAtom) []) rfl rfl vnil) rfl ?_
  refine AOps.nil ?_
  refine AW.seq ?_
  obtain ⟨x7, hx7, h⟩ := bsome h
  refine AW.region ?_
  refine AOps.cons (op_move (A := rd (ksl kGroup) l1) rfl rfl (vt rfl)) rfl ?_
  refine AOps.cons (op_load rfl rfl ty25 (vt rfl) (i := 6) rfl) rfl ?_
  refine AOps.cons (op_move (A := rd (kint .i64) id3) rfl rfl (vt rfl)) rfl ?_
  refine AOps.cons (op_load rfl rfl ty44 (vt rfl) (i := 8) rfl) rfl ?_
  refine AOps.cons (op_call (xs := [.tmp 9, .tmp 10, .tmp 11, .tmp 12, .const (Value.int IntKind.i64 1)]) (c39 _ _ _ _ _ _ hx7) (Ent.mk Tryz.func39 rfl rfl) rfl rfl ⟨vt rfl, vt rfl, vt rfl, vt rfl, vk rfl, trivial⟩) rfl ?_
  refine AOps.cons (op_assign (A := rd (ksl kAtom) x7) rfl rfl (vt rfl)) rfl ?_
  refine AOps.nil ?_
  refine AW.ret ?_
  obtain rfl := Option.some.inj h
  exact ret1 Tryz.results21 rfl (out_tmp rfl)
-- weirbox/weirboxref32.Same
def F19_l1 (a1 : (List Atom)) (b2 : (List Atom)) : Nat → Int → Option Bool
  | 0, _ => none
  | m5 + 1, i4 => (bif (decide (i4 < (a1.length : Int))) then (lget a1 i4).bind fun e6 => (lget b2 i4).bind fun e7 => (opt (!(!(e6.Group == e7.Group))) (lget a1 i4)).bind fun e8 => (opt (!(!(e6.Group == e7.Group))) (lget b2 i4)).bind fun e9 => (opt (!((!(e6.Group == e7.Group)) || (decide (e8.Port ≠ e9.Port)))) (lget a1 i4)).bind fun e10 => (opt (!((!(e6.Group == e7.Group)) || (decide (e8.Port ≠ e9.Port)))) (lget b2 i4)).bind fun e11 => (opt (!(((!(e6.Group == e7.Group)) || (decide (e8.Port ≠ e9.Port))) || (decide (e10.Max ≠ e11.Max)))) (lget a1 i4)).bind fun e12 => (opt (!(((!(e6.Group == e7.Group)) || (decide (e8.Port ≠ e9.Port))) || (decide (e10.Max ≠ e11.Max)))) (F37 e12.Rewrite)).bind fun x13 => (opt (!(((!(e6.Group == e7.Group)) || (decide (e8.Port ≠ e9.Port))) || (decide (e10.Max ≠ e11.Max)))) (lget b2 i4)).bind fun e14 => (opt (!(((!(e6.Group == e7.Group)) || (decide (e8.Port ≠ e9.Port))) || (decide (e10.Max ≠ e11.Max)))) (F37 e14.Rewrite)).bind fun x15 => (bif ((((!(e6.Group == e7.Group)) || (decide (e8.Port ≠ e9.Port))) || (decide (e10.Max ≠ e11.Max))) || (decide (x13 ≠ x15))) then some false else (F19_l1 a1 b2 m5) (IntKind.i64.wrap (i4 + 1))) else some true)
def F19 (a1 : (List Atom)) (b2 : (List Atom)) : Option Bool :=
  (bif (decide ((a1.length : Int) ≠ (b2.length : Int))) then some false else F19_l1 a1 b2 ((((a1.length : Int) : Int) - 0).toNat + 1) 0)
theorem c19 (a1 : (List Atom)) (b2 : (List Atom)) (r : Bool) (h : F19 a1 b2 = some r) : PCon Tryz.prog 19 [rd (ksl kAtom) a1, rd (ksl kAtom) b2] (rd kbool r) := by
  refine PCon.of (Con.intro0 Tryz.func19 rfl Tryz.ntmps19 rfl fun w H => ?_)
  unfold F19 at h
  refine AW.seq ?_
  refine AW.region ?_
  refine AOps.cons (op_assign (A := rd kbool false) rfl rfl vb) rfl ?_
  refine AOps.nil ?_
  refine AW.seq ?_
  refine AW.seq ?_
  refine AW.region ?_
  refine AOps.cons (op_move (A := rd (ksl kAtom) a1) rfl rfl (vt rfl)) rfl ?_
  refine AOps.cons (op_len' rfl rfl sl40 (vt rfl)) rfl ?_
  refine AOps.cons (op_move (A := rd (ksl kAtom) b2) rfl rfl (vt rfl)) rfl ?_
  refine AOps.cons (op_len' rfl rfl sl40 (vt rfl)) rfl ?_
  refine AOps.cons (op_neq rfl rfl (vt rfl) (vt rfl)) rfl ?_
  refine AOps.nil ?_
  refine AW.cond (vt rfl) (fun hc => ?_) (fun hc => ?_)
  · have h := cond_t hc h
    refine AW.seq ?_
    refine AW.region ?_
    refine AOps.cons (op_assign (A := rd kbool false) rfl rfl vb) rfl ?_
    refine AOps.nil ?_
    refine AW.ret ?_
    obtain rfl := Option.some.inj h
    exact ret1 Tryz.results19 rfl (out_tmp rfl)
  · have h := cond_f hc h
    refine AW.skip ?_
    refine AW.seq ?_
    refine AW.seq ?_
    refine AW.region ?_
    refine AOps.cons (op_assign (A := rd (kint .i64) 0) rfl rfl (vk rfl)) rfl ?_
    refine AOps.nil ?_
    refine AW.block ?_
    refine AW.loopG (d := []) (ν := Nat × Int) (fun n => True ∧ F19_l1 a1 b2 n.1 n.2 = some r) (fun n => n.1) (fun n => [(0, rd (ksl kAtom) a1), (1, rd (ksl kAtom) b2), (5, rd (kint .i64) n.2)]) (fun n => []) (((((a1.length : Int) : Int) - 0).toNat + 1), 0) ⟨trivial, h⟩ ⟨rfl, ⟨rfl, rfl, rfl, trivial⟩, trivial⟩ ?_
    rintro ⟨m5, i4⟩ ⟨hsf1, h⟩
    change True at hsf1
    change F19_l1 a1 b2 m5 i4 = some r at h
    change AW _ _ _ ⟨slots [(0, rd (ksl kAtom) a1), (1, rd (ksl kAtom) b2), (5, rd (kint .i64) i4)], ress [], _⟩
    cases m5 with
    | zero => cases h
    | succ m5 =>
      unfold F19_l1 at h
      generalize hgo1 : F19_l1 a1 b2 m5 = go1 at h
      refine AW.seq ?_
      refine AW.seq ?_
      refine AW.region ?_
      refine AOps.cons (op_move (A := rd (kint .i64) i4) rfl rfl (vt rfl)) rfl ?_
      refine AOps.cons (op_move (A := rd (ksl kAtom) a1) rfl rfl (vt rfl)) rfl ?_
      refine AOps.cons (op_len' rfl rfl sl40 (vt rfl)) rfl ?_
      refine AOps.cons (op_lss rfl rfl (vt rfl) (vt rfl)) rfl ?_
      refine AOps.nil ?_
      refine AW.cond (vt rfl) (fun hc => ?_) (fun hc => ?_)
      · have h := cond_t hc h
        refine AW.skip ?_
        refine AW.seq ?_
        refine AW.block ?_
        refine AW.seq ?_
        obtain ⟨e6, he6, h⟩ := bsome h
        obtain ⟨e7, he7, h⟩ := bsome h
        obtain ⟨e8, he8, h⟩ := bsome h
        obtain ⟨e9, he9, h⟩ := bsome h
        obtain ⟨e10, he10, h⟩ := bsome h
        obtain ⟨e11, he11, h⟩ := bsome h
        obtain ⟨e12, he12, h⟩ := bsome h
        obtain ⟨x13, hx13, h⟩ := bsome h
        obtain ⟨e14, he14, h⟩ := bsome h
        obtain ⟨x15, hx15, h⟩ := bsome h
        refine AW.regionAny [⟨[0], [17], [], []⟩, ⟨[5], [18], [], []⟩, ⟨[17, 18], [19], [], []⟩, ⟨[19], [20], [], []⟩, ⟨[20], [21], [], []⟩, ⟨[1], [22], [], []⟩, ⟨[5], [23], [], []⟩, ⟨[22, 23], [24], [], []⟩, ⟨[24], [25], [], []⟩, ⟨[25], [26], [], []⟩, ⟨[21, 26], [27], [], []⟩, ⟨[27], [28], [], []⟩, ⟨[0, 28], [29], [], []⟩, ⟨[5, 28], [30], [], []⟩, ⟨[29, 30, 28], [31], [], []⟩, ⟨[31, 28], [32], [], []⟩, ⟨[32, 28], [33], [], []⟩, ⟨[1, 28], [34], [], []⟩, ⟨[5, 28], [35], [], []⟩, ⟨[34, 35, 28], [36], [], []⟩, ⟨[36, 28], [37], [], []⟩, ⟨[37, 28], [38], [], []⟩, ⟨[33, 38, 28], [39], [], []⟩, ⟨[39, 28], [40], [], []⟩, ⟨[40], [41], [], []⟩, ⟨[0, 41], [42], [], []⟩, ⟨[5, 41], [43], [], []⟩, ⟨[42, 43, 41], [44], [], []⟩, ⟨[44, 41], [45], [], []⟩, ⟨[45, 41], [46], [], []⟩, ⟨[1, 41], [47], [], []⟩, ⟨[5, 41], [48], [], []⟩, ⟨[47, 48, 41], [49], [], []⟩, ⟨[49, 41], [50], [], []⟩, ⟨[50, 41], [51], [], []⟩, ⟨[46, 51, 41], [52], [], []⟩, ⟨[52, 41], [53], [], []⟩, ⟨[53], [54], [], []⟩, ⟨[0, 54], [55], [], []⟩, ⟨[5, 54], [56], [], []⟩, ⟨[55, 56, 54], [57], [], []⟩, ⟨[57, 54], [58], [], []⟩, ⟨[58, 54], [59], [], []⟩, ⟨[59, 54], [60], [], []⟩, ⟨[1, 54], [61], [], []⟩, ⟨[5, 54], [62], [], []⟩, ⟨[61, 62, 54], [63], [], []⟩, ⟨[63, 54], [64], [], []⟩, ⟨[64, 54], [65], [], []⟩, ⟨[65, 54], [66], [], []⟩, ⟨[60, 66, 54], [67], [], []⟩, ⟨[67, 54], [68], [], []⟩] mixed (by kernel_rfl) ?_
        refine SeqA.cons (loc [0] [] rfl rfl fun S hs hr => op_move (A := rd (ksl kAtom) a1) rfl rfl (vt ((hs 0 rfl).trans rfl))) ⟨rfl, rfl, rfl, rfl⟩ ?_
        refine SeqA.cons (loc [5] [] rfl rfl fun S hs hr => op_move (A := rd (kint .i64) i4) rfl rfl (vt ((hs 5 rfl).trans rfl))) ⟨rfl, rfl, rfl, rfl⟩ ?_
        refine SeqA.cons (loc [17, 18] [] rfl rfl fun S hs hr => op_indexs' rfl rfl sl40 (vt ((hs 17 rfl).trans rfl)) (vt ((hs 18 rfl).trans rfl)) he6) ⟨rfl, rfl, rfl, rfl⟩ ?_
        refine SeqA.cons (loc [19] [] rfl rfl fun S hs hr => op_fieldp lAtom_1 rfl rfl fl48_1 (vt ((hs 19 rfl).trans rfl))) ⟨rfl, rfl, rfl, rfl⟩ ?_
        refine SeqA.cons (loc [20] [] rfl rfl fun S hs hr => op_loadp rfl rfl ty4 (vt ((hs 20 rfl).trans rfl))) ⟨rfl, rfl, rfl, rfl⟩ ?_
        refine SeqA.cons (loc [1] [] rfl rfl fun S hs hr => op_move (A := rd (ksl kAtom) b2) rfl rfl (vt ((hs 1 rfl).trans rfl))) ⟨rfl, rfl, rfl, rfl⟩ ?_
        refine SeqA.cons (loc [5] [] rfl rfl fun S hs hr => op_move (A := rd (kint .i64) i4) rfl rfl (vt ((hs 5 rfl).trans rfl))) ⟨rfl, rfl, rfl, rfl⟩ ?_
        refine SeqA.cons (loc [22, 23] [] rfl rfl fun S hs hr => op_indexs' rfl rfl sl40 (vt ((hs 22 rfl).trans rfl)) (vt ((hs 23 rfl).trans rfl)) he7) ⟨rfl, rfl, rfl, rfl⟩ ?_
        refine SeqA.cons (loc [24] [] rfl rfl fun S hs hr => op_fieldp lAtom_1 rfl rfl fl48_1 (vt ((hs 24 rfl).trans rfl))) ⟨rfl, rfl, rfl, rfl⟩ ?_
        refine SeqA.cons (loc [25] [] rfl rfl fun S hs hr => op_loadp rfl rfl ty4 (vt ((hs 25 rfl).trans rfl))) ⟨rfl, rfl, rfl, rfl⟩ ?_
        refine SeqA.cons (loc [21, 26] [] rfl rfl fun S hs hr => op_neqb rfl rfl un4 (vt ((hs 21 rfl).trans rfl)) (vt ((hs 26 rfl).trans rfl))) ⟨rfl, rfl, rfl, rfl⟩ ?_
        refine SeqA.cons (loc [27] [] rfl rfl fun S hs hr => op_move (A := rd kbool (!(e6.Group == e7.Group))) rfl rfl (vt ((hs 27 rfl).trans rfl))) ⟨rfl, rfl, rfl, rfl⟩ ?_
        refine SeqA.cons (locg [0, 28] [] rfl rfl rfl rfl rfl rfl rfl fun hq S hs hr => op_move (A := rd (ksl kAtom) a1) rfl rfl (vt ((hs 0 rfl).trans rfl))) ⟨rfl, rfl, rfl, rfl⟩ ?_
        refine SeqA.cons (locg [5, 28] [] rfl rfl rfl rfl rfl rfl rfl fun hq S hs hr => op_move (A := rd (kint .i64) i4) rfl rfl (vt ((hs 5 rfl).trans rfl))) ⟨rfl, rfl, rfl, rfl⟩ ?_
        refine SeqA.cons (locg [29, 30, 28] [] rfl rfl rfl rfl rfl rfl rfl fun hq S hs hr => op_indexs' rfl rfl sl40 (vgt ((hs 29 rfl).trans rfl) hq) (vgt ((hs 30 rfl).trans rfl) hq) (opt_f he8 hq)) ⟨rfl, rfl, rfl, rfl⟩ ?_
        refine SeqA.cons (locg [31, 28] [] rfl rfl rfl rfl rfl rfl rfl fun hq S hs hr => op_fieldp lAtom_2 rfl rfl fl48_2 (vgt ((hs 31 rfl).trans rfl) hq)) ⟨rfl, rfl, rfl, rfl⟩ ?_
        refine SeqA.cons (locg [32, 28] [] rfl rfl rfl rfl rfl rfl rfl fun hq S hs hr => op_loadp rfl rfl ty3 (vgt ((hs 32 rfl).trans rfl) hq)) ⟨rfl, rfl, rfl, rfl⟩ ?_
        refine SeqA.cons (locg [1, 28] [] rfl rfl rfl rfl rfl rfl rfl fun hq S hs hr => op_move (A := rd (ksl kAtom) b2) rfl rfl (vt ((hs 1 rfl).trans rfl))) ⟨rfl, rfl, rfl, rfl⟩ ?_
        refine SeqA.cons (locg [5, 28] [] rfl rfl rfl rfl rfl rfl rfl fun hq S hs hr => op_move (A := rd (kint .i64) i4) rfl rfl (vt ((hs 5 rfl).trans rfl))) ⟨rfl, rfl, rfl, rfl⟩ ?_
        refine SeqA.cons (locg [34, 35, 28] [] rfl rfl rfl rfl rfl rfl rfl fun hq S hs hr => op_indexs' rfl rfl sl40 (vgt ((hs 34 rfl).trans rfl) hq) (vgt ((hs 35 rfl).trans rfl) hq) (opt_f he9 hq)) ⟨rfl, rfl, rfl, rfl⟩ ?_
        refine SeqA.cons (locg [36, 28] [] rfl rfl rfl rfl rfl rfl rfl fun hq S hs hr => op_fieldp lAtom_2 rfl rfl fl48_2 (vgt ((hs 36 rfl).trans rfl) hq)) ⟨rfl, rfl, rfl, rfl⟩ ?_
        refine SeqA.cons (locg [37, 28] [] rfl rfl rfl rfl rfl rfl rfl fun hq S hs hr => op_loadp rfl rfl ty3 (vgt ((hs 37 rfl).trans rfl) hq)) ⟨rfl, rfl, rfl, rfl⟩ ?_
        refine SeqA.cons (locg [33, 38, 28] [] rfl rfl rfl rfl rfl rfl rfl fun hq S hs hr => op_neq rfl rfl (vgt ((hs 33 rfl).trans rfl) hq) (vgt ((hs 38 rfl).trans rfl) hq)) ⟨rfl, rfl, rfl, rfl⟩ ?_
        refine SeqA.cons (loc [39, 28] [] rfl rfl fun S hs hr => op_any rfl rfl (vt ((hs 28 rfl).trans rfl)) (vt ((hs 39 rfl).trans rfl))) ⟨rfl, rfl, rfl, rfl⟩ ?_
        refine SeqA.cons (loc [40] [] rfl rfl fun S hs hr => op_move (A := rd kbool ((!(e6.Group == e7.Group)) || (decide (e8.Port ≠ e9.Port)))) rfl rfl (vt ((hs 40 rfl).trans rfl))) ⟨rfl, rfl, rfl, rfl⟩ ?_
        refine SeqA.cons (locg [0, 41] [] rfl rfl rfl rfl rfl rfl rfl fun hq S hs hr => op_move (A := rd (ksl kAtom) a1) rfl rfl (vt ((hs 0 rfl).trans rfl))) ⟨rfl, rfl, rfl, rfl⟩ ?_
        refine SeqA.cons (locg [5, 41] [] rfl rfl rfl rfl rfl rfl rfl fun hq S hs hr => op_move (A := rd (kint .i64) i4) rfl rfl (vt ((hs 5 rfl).trans rfl))) ⟨rfl, rfl, rfl, rfl⟩ ?_
        refine SeqA.cons (locg [42, 43, 41] [] rfl rfl rfl rfl rfl rfl rfl fun hq S hs hr => op_indexs' rfl rfl sl40 (vgt ((hs 42 rfl).trans rfl) hq) (vgt ((hs 43 rfl).trans rfl) hq) (opt_f he10 hq)) ⟨rfl, rfl, rfl, rfl⟩ ?_
        refine SeqA.cons (locg [44, 41] [] rfl rfl rfl rfl rfl rfl rfl fun hq S hs hr => op_fieldp lAtom_3 rfl rfl fl48_3 (vgt ((hs 44 rfl).trans rfl) hq)) ⟨rfl, rfl, rfl, rfl⟩ ?_
        refine SeqA.cons (locg [45, 41] [] rfl rfl rfl rfl rfl rfl rfl fun hq S hs hr => op_loadp rfl rfl ty3 (vgt ((hs 45 rfl).trans rfl) hq)) ⟨rfl, rfl, rfl, rfl⟩ ?_
        refine SeqA.cons (locg [1, 41] [] rfl rfl rfl rfl rfl rfl rfl fun hq S hs hr => op_move (A := rd (ksl kAtom) b2) rfl rfl (vt ((hs 1 rfl).trans rfl))) ⟨rfl, rfl, rfl, rfl⟩ ?_
        refine SeqA.cons (locg [5, 41] [] rfl rfl rfl rfl rfl rfl rfl fun hq S hs hr => op_move (A := rd (kint .i64) i4) rfl rfl (vt ((hs 5 rfl).trans rfl))) ⟨rfl, rfl, rfl, rfl⟩ ?_
        refine SeqA.cons (locg [47, 48, 41] [] rfl rfl rfl rfl rfl rfl rfl fun hq S hs hr => op_indexs' rfl rfl sl40 (vgt ((hs 47 rfl).trans rfl) hq) (vgt ((hs 48 rfl).trans rfl) hq) (opt_f he11 hq)) ⟨rfl, rfl, rfl, rfl⟩ ?_
        refine SeqA.cons (locg [49, 41] [] rfl rfl rfl rfl rfl rfl rfl fun hq S hs hr => op_fieldp lAtom_3 rfl rfl fl48_3 (vgt ((hs 49 rfl).trans rfl) hq)) ⟨rfl, rfl, rfl, rfl⟩ ?_
        refine SeqA.cons (locg [50, 41] [] rfl rfl rfl rfl rfl rfl rfl fun hq S hs hr => op_loadp rfl rfl ty3 (vgt ((hs 50 rfl).trans rfl) hq)) ⟨rfl, rfl, rfl, rfl⟩ ?_
        refine SeqA.cons (locg [46, 51, 41] [] rfl rfl rfl rfl rfl rfl rfl fun hq S hs hr => op_neq rfl rfl (vgt ((hs 46 rfl).trans rfl) hq) (vgt ((hs 51 rfl).trans rfl) hq)) ⟨rfl, rfl, rfl, rfl⟩ ?_
        refine SeqA.cons (loc [52, 41] [] rfl rfl fun S hs hr => op_any rfl rfl (vt ((hs 41 rfl).trans rfl)) (vt ((hs 52 rfl).trans rfl))) ⟨rfl, rfl, rfl, rfl⟩ ?_
        refine SeqA.cons (loc [53] [] rfl rfl fun S hs hr => op_move (A := rd kbool (((!(e6.Group == e7.Group)) || (decide (e8.Port ≠ e9.Port))) || (decide (e10.Max ≠ e11.Max)))) rfl rfl (vt ((hs 53 rfl).trans rfl))) ⟨rfl, rfl, rfl, rfl⟩ ?_
        refine SeqA.cons (locg [0, 54] [] rfl rfl rfl rfl rfl rfl rfl fun hq S hs hr => op_move (A := rd (ksl kAtom) a1) rfl rfl (vt ((hs 0 rfl).trans rfl))) ⟨rfl, rfl, rfl, rfl⟩ ?_
        refine SeqA.cons (locg [5, 54] [] rfl rfl rfl rfl rfl rfl rfl fun hq S hs hr => op_move (A := rd (kint .i64) i4) rfl rfl (vt ((hs 5 rfl).trans rfl))) ⟨rfl, rfl, rfl, rfl⟩ ?_
        refine SeqA.cons (locg [55, 56, 54] [] rfl rfl rfl rfl rfl rfl rfl fun hq S hs hr => op_indexs' rfl rfl sl40 (vgt ((hs 55 rfl).trans rfl) hq) (vgt ((hs 56 rfl).trans rfl) hq) (opt_f he12 hq)) ⟨rfl, rfl, rfl, rfl⟩ ?_
        refine SeqA.cons (locg [57, 54] [] rfl rfl rfl rfl rfl rfl rfl fun hq S hs hr => op_fieldp lAtom_0 rfl rfl fl48_0 (vgt ((hs 57 rfl).trans rfl) hq)) ⟨rfl, rfl, rfl, rfl⟩ ?_
        refine SeqA.cons (locg [58, 54] [] rfl rfl rfl rfl rfl rfl rfl fun hq S hs hr => op_loadp rfl rfl ty44 (vgt ((hs 58 rfl).trans rfl) hq)) ⟨rfl, rfl, rfl, rfl⟩ ?_
        refine SeqA.cons (locg [59, 54] [] rfl rfl rfl rfl rfl rfl rfl fun hq S hs hr => op_call (xs := [.tmp 59]) (c37 _ _ (opt_f hx13 hq)) (Ent.mk Tryz.func37 rfl rfl) rfl rfl ⟨vgt ((hs 59 rfl).trans rfl) hq, trivial⟩) ⟨rfl, rfl, rfl, rfl⟩ ?_
        refine SeqA.cons (locg [1, 54] [] rfl rfl rfl rfl rfl rfl rfl fun hq S hs hr => op_move (A := rd (ksl kAtom) b2) rfl rfl (vt ((hs 1 rfl).trans rfl))) ⟨rfl, rfl, rfl, rfl⟩ ?_
        refine SeqA.cons (locg [5, 54] [] rfl rfl rfl rfl rfl rfl rfl fun hq S hs hr => op_move (A := rd (kint .i64) i4) rfl rfl (vt ((hs 5 rfl).trans rfl))) ⟨rfl, rfl, rfl, rfl⟩ ?_
        refine SeqA.cons (locg [61, 62, 54] [] rfl rfl rfl rfl rfl rfl rfl fun hq S hs hr => op_indexs' rfl rfl sl40 (vgt ((hs 61 rfl).trans rfl) hq) (vgt ((hs 62 rfl).trans rfl) hq) (opt_f he14 hq)) ⟨rfl, rfl, rfl, rfl⟩ ?_
        refine SeqA.cons (locg [63, 54] [] rfl rfl rfl rfl rfl rfl rfl fun hq S hs hr => op_fieldp lAtom_0 rfl rfl fl48_0 (vgt ((hs 63 rfl).trans rfl) hq)) ⟨rfl, rfl, rfl, rfl⟩ ?_
        refine SeqA.cons (locg [64, 54] [] rfl rfl rfl rfl rfl rfl rfl fun hq S hs hr => op_loadp rfl rfl ty44 (vgt ((hs 64 rfl).trans rfl) hq)) ⟨rfl, rfl, rfl, rfl⟩ ?_
        refine SeqA.cons (locg [65, 54] [] rfl rfl rfl rfl rfl rfl rfl fun hq S hs hr => op_call (xs := [.tmp 65]) (c37 _ _ (opt_f hx15 hq)) (Ent.mk Tryz.func37 rfl rfl) rfl rfl ⟨vgt ((hs 65 rfl).trans rfl) hq, trivial⟩) ⟨rfl, rfl, rfl, rfl⟩ ?_
        refine SeqA.cons (locg [60, 66, 54] [] rfl rfl rfl rfl rfl rfl rfl fun hq S hs hr => op_neqk rfl rfl eqk44 (by decide) rfl eg44 (vgt ((hs 60 rfl).trans rfl) hq) (vgt ((hs 66 rfl).trans rfl) hq)) ⟨rfl, rfl, rfl, rfl⟩ ?_
        refine SeqA.cons (loc [67, 54] [] rfl rfl fun S hs hr => op_any rfl rfl (vt ((hs 54 rfl).trans rfl)) (vt ((hs 67 rfl).trans rfl))) ⟨rfl, rfl, rfl, rfl⟩ ?_
        refine AW.cond (vt rfl) (fun hc => ?_) (fun hc => ?_)
        · have h := cond_t hc h
          refine AW.seq ?_
          refine AW.region ?_
          refine AOps.cons (op_assign (A := rd kbool false) rfl rfl vb) rfl ?_
          refine AOps.nil ?_
          refine AW.ret ?_
          obtain rfl := Option.some.inj h
          exact ret1 Tryz.results19 rfl (out_tmp rfl)
        · have h := cond_f hc h
          refine AW.skip ?_
          refine AW.region ?_
          refine AOps.cons (op_move (A := rd (kint .i64) i4) rfl rfl (vt rfl)) rfl ?_
          refine AOps.cons (op_add rfl rfl (vt rfl) (vk rfl)) rfl ?_
          refine AOps.cons (op_assign (A := rd (kint .i64) (IntKind.i64.wrap (i4 + 1))) rfl rfl (vt rfl)) rfl ?_
          refine AOps.nil ?_
          subst hgo1
          exact ⟨(m5, (IntKind.i64.wrap (i4 + 1))), Nat.lt_succ_self _, ⟨trivial, h⟩, ⟨rfl, ⟨rfl, rfl, rfl, trivial⟩, trivial⟩⟩
      · have h := cond_f hc h
        refine AW.exit ?_
        refine AW.seq ?_
        refine AW.region ?_
        refine AOps.cons (op_assign (A := rd kbool true) rfl rfl vb) rfl ?_
        refine AOps.nil ?_
        refine AW.ret ?_
        obtain rfl := Option.some.inj h
        exact ret1 Tryz.results19 rfl (out_tmp rfl)
-- weirbox/weirboxlaw38.NormTells
def F4 (l1 : (List Group)) (e2 : Env) (a3 : (List Atom)) (id4 : Int) (r5 : (Vector Tern 24)) : Option Bool :=
  (F14 l1 e2 a3).bind fun x8 => (bif (!x8) then (F15).bind fun x9 => some x9 else (F17 l1 e2 a3).bind fun x10 => (F18 l1 e2 a3).bind fun x11 => (F16 x10 x11).bind fun x12 => (opt x12 (F20 l1 e2 id4 r5)).bind fun x13 => (opt x12 (F21 l1 e2 id4 r5)).bind fun x14 => (opt x12 (F19 x13 x14)).bind fun x15 => (opt (x12 && x15) (F15)).bind fun x16 => some ((x12 && x15) && x16))
theorem c4 (l1 : (List Group)) (e2 : Env) (a3 : (List Atom)) (id4 : Int) (r5 : (Vector Tern 24)) (r : Bool) (h : F4 l1 e2 a3 id4 r5 = some r) : PCon Tryz.prog 4 [rd (ksl kGroup) l1, rd kEnv e2, rd (ksl kAtom) a3, rd (kint .i64) id4, rd (karr 24 kTern) r5] (rd kbool r) := by
  refine PCon.of (Con.intro0 Tryz.func4 rfl Tryz.ntmps4 rfl fun w H => ?_)
  unfold F4 at h
  refine AW.seq ?_
  refine AW.region ?_
  refine AOps.consT rfl (op_box 7 rfl rfl (vt rfl)) ?_
  rintro _ ⟨g6, rfl⟩
  refine AOps.consT rfl (op_box 10 rfl rfl (vt rfl)) ?_
  rintro _ ⟨g7, rfl⟩
  refine AOps.cons (op_assign (A := rd kbool false) rfl rfl vb) rfl ?_
  refine AOps.nil ?_
  refine AW.seq ?_
  refine AW.seq ?_
  obtain ⟨x8, hx8, h⟩ := bsome h
  refine AW.region ?_
  refine AOps.cons (op_move (A := rd (ksl kGroup) l1) rfl rfl (vt rfl)) rfl ?_
  refine AOps.cons (op_load rfl rfl ty25 (vt rfl) (i := 7) rfl) rfl ?_
  refine AOps.cons (op_move (A := rd (ksl kAtom) a3) rfl rfl (vt rfl)) rfl ?_
  refine AOps.cons (op_call (xs := [.tmp 11, .tmp 12, .tmp 13]) (c14 _ _ _ _ hx8) (Ent.mk Tryz.func14 rfl rfl) rfl rfl ⟨vt rfl, vt rfl, vt rfl, trivial⟩) rfl ?_
  refine AOps.cons (op_not rfl rfl (vt rfl)) rfl ?_
  refine AOps.nil ?_
  refine AW.cond (vt rfl) (fun hc => ?_) (fun hc => ?_)
  · have h := cond_t hc h
    refine AW.seq ?_
    obtain ⟨x9, hx9, h⟩ := bsome h
    refine AW.region ?_
    refine AOps.cons (op_call (xs := []) (c15 _ hx9) (Ent.mk Tryz.func15 rfl rfl) rfl rfl trivial) rfl ?_
    refine AOps.cons (op_assign (A := rd kbool x9) rfl rfl (vt rfl)) rfl ?_
    refine AOps.nil ?_
    refine AW.ret ?_
    obtain rfl := Option.some.inj h
    exact ret1 Tryz.results4 rfl (out_tmp rfl)
  · have h := cond_f hc h
    refine AW.skip ?_
    refine AW.seq ?_
    obtain ⟨x10, hx10, h⟩ := bsome h
    obtain ⟨x11, hx11, h⟩ := bsome h
    obtain ⟨x12, hx12, h⟩ := bsome h
    obtain ⟨x13, hx13, h⟩ := bsome h
    obtain ⟨x14, hx14, h⟩ := bsome h
    obtain ⟨x15, hx15, h⟩ := bsome h
    obtain ⟨x16, hx16, h⟩ := bsome h
    refine AW.regionAny [⟨[0], [17], [], []⟩, ⟨[6], [18], [7], []⟩, ⟨[2], [19], [], []⟩, ⟨[17, 18, 19], [20], [], []⟩, ⟨[0], [21], [], []⟩, ⟨[6], [22], [7], []⟩, ⟨[2], [23], [], []⟩, ⟨[21, 22, 23], [24], [], []⟩, ⟨[20, 24], [25], [], []⟩, ⟨[25], [26], [], []⟩, ⟨[0, 26], [27], [], []⟩, ⟨[6, 26], [28], [7], []⟩, ⟨[3, 26], [29], [], []⟩, ⟨[9, 26], [30], [10], []⟩, ⟨[27, 28, 29, 30, 26], [31], [], []⟩, ⟨[0, 26], [32], [], []⟩, ⟨[6, 26], [33], [7], []⟩, ⟨[3, 26], [34], [], []⟩, ⟨[9, 26], [35], [10], []⟩, ⟨[32, 33, 34, 35, 26], [36], [], []⟩, ⟨[31, 36, 26], [37], [], []⟩, ⟨[37, 26], [38], [], []⟩, ⟨[38], [39], [], []⟩, ⟨[39], [40], [], []⟩, ⟨[40, 39], [41], [], []⟩, ⟨[41], [10], [], []⟩] mixed (by kernel_rfl) ?_
    refine SeqA.cons (loc [0] [] rfl rfl fun S hs hr => op_move (A := rd (ksl kGroup) l1) rfl rfl (vt ((hs 0 rfl).trans rfl))) ⟨rfl, rfl, rfl, rfl⟩ ?_
    refine SeqA.cons (loc [6] [7] rfl rfl fun S hs hr => op_load rfl rfl ty25 (vt ((hs 6 rfl).trans rfl)) (i := 7) ((hr 7 rfl).trans rfl)) ⟨rfl, rfl, rfl, rfl⟩ ?_
    refine SeqA.cons (loc [2] [] rfl rfl fun S hs hr => op_move (A := rd (ksl kAtom) a3) rfl rfl (vt ((hs 2 rfl).trans rfl))) ⟨rfl, rfl, rfl, rfl⟩ ?_
    refine SeqA.cons (loc [17, 18, 19] [] rfl rfl fun S hs hr => op_call (xs := [.tmp 17, .tmp 18, .tmp 19]) (c17 _ _ _ _ hx10) (Ent.mk Tryz.func17 rfl rfl) rfl rfl ⟨vt ((hs 17 rfl).trans rfl), vt ((hs 18 rfl).trans rfl), vt ((hs 19 rfl).trans rfl), trivial⟩) ⟨rfl, rfl, rfl, rfl⟩ ?_
    refine SeqA.cons (loc [0] [] rfl rfl fun S hs hr => op_move (A := rd (ksl kGroup) l1) rfl rfl (vt ((hs 0 rfl).trans rfl))) ⟨rfl, rfl, rfl, rfl⟩ ?_
    refine SeqA.cons (loc [6] [7] rfl rfl fun S hs hr => op_load rfl rfl ty25 (vt ((hs 6 rfl).trans rfl)) (i := 7) ((hr 7 rfl).trans rfl)) ⟨rfl, rfl, rfl, rfl⟩ ?_
    refine SeqA.cons (loc [2] [] rfl rfl fun S hs hr => op_move (A := rd (ksl kAtom) a3) rfl rfl (vt ((hs 2 rfl).trans rfl))) ⟨rfl, rfl, rfl, rfl⟩ ?_
    refine SeqA.cons (loc [21, 22, 23] [] rfl rfl fun S hs hr => op_call (xs := [.tmp 21, .tmp 22, .tmp 23]) (c18 _ _ _ _ hx11) (Ent.mk Tryz.func18 rfl rfl) rfl rfl ⟨vt ((hs 21 rfl).trans rfl), vt ((hs 22 rfl).trans rfl), vt ((hs 23 rfl).trans rfl), trivial⟩) ⟨rfl, rfl, rfl, rfl⟩ ?_
    refine SeqA.cons (loc [20, 24] [] rfl rfl fun S hs hr => op_call (xs := [.tmp 20, .tmp 24]) (c16 _ _ _ hx12) (Ent.mk Tryz.func16 rfl rfl) rfl rfl ⟨vt ((hs 20 rfl).trans rfl), vt ((hs 24 rfl).trans rfl), trivial⟩) ⟨rfl, rfl, rfl, rfl⟩ ?_
    refine SeqA.cons (loc [25] [] rfl rfl fun S hs hr => op_move (A := rd kbool x12) rfl rfl (vt ((hs 25 rfl).trans rfl))) ⟨rfl, rfl, rfl, rfl⟩ ?_
    refine SeqA.cons (locg [0, 26] [] rfl rfl rfl rfl rfl rfl rfl fun hq S hs hr => op_move (A := rd (ksl kGroup) l1) rfl rfl (vt ((hs 0 rfl).trans rfl))) ⟨rfl, rfl, rfl, rfl⟩ ?_
    refine SeqA.cons (locg [6, 26] [7] rfl rfl rfl rfl rfl rfl rfl fun hq S hs hr => op_load rfl rfl ty25 (vt ((hs 6 rfl).trans rfl)) (i := 7) ((hr 7 rfl).trans rfl)) ⟨rfl, rfl, rfl, rfl⟩ ?_
    refine SeqA.cons (locg [3, 26] [] rfl rfl rfl rfl rfl rfl rfl fun hq S hs hr => op_move (A := rd (kint .i64) id4) rfl rfl (vt ((hs 3 rfl).trans rfl))) ⟨rfl, rfl, rfl, rfl⟩ ?_
    refine SeqA.cons (locg [9, 26] [10] rfl rfl rfl rfl rfl rfl rfl fun hq S hs hr => op_load rfl rfl ty44 (vt ((hs 9 rfl).trans rfl)) (i := 10) ((hr 10 rfl).trans rfl)) ⟨rfl, rfl, rfl, rfl⟩ ?_
    refine SeqA.cons (locg [27, 28, 29, 30, 26] [] rfl rfl rfl rfl rfl rfl rfl fun hq S hs hr => op_call (xs := [.tmp 27, .tmp 28, .tmp 29, .tmp 30]) (c20 _ _ _ _ _ (opt_t hx13 hq)) (Ent.mk Tryz.func20 rfl rfl) rfl rfl ⟨vgt ((hs 27 rfl).trans rfl) hq, vgt ((hs 28 rfl).trans rfl) hq, vgt ((hs 29 rfl).trans rfl) hq, vgt ((hs 30 rfl).trans rfl) hq, trivial⟩) ⟨rfl, rfl, rfl, rfl⟩ ?_
    refine SeqA.cons (locg [0, 26] [] rfl rfl rfl rfl rfl rfl rfl fun hq S hs hr => op_move (A := rd (ksl kGroup) l1) rfl rfl (vt ((hs 0 rfl).trans rfl))) ⟨rfl, rfl, rfl, rfl⟩ ?_
    refine SeqA.cons (locg [6, 26] [7] rfl rfl rfl rfl rfl rfl rfl fun hq S hs hr => op_load rfl rfl ty25 (vt ((hs 6 rfl).trans rfl)) (i := 7) ((hr 7 rfl).trans rfl)) ⟨rfl, rfl, rfl, rfl⟩ ?_
    refine SeqA.cons (locg [3, 26] [] rfl rfl rfl rfl rfl rfl rfl fun hq S hs hr => op_move (A := rd (kint .i64) id4) rfl rfl (vt ((hs 3 rfl).trans rfl))) ⟨rfl, rfl, rfl, rfl⟩ ?_
    refine SeqA.cons (locg [9, 26] [10] rfl rfl rfl rfl rfl rfl rfl fun hq S hs hr => op_load rfl rfl ty44 (vt ((hs 9 rfl).trans rfl)) (i := 10) ((hr 10 rfl).trans rfl)) ⟨rfl, rfl, rfl, rfl⟩ ?_
    refine SeqA.cons (locg [32, 33, 34, 35, 26] [] rfl rfl rfl rfl rfl rfl rfl fun hq S hs hr => op_call (xs := [.tmp 32, .tmp 33, .tmp 34, .tmp 35]) (c21 _ _ _ _ _ (opt_t hx14 hq)) (Ent.mk Tryz.func21 rfl rfl) rfl rfl ⟨vgt ((hs 32 rfl).trans rfl) hq, vgt ((hs 33 rfl).trans rfl) hq, vgt ((hs 34 rfl).trans rfl) hq, vgt ((hs 35 rfl).trans rfl) hq, trivial⟩) ⟨rfl, rfl, rfl, rfl⟩ ?_
    refine SeqA.cons (locg [31, 36, 26] [] rfl rfl rfl rfl rfl rfl rfl fun hq S hs hr => op_call (xs := [.tmp 31, .tmp 36]) (c19 _ _ _ (opt_t hx15 hq)) (Ent.mk Tryz.func19 rfl rfl) rfl rfl ⟨vgt ((hs 31 rfl).trans rfl) hq, vgt ((hs 36 rfl).trans rfl) hq, trivial⟩) ⟨rfl, rfl, rfl, rfl⟩ ?_
    refine SeqA.cons (loc [37, 26] [] rfl rfl fun S hs hr => op_all rfl rfl (vt ((hs 26 rfl).trans rfl)) (vt ((hs 37 rfl).trans rfl))) ⟨rfl, rfl, rfl, rfl⟩ ?_
    refine SeqA.cons (loc [38] [] rfl rfl fun S hs hr => op_move (A := rd kbool (x12 && x15)) rfl rfl (vt ((hs 38 rfl).trans rfl))) ⟨rfl, rfl, rfl, rfl⟩ ?_
    refine SeqA.cons (locg [39] [] rfl rfl rfl rfl rfl rfl rfl fun hq S hs hr => op_call (xs := []) (c15 _ (opt_t hx16 hq)) (Ent.mk Tryz.func15 rfl rfl) rfl rfl trivial) ⟨rfl, rfl, rfl, rfl⟩ ?_
    refine SeqA.cons (loc [40, 39] [] rfl rfl fun S hs hr => op_all rfl rfl (vt ((hs 39 rfl).trans rfl)) (vt ((hs 40 rfl).trans rfl))) ⟨rfl, rfl, rfl, rfl⟩ ?_
    refine SeqA.cons (loc [41] [] rfl rfl fun S hs hr => op_assign (A := rd kbool ((x12 && x15) && x16)) rfl rfl (vt ((hs 41 rfl).trans rfl))) ⟨rfl, rfl, rfl, rfl⟩ ?_
    refine AW.ret ?_
    obtain rfl := Option.some.inj h
    exact ret1 Tryz.results4 rfl (out_tmp rfl)
end Go.Proofs.YtokmmcflinnfiaaGreat.W
