/- GzF8: a part of the proof. -/
import Derived.Test.YtokmmcflinnfiaaGreatGzF7
set_option linter.unusedVariables false
set_option maxRecDepth 4000
set_option linter.unusedSimpArgs false
namespace Go.Proofs.YtokmmcflinnfiaaGreat.W
open Go Go.Wb
-- weirbox/weirboxlaw30.awake
def F7 : Option Bool :=
  (F8 [(⟨1, 0, [(⟨0, 0, 0, [(⟨0, 2, 0, 0, 0, zOxm⟩ : Action), (⟨17, 0, 0, 0, 0, zOxm⟩ : Action)]⟩ : Bucket), (⟨0, 0, 0, [(⟨0, 3, 0, 0, 0, zOxm⟩ : Action)]⟩ : Bucket)]⟩ : Group)] (⟨0, []⟩ : Env) [(⟨22, 0, 0, 1, 0, zOxm⟩ : Action), (⟨17, 0, 0, 0, 0, zOxm⟩ : Action)] (Vector.replicate 24 zWide)).bind fun x1 => (F10 [(⟨1, 0, [(⟨0, 0, 0, [(⟨0, 2, 0, 0, 0, zOxm⟩ : Action), (⟨17, 0, 0, 0, 0, zOxm⟩ : Action)]⟩ : Bucket), (⟨0, 0, 0, [(⟨0, 3, 0, 0, 0, zOxm⟩ : Action)]⟩ : Bucket)]⟩ : Group)] (⟨0, []⟩ : Env) 1 (Vector.replicate 24 zWide)).bind fun x3 => (opt (decide ((x1.1.length : Int) = 2)) (lget x1.1 0)).bind fun e4 => (opt ((decide ((x1.1.length : Int) = 2)) && (decide (((Vector.get e4.Header (⟨5, by decide⟩ : _root_.Fin 24)).Lo) = (4096 : BitVec 64)))) (lget x1.1 1)).bind fun e5 => (opt (((decide ((x1.1.length : Int) = 2)) && (decide (((Vector.get e4.Header (⟨5, by decide⟩ : _root_.Fin 24)).Lo) = (4096 : BitVec 64)))) && (decide (e5.Header = (Vector.replicate 24 zWide)))) (lget x1.1 1)).bind fun e6 => (opt (((((decide ((x1.1.length : Int) = 2)) && (decide (((Vector.get e4.Header (⟨5, by decide⟩ : _root_.Fin 24)).Lo) = (4096 : BitVec 64)))) && (decide (e5.Header = (Vector.replicate 24 zWide)))) && (decide (e6.Port = 3))) && (decide (((Vector.get x1.2 (⟨5, by decide⟩ : _root_.Fin 24)).Lo) = (4096 : BitVec 64)))) (F13 x1.1 x3)).bind fun x7 => (opt ((((((decide ((x1.1.length : Int) = 2)) && (decide (((Vector.get e4.Header (⟨5, by decide⟩ : _root_.Fin 24)).Lo) = (4096 : BitVec 64)))) && (decide (e5.Header = (Vector.replicate 24 zWide)))) && (decide (e6.Port = 3))) && (decide (((Vector.get x1.2 (⟨5, by decide⟩ : _root_.Fin 24)).Lo) = (4096 : BitVec 64)))) && x7) (odrop x1.1 1)).bind fun s8 => (opt ((((((decide ((x1.1.length : Int) = 2)) && (decide (((Vector.get e4.Header (⟨5, by decide⟩ : _root_.Fin 24)).Lo) = (4096 : BitVec 64)))) && (decide (e5.Header = (Vector.replicate 24 zWide)))) && (decide (e6.Port = 3))) && (decide (((Vector.get x1.2 (⟨5, by decide⟩ : _root_.Fin 24)).Lo) = (4096 : BitVec 64)))) && x7) (F13 x1.1 s8)).bind fun x9 => some (((((((decide ((x1.1.length : Int) = 2)) && (decide (((Vector.get e4.Header (⟨5, by decide⟩ : _root_.Fin 24)).Lo) = (4096 : BitVec 64)))) && (decide (e5.Header = (Vector.replicate 24 zWide)))) && (decide (e6.Port = 3))) && (decide (((Vector.get x1.2 (⟨5, by decide⟩ : _root_.Fin 24)).Lo) = (4096 : BitVec 64)))) && x7) && (!x9))
theorem c7 (r : Bool) (h : F7 = some r) : PCon Tryz.prog 7 [] (rd kbool r) := by
  refine PCon.of (Con.intro0 Tryz.func7 rfl Tryz.ntmps7 rfl fun w H => ?_)
  unfold F7 at h
  refine AW.seq ?_
  refine AW.region ?_
  refine AOps.cons (op_assign (A := rd kbool false) rfl rfl vb) rfl ?_
  refine AOps.nil ?_
  refine AW.seq ?_
  refine AW.region ?_
  refine AOps.cons (op_build (ps := [(0, .const (Value.int IntKind.i64 0)), (1, .const (Value.int IntKind.i64 2))]) (x := (⟨0, 2, 0, 0, 0, zOxm⟩ : Action)) rfl rfl rfl (by kernel_rfl) zr62 ⟨_, _, lAction_0, _, by kernel_rfl, (vk rfl), _, _, lAction_1, _, by kernel_rfl, (vk rfl), rfl⟩) rfl ?_
  refine AOps.cons (op_build (ps := [(0, .const (Value.int IntKind.i64 17))]) (x := (⟨17, 0, 0, 0, 0, zOxm⟩ : Action)) rfl rfl rfl (by kernel_rfl) zr62 ⟨_, _, lAction_0, _, by kernel_rfl, (vk rfl), rfl⟩) rfl ?_
  refine AOps.cons (op_buildSliceR (ps := [(0, .tmp 5), (1, .tmp 6)]) (l := [(⟨0, 2, 0, 0, 0, zOxm⟩ : Action), (⟨17, 0, 0, 0, 0, zOxm⟩ : Action)]) rfl rfl sl26 zr62 rfl rfl ⟨_, _, Lens.idx 2 kAction 0 (by decide), _, rfl, (vt rfl), _, _, Lens.idx 2 kAction 1 (by decide), _, rfl, (vt rfl), rfl⟩ rfl) rfl ?_
  refine AOps.cons (op_build (ps := [(3, .tmp 7)]) (x := (⟨0, 0, 0, [(⟨0, 2, 0, 0, 0, zOxm⟩ : Action), (⟨17, 0, 0, 0, 0, zOxm⟩ : Action)]⟩ : Bucket)) rfl rfl rfl (by kernel_rfl) zr64 ⟨_, _, lBucket_3, _, by kernel_rfl, (vt rfl), rfl⟩) rfl ?_
  refine AOps.cons (op_build (ps := [(0, .const (Value.int IntKind.i64 0)), (1, .const (Value.int IntKind.i64 3))]) (x := (⟨0, 3, 0, 0, 0, zOxm⟩ : Action)) rfl rfl rfl (by kernel_rfl) zr62 ⟨_, _, lAction_0, _, by kernel_rfl, (vk rfl), _, _, lAction_1, _, by kernel_rfl, (vk rfl), rfl⟩) rfl ?_
  refine AOps.cons (op_buildSliceR (ps := [(0, .tmp 9)]) (l := [(⟨0, 3, 0, 0, 0, zOxm⟩ : Action)]) rfl rfl sl26 zr62 rfl rfl ⟨_, _, Lens.idx 1 kAction 0 (by decide), _, rfl, (vt rfl), rfl⟩ rfl) rfl ?_
  refine AOps.cons (op_build (ps := [(3, .tmp 10)]) (x := (⟨0, 0, 0, [(⟨0, 3, 0, 0, 0, zOxm⟩ : Action)]⟩ : Bucket)) rfl rfl rfl (by kernel_rfl) zr64 ⟨_, _, lBucket_3, _, by kernel_rfl, (vt rfl), rfl⟩) rfl ?_
  refine AOps.cons (op_buildSliceR (ps := [(0, .tmp 8), (1, .tmp 11)]) (l := [(⟨0, 0, 0, [(⟨0, 2, 0, 0, 0, zOxm⟩ : Action), (⟨17, 0, 0, 0, 0, zOxm⟩ : Action)]⟩ : Bucket), (⟨0, 0, 0, [(⟨0, 3, 0, 0, 0, zOxm⟩ : Action)]⟩ : Bucket)]) rfl rfl sl65 zr64 rfl rfl ⟨_, _, Lens.idx 2 kBucket 0 (by decide), _, rfl, (vt rfl), _, _, Lens.idx 2 kBucket 1 (by decide), _, rfl, (vt rfl), rfl⟩ rfl) rfl ?_
  refine AOps.cons (op_build (ps := [(0, .const (Value.int IntKind.i64 1)), (2, .tmp 12)]) (x := (⟨1, 0, [(⟨0, 0, 0, [(⟨0, 2, 0, 0, 0, zOxm⟩ : Action), (⟨17, 0, 0, 0, 0, zOxm⟩ : Action)]⟩ : Bucket), (⟨0, 0, 0, [(⟨0, 3, 0, 0, 0, zOxm⟩ : Action)]⟩ : Bucket)]⟩ : Group)) rfl rfl rfl (by kernel_rfl) zr67 ⟨_, _, lGroup_0, _, by kernel_rfl, (vk rfl), _, _, lGroup_2, _, by kernel_rfl, (vt rfl), rfl⟩) rfl ?_
  refine AOps.cons (op_buildSliceR (ps := [(0, .tmp 13)]) (l := [(⟨1, 0, [(⟨0, 0, 0, [(⟨0, 2, 0, 0, 0, zOxm⟩ : Action), (⟨17, 0, 0, 0, 0, zOxm⟩ : Action)]⟩ : Bucket), (⟨0, 0, 0, [(⟨0, 3, 0, 0, 0, zOxm⟩ : Action)]⟩ : Bucket)]⟩ : Group)]) rfl rfl sl22 zr67 rfl rfl ⟨_, _, Lens.idx 1 kGroup 0 (by decide), _, rfl, (vt rfl), rfl⟩ rfl) rfl ?_
  refine AOps.cons (op_assign (A := rd (ksl kGroup) [(⟨1, 0, [(⟨0, 0, 0, [(⟨0, 2, 0, 0, 0, zOxm⟩ : Action), (⟨17, 0, 0, 0, 0, zOxm⟩ : Action)]⟩ : Bucket), (⟨0, 0, 0, [(⟨0, 3, 0, 0, 0, zOxm⟩ : Action)]⟩ : Bucket)]⟩ : Group)]) rfl rfl (vt rfl)) rfl ?_
  refine AOps.nil ?_
  refine AW.seq ?_
  obtain ⟨x1, hx1, h⟩ := bsome h
  refine AW.region ?_
  refine AOps.cons (op_move (A := rd (ksl kGroup) [(⟨1, 0, [(⟨0, 0, 0, [(⟨0, 2, 0, 0, 0, zOxm⟩ : Action), (⟨17, 0, 0, 0, 0, zOxm⟩ : Action)]⟩ : Bucket), (⟨0, 0, 0, [(⟨0, 3, 0, 0, 0, zOxm⟩ : Action)]⟩ : Bucket)]⟩ : Group)]) rfl rfl (vt rfl)) rfl ?_
  refine AOps.cons (op_build (ps := []) (x := (⟨0, []⟩ : Env)) rfl rfl rfl (by kernel_rfl) zr25 rfl) rfl ?_
  refine AOps.cons (op_build (ps := [(0, .const (Value.int IntKind.i64 22)), (3, .const (Value.int IntKind.i64 1))]) (x := (⟨22, 0, 0, 1, 0, zOxm⟩ : Action)) rfl rfl rfl (by kernel_rfl) zr62 ⟨_, _, lAction_0, _, by kernel_rfl, (vk rfl), _, _, lAction_3, _, by kernel_rfl, (vk rfl), rfl⟩) rfl ?_
  refine AOps.cons (op_build (ps := [(0, .const (Value.int IntKind.i64 17))]) (x := (⟨17, 0, 0, 0, 0, zOxm⟩ : Action)) rfl rfl rfl (by kernel_rfl) zr62 ⟨_, _, lAction_0, _, by kernel_rfl, (vk rfl), rfl⟩) rfl ?_
  refine AOps.cons (op_buildSliceR (ps := [(0, .tmp 18), (1, .tmp 19)]) (l := [(⟨22, 0, 0, 1, 0, zOxm⟩ : Action), (⟨17, 0, 0, 0, 0, zOxm⟩ : Action)]) rfl rfl sl26 zr62 rfl rfl ⟨_, _, Lens.idx 2 kAction 0 (by decide), _, rfl, (vt rfl), _, _, Lens.idx 2 kAction 1 (by decide), _, rfl, (vt rfl), rfl⟩ rfl) rfl ?_
  refine AOps.cons (op_build (ps := []) (x := (Vector.replicate 24 zWide)) rfl rfl rfl (by kernel_rfl) zr31 rfl) rfl ?_
  refine AOps.cons (op_call (xs := [.tmp 16, .tmp 17, .tmp 20, .tmp 21]) (c8 _ _ _ _ _ hx1) (Ent.mk Tryz.func8 rfl rfl) rfl rfl ⟨vt rfl, vt rfl, vt rfl, vt rfl, trivial⟩) rfl ?_
  refine AOps.cons (op_move (A := tup2 (rd (ksl kOut) x1.1) (rd (karr 24 kWide) x1.2)) rfl rfl (vt rfl)) rfl ?_
  refine AOps.cons (op_fst rfl rfl (vt rfl)) rfl ?_
  refine AOps.cons (op_snd rfl rfl (vt rfl)) rfl ?_
  refine AOps.consT rfl (op_alloc 4 rfl rfl zr31) ?_
  rintro _ ⟨g2, rfl⟩
  refine AOps.cons (op_assign (A := rd (ksl kOut) x1.1) rfl rfl (vt rfl)) rfl ?_
  refine AOps.cons (op_store rfl rfl ty31 (vt rfl) (i := 4) rfl (vt rfl)) rfl ?_
  refine AOps.nil ?_
  refine AW.seq ?_
  obtain ⟨x3, hx3, h⟩ := bsome h
  refine AW.region ?_
  refine AOps.cons (op_move (A := rd (ksl kGroup) [(⟨1, 0, [(⟨0, 0, 0, [(⟨0, 2, 0, 0, 0, zOxm⟩ : Action), (⟨17, 0, 0, 0, 0, zOxm⟩ : Action)]⟩ : Bucket), (⟨0, 0, 0, [(⟨0, 3, 0, 0, 0, zOxm⟩ : Action)]⟩ : Bucket)]⟩ : Group)]) rfl rfl (vt rfl)) rfl ?_
  refine AOps.cons (op_build (ps := []) (x := (⟨0, []⟩ : Env)) rfl rfl rfl (by kernel_rfl) zr25 rfl) rfl ?_
  refine AOps.cons (op_build (ps := []) (x := (Vector.replicate 24 zWide)) rfl rfl rfl (by kernel_rfl) zr31 rfl) rfl ?_
  refine AOps.cons (op_call (xs := [.tmp 25, .tmp 26, .const (Value.int IntKind.i64 1), .tmp 27]) (c10 _ _ _ _ _ hx3) (Ent.mk Tryz.func10 rfl rfl) rfl rfl ⟨vt rfl, vt rfl, vk rfl, vt rfl, trivial⟩) rfl ?_
  refine AOps.cons (op_assign (A := rd (ksl kOut) x3) rfl rfl (vt rfl)) rfl ?_
  refine AOps.nil ?_
  refine AW.seq ?_
  obtain ⟨e4, he4, h⟩ := bsome h
  obtain ⟨e5, he5, h⟩ := bsome h
  obtain ⟨e6, he6, h⟩ := bsome h
  obtain ⟨x7, hx7, h⟩ := bsome h
  obtain ⟨s8, hs8, h⟩ := bsome h
  obtain ⟨x9, hx9, h⟩ := bsome h
  refine AW.region ?_
  refine AOps.cons (op_move (A := rd (ksl kOut) x1.1) rfl rfl (vt rfl)) rfl ?_
  refine AOps.cons (op_len' rfl rfl sl34 (vt rfl)) rfl ?_
  refine AOps.cons (op_eql rfl rfl (vt rfl) (vk rfl)) rfl ?_
  refine AOps.cons (op_move (A := rd kbool (decide ((x1.1.length : Int) = 2))) rfl rfl (vt rfl)) rfl ?_
  refine AOps.consG (OpG.guard rfl rfl rfl rfl rfl fun hq => op_move (A := rd (ksl kOut) x1.1) rfl rfl (vt rfl)) ?_
  refine AOps.consG (OpG.guard rfl rfl rfl rfl rfl fun hq => op_indexs' rfl rfl sl34 (vgt rfl hq) (vk rfl) (opt_t he4 hq)) ?_
  refine AOps.consG (OpG.guard rfl rfl rfl rfl rfl fun hq => op_fieldp lOut_2 rfl rfl fl69_2 (vgt rfl hq)) ?_
  refine AOps.consG (OpG.guard rfl rfl rfl rfl rfl fun hq => op_indexp' rfl rfl ar31 (vgt rfl hq) (vk rfl) rfl) ?_
  refine AOps.consG (OpG.guard rfl rfl rfl rfl rfl fun hq => op_fieldp lWide_1 rfl rfl fl29_1 (vgt rfl hq)) ?_
  refine AOps.consG (OpG.guard rfl rfl rfl rfl rfl fun hq => op_loadp rfl rfl ty27 (vgt rfl hq)) ?_
  refine AOps.consG (OpG.guard rfl rfl rfl rfl rfl fun hq => op_eqlu rfl rfl (vgt rfl hq) (vku (4096 : BitVec 64) rfl)) ?_
  refine AOps.cons (op_all rfl rfl (vt rfl) (vt rfl)) rfl ?_
  refine AOps.cons (op_move (A := rd kbool ((decide ((x1.1.length : Int) = 2)) && (decide (((Vector.get e4.Header (⟨5, by decide⟩ : _root_.Fin 24)).Lo) = (4096 : BitVec 64))))) rfl rfl (vt rfl)) rfl ?_
  refine AOps.consG (OpG.guard rfl rfl rfl rfl rfl fun hq => op_move (A := rd (ksl kOut) x1.1) rfl rfl (vt rfl)) ?_
  refine AOps.consG (OpG.guard rfl rfl rfl rfl rfl fun hq => op_indexs' rfl rfl sl34 (vgt rfl hq) (vk rfl) (opt_t he5 hq)) ?_
  refine AOps.consG (OpG.guard rfl rfl rfl rfl rfl fun hq => op_fieldp lOut_2 rfl rfl fl69_2 (vgt rfl hq)) ?_
  refine AOps.consG (OpG.guard rfl rfl rfl rfl rfl fun hq => op_loadp rfl rfl ty31 (vgt rfl hq)) ?_
  refine AOps.consG (OpG.guard rfl rfl rfl rfl rfl fun hq => op_build (ps := []) (x := (Vector.replicate 24 zWide)) rfl rfl rfl (by kernel_rfl) zr31 rfl) ?_
  refine AOps.consG (OpG.guard rfl rfl rfl rfl rfl fun hq => op_eqlk rfl rfl eqk31 (by decide) rfl eg31 (vgt rfl hq) (vgt rfl hq)) ?_
  refine AOps.cons (op_all rfl rfl (vt rfl) (vt rfl)) rfl ?_
  refine AOps.cons (op_move (A := rd kbool (((decide ((x1.1.length : Int) = 2)) && (decide (((Vector.get e4.Header (⟨5, by decide⟩ : _root_.Fin 24)).Lo) = (4096 : BitVec 64)))) && (decide (e5.Header = (Vector.replicate 24 zWide))))) rfl rfl (vt rfl)) rfl ?_
  refine AOps.consG (OpG.guard rfl rfl rfl rfl rfl fun hq => op_move (A := rd (ksl kOut) x1.1) rfl rfl (vt rfl)) ?_
  refine AOps.consG (OpG.guard rfl rfl rfl rfl rfl fun hq => op_indexs' rfl rfl sl34 (vgt rfl hq) (vk rfl) (opt_t he6 hq)) ?_
  refine AOps.consG (OpG.guard rfl rfl rfl rfl rfl fun hq => op_fieldp lOut_0 rfl rfl fl69_0 (vgt rfl hq)) ?_
  refine AOps.consG (OpG.guard rfl rfl rfl rfl rfl fun hq => op_loadp rfl rfl ty3 (vgt rfl hq)) ?_
  refine AOps.consG (OpG.guard rfl rfl rfl rfl rfl fun hq => op_eql rfl rfl (vgt rfl hq) (vk rfl)) ?_
  refine AOps.cons (op_all rfl rfl (vt rfl) (vt rfl)) rfl ?_
  refine AOps.cons (op_move (A := rd kbool ((((decide ((x1.1.length : Int) = 2)) && (decide (((Vector.get e4.Header (⟨5, by decide⟩ : _root_.Fin 24)).Lo) = (4096 : BitVec 64)))) && (decide (e5.Header = (Vector.replicate 24 zWide)))) && (decide (e6.Port = 3)))) rfl rfl (vt rfl)) rfl ?_
  refine AOps.consG (OpG.guard rfl rfl rfl rfl rfl fun hq => op_index' rfl rfl ar31 (vt rfl) (vk rfl) rfl) ?_
  refine AOps.consG (OpG.guard rfl rfl rfl rfl rfl fun hq => op_field lWide_1 rfl rfl fl29_1 (vgt rfl hq)) ?_
  refine AOps.consG (OpG.guard rfl rfl rfl rfl rfl fun hq => op_load rfl rfl ty27 (vgt rfl hq) (i := 4) rfl) ?_
  refine AOps.consG (OpG.guard rfl rfl rfl rfl rfl fun hq => op_eqlu rfl rfl (vgt rfl hq) (vku (4096 : BitVec 64) rfl)) ?_
  refine AOps.cons (op_all rfl rfl (vt rfl) (vt rfl)) rfl ?_
  refine AOps.cons (op_move (A := rd kbool (((((decide ((x1.1.length : Int) = 2)) && (decide (((Vector.get e4.Header (⟨5, by decide⟩ : _root_.Fin 24)).Lo) = (4096 : BitVec 64)))) && (decide (e5.Header = (Vector.replicate 24 zWide)))) && (decide (e6.Port = 3))) && (decide (((Vector.get x1.2 (⟨5, by decide⟩ : _root_.Fin 24)).Lo) = (4096 : BitVec 64))))) rfl rfl (vt rfl)) rfl ?_
  refine AOps.consG (OpG.guard rfl rfl rfl rfl rfl fun hq => op_move (A := rd (ksl kOut) x1.1) rfl rfl (vt rfl)) ?_
  refine AOps.consG (OpG.guard rfl rfl rfl rfl rfl fun hq => op_move (A := rd (ksl kOut) x3) rfl rfl (vt rfl)) ?_
  refine AOps.consG (OpG.guard rfl rfl rfl rfl rfl fun hq => op_call (xs := [.tmp 63, .tmp 64]) (c13 _ _ _ (opt_t hx7 hq)) (Ent.mk Tryz.func13 rfl rfl) rfl rfl ⟨vgt rfl hq, vgt rfl hq, trivial⟩) ?_
  refine AOps.cons (op_all rfl rfl (vt rfl) (vt rfl)) rfl ?_
  refine AOps.cons (op_move (A := rd kbool ((((((decide ((x1.1.length : Int) = 2)) && (decide (((Vector.get e4.Header (⟨5, by decide⟩ : _root_.Fin 24)).Lo) = (4096 : BitVec 64)))) && (decide (e5.Header = (Vector.replicate 24 zWide)))) && (decide (e6.Port = 3))) && (decide (((Vector.get x1.2 (⟨5, by decide⟩ : _root_.Fin 24)).Lo) = (4096 : BitVec 64)))) && x7)) rfl rfl (vt rfl)) rfl ?_
  refine AOps.consG (OpG.guard rfl rfl rfl rfl rfl fun hq => op_move (A := rd (ksl kOut) x1.1) rfl rfl (vt rfl)) ?_
  refine AOps.consG (OpG.guard rfl rfl rfl rfl rfl fun hq => op_move (A := rd (ksl kOut) x1.1) rfl rfl (vt rfl)) ?_
  refine AOps.consG (OpG.guard rfl rfl rfl rfl rfl fun hq => op_slice_l' (opt_t hs8 hq) rfl rfl sl34 (vgt rfl hq) (vk rfl)) ?_
  refine AOps.consG (OpG.guard rfl rfl rfl rfl rfl fun hq => op_call (xs := [.tmp 68, .tmp 70]) (c13 _ _ _ (opt_t hx9 hq)) (Ent.mk Tryz.func13 rfl rfl) rfl rfl ⟨vgt rfl hq, vgt rfl hq, trivial⟩) ?_
  refine AOps.consG (OpG.guard rfl rfl rfl rfl rfl fun hq => op_not rfl rfl (vgt rfl hq)) ?_
  refine AOps.cons (op_all rfl rfl (vt rfl) (vt rfl)) rfl ?_
  refine AOps.cons (op_assign (A := rd kbool (((((((decide ((x1.1.length : Int) = 2)) && (decide (((Vector.get e4.Header (⟨5, by decide⟩ : _root_.Fin 24)).Lo) = (4096 : BitVec 64)))) && (decide (e5.Header = (Vector.replicate 24 zWide)))) && (decide (e6.Port = 3))) && (decide (((Vector.get x1.2 (⟨5, by decide⟩ : _root_.Fin 24)).Lo) = (4096 : BitVec 64)))) && x7) && (!x9))) rfl rfl (vt rfl)) rfl ?_
  refine AOps.nil ?_
  refine AW.ret ?_
  obtain rfl := Option.some.inj h
  exact ret1 Tryz.results7 rfl (out_tmp rfl)
-- weirbox/weirboxref24.place
def F102_l1 (l1 : (List Group)) (id2 : Int) : Nat → Int → Option Int
  | 0, _ => none
  | m5 + 1, i4 => (bif (decide (i4 < (l1.length : Int))) then (lget l1 i4).bind fun e6 => (bif (decide (e6.ID = id2)) then some i4 else (F102_l1 l1 id2 m5) (IntKind.i64.wrap (i4 + 1))) else some (-1))
def F102 (l1 : (List Group)) (id2 : Int) : Option Int :=
  F102_l1 l1 id2 ((((l1.length : Int) : Int) - 0).toNat + 1) 0
theorem c102 (l1 : (List Group)) (id2 : Int) (r : Int) (h : F102 l1 id2 = some r) : PCon Tryz.prog 102 [rd (ksl kGroup) l1, rd (kint .i64) id2] (rd (kint .i64) r) := by
  refine PCon.of (Con.intro0 Tryz.func102 rfl Tryz.ntmps102 rfl fun w H => ?_)
  unfold F102 at h
  refine AW.seq ?_
  refine AW.region ?_
  refine AOps.cons (op_assign (A := rd (kint .i64) 0) rfl rfl (vk rfl)) rfl ?_
  refine AOps.nil ?_
  refine AW.seq ?_
  refine AW.seq ?_
  refine AW.region ?_
  refine AOps.cons (op_assign (A := rd (kint .i64) 0) rfl rfl (vk rfl)) rfl ?_
  refine AOps.nil ?_
  refine AW.block ?_
  refine AW.loopG (d := []) (ν := Nat × Int) (fun n => True ∧ F102_l1 l1 id2 n.1 n.2 = some r) (fun n => n.1) (fun n => [(0, rd (ksl kGroup) l1), (1, rd (kint .i64) id2), (5, rd (kint .i64) n.2)]) (fun n => []) (((((l1.length : Int) : Int) - 0).toNat + 1), 0) ⟨trivial, h⟩ ⟨rfl, ⟨rfl, rfl, rfl, trivial⟩, trivial⟩ ?_
  rintro ⟨m5, i4⟩ ⟨hsf1, h⟩
  change True at hsf1
  change F102_l1 l1 id2 m5 i4 = some r at h
  change AW _ _ _ ⟨slots [(0, rd (ksl kGroup) l1), (1, rd (kint .i64) id2), (5, rd (kint .i64) i4)], ress [], _⟩
  cases m5 with
  | zero => cases h
  | succ m5 =>
    unfold F102_l1 at h
    generalize hgo1 : F102_l1 l1 id2 m5 = go1 at h
    refine AW.seq ?_
    refine AW.seq ?_
    refine AW.region ?_
    refine AOps.cons (op_move (A := rd (kint .i64) i4) rfl rfl (vt rfl)) rfl ?_
    refine AOps.cons (op_move (A := rd (ksl kGroup) l1) rfl rfl (vt rfl)) rfl ?_
    refine AOps.cons (op_len' rfl rfl sl22 (vt rfl)) rfl ?_
    refine AOps.cons (op_lss rfl rfl (vt rfl) (vt rfl)) rfl ?_
    refine AOps.nil ?_
    refine AW.cond (vt rfl) (fun hc => ?_) (fun hc => ?_)
    · have h := cond_t hc h
      refine AW.skip ?_
      refine AW.seq ?_
      refine AW.block ?_
      refine AW.seq ?_
      obtain ⟨e6, he6, h⟩ := bsome h
      refine AW.region ?_
      refine AOps.cons (op_move (A := rd (ksl kGroup) l1) rfl rfl (vt rfl)) rfl ?_
      refine AOps.cons (op_move (A := rd (kint .i64) i4) rfl rfl (vt rfl)) rfl ?_
      refine AOps.cons (op_indexs' rfl rfl sl22 (vt rfl) (vt rfl) he6) rfl ?_
      refine AOps.cons (op_fieldp lGroup_0 rfl rfl fl67_0 (vt rfl)) rfl ?_
      refine AOps.cons (op_loadp rfl rfl ty3 (vt rfl)) rfl ?_
      refine AOps.cons (op_move (A := rd (kint .i64) id2) rfl rfl (vt rfl)) rfl ?_
      refine AOps.cons (op_eql rfl rfl (vt rfl) (vt rfl)) rfl ?_
      refine AOps.nil ?_
      refine AW.cond (vt rfl) (fun hc => ?_) (fun hc => ?_)
      · have h := cond_t hc h
        refine AW.seq ?_
        refine AW.region ?_
        refine AOps.cons (op_move (A := rd (kint .i64) i4) rfl rfl (vt rfl)) rfl ?_
        refine AOps.cons (op_assign (A := rd (kint .i64) i4) rfl rfl (vt rfl)) rfl ?_
        refine AOps.nil ?_
        refine AW.ret ?_
        obtain rfl := Option.some.inj h
        exact ret1 Tryz.results102 rfl (out_tmp rfl)
      · have h := cond_f hc h
        refine AW.skip ?_
        refine AW.region ?_
        refine AOps.cons (op_move (A := rd (kint .i64) i4) rfl rfl (vt rfl)) rfl ?_
        refine AOps.cons (op_add rfl rfl (vt rfl) (vk rfl)) rfl ?_
        refine AOps.cons (op_assign (A := rd (kint .i64) (IntKind.i64.wrap (i4 + 1))) rfl rfl (vt rfl)) rfl ?_
        refine AOps.nil ?_
        subst hgo1
        exact ⟨(m5, (IntKind.i64.wrap (i4 + 1))), Nat.lt_succ_self _, ⟨trivial, h⟩, ⟨rfl, ⟨rfl, rfl, rfl, trivial⟩, trivial⟩⟩
    · have h := cond_f hc h
      refine AW.exit ?_
      refine AW.seq ?_
      refine AW.region ?_
      refine AOps.cons (op_assign (A := rd (kint .i64) (-1)) rfl rfl (vk rfl)) rfl ?_
      refine AOps.nil ?_
      refine AW.ret ?_
      obtain rfl := Option.some.inj h
      exact ret1 Tryz.results102 rfl (out_tmp rfl)
-- weirbox/weirboxref24.Find
def F57 (l1 : (List Group)) (id2 : Int) : Option (Group × Bool) :=
  (F102 l1 id2).bind fun x4 => (bif (decide (x4 ≥ 0)) then (lget l1 x4).bind fun e5 => some (e5, true) else some ((⟨0, 0, []⟩ : Group), false))
theorem c57 (l1 : (List Group)) (id2 : Int) (r : (Group × Bool)) (h : F57 l1 id2 = some r) : PCon Tryz.prog 57 [rd (ksl kGroup) l1, rd (kint .i64) id2] (tup2 (rd kGroup r.1) (rd kbool r.2)) := by
  refine PCon.of (Con.intro0 Tryz.func57 rfl Tryz.ntmps57 rfl fun w H => ?_)
  unfold F57 at h
  refine AW.seq ?_
  refine AW.region ?_
  refine AOps.consT rfl (op_alloc 5 rfl rfl zr67) ?_
  rintro _ ⟨g3, rfl⟩
  refine AOps.cons (op_assign (A := rd kbool false) rfl rfl vb) rfl ?_
  refine AOps.nil ?_
  refine AW.seq ?_
  refine AW.seq ?_
  obtain ⟨x4, hx4, h⟩ := bsome h
  refine AW.region ?_
  refine AOps.cons (op_move (A := rd (ksl kGroup) l1) rfl rfl (vt rfl)) rfl ?_
  refine AOps.cons (op_move (A := rd (kint .i64) id2) rfl rfl (vt rfl)) rfl ?_
  refine AOps.cons (op_call (xs := [.tmp 7, .tmp 8]) (c102 _ _ _ hx4) (Ent.mk Tryz.func102 rfl rfl) rfl rfl ⟨vt rfl, vt rfl, trivial⟩) rfl ?_
  refine AOps.cons (op_assign (A := rd (kint .i64) x4) rfl rfl (vt rfl)) rfl ?_
  refine AOps.nil ?_
  refine AW.seq ?_
  refine AW.region ?_
  refine AOps.cons (op_move (A := rd (kint .i64) x4) rfl rfl (vt rfl)) rfl ?_
  refine AOps.cons (op_geq rfl rfl (vt rfl) (vk rfl)) rfl ?_
  refine AOps.nil ?_
  refine AW.cond (vt rfl) (fun hc => ?_) (fun hc => ?_)
  · have h := cond_t hc h
    refine AW.seq ?_
    obtain ⟨e5, he5, h⟩ := bsome h
    refine AW.region ?_
    refine AOps.cons (op_move (A := rd (ksl kGroup) l1) rfl rfl (vt rfl)) rfl ?_
    refine AOps.cons (op_move (A := rd (kint .i64) x4) rfl rfl (vt rfl)) rfl ?_
    refine AOps.cons (op_indexs' rfl rfl sl22 (vt rfl) (vt rfl) he5) rfl ?_
    refine AOps.cons (op_loadp rfl rfl ty67 (vt rfl)) rfl ?_
    refine AOps.cons (op_store rfl rfl ty67 (vt rfl) (i := 5) rfl (vt rfl)) rfl ?_
    refine AOps.cons (op_assign (A := rd kbool true) rfl rfl vb) rfl ?_
    refine AOps.nil ?_
    refine AW.ret ?_
    obtain rfl := Option.some.inj h
    exact ret2 Tryz.results57 rfl (out_cell rfl (i := 5) rfl ty67) (out_tmp rfl)
  · have h := cond_f hc h
    refine AW.skip ?_
    refine AW.seq ?_
    refine AW.region ?_
    refine AOps.cons (op_build (ps := []) (x := (⟨0, 0, []⟩ : Group)) rfl rfl rfl (by kernel_rfl) zr67 rfl) rfl ?_
    refine AOps.cons (op_store rfl rfl ty67 (vt rfl) (i := 5) rfl (vt rfl)) rfl ?_
    refine AOps.cons (op_assign (A := rd kbool false) rfl rfl vb) rfl ?_
    refine AOps.nil ?_
    refine AW.ret ?_
    obtain rfl := Option.some.inj h
    exact ret2 Tryz.results57 rfl (out_cell rfl (i := 5) rfl ty67) (out_tmp rfl)
-- weirbox/weirboxref29.Which
def F103 (e1 : Env) (n2 : Int) : Option Int :=
  (bif (decide (n2 < 1)) then some 0 else (omod e1.Turn n2).bind fun q4 => (bif (decide (q4 < 0)) then some (IntKind.i64.wrap (q4 + n2)) else some q4))
theorem c103 (e1 : Env) (n2 : Int) (r : Int) (h : F103 e1 n2 = some r) : PCon Tryz.prog 103 [rd kEnv e1, rd (kint .i64) n2] (rd (kint .i64) r) := by
  refine PCon.of (Con.intro0 Tryz.func103 rfl Tryz.ntmps103 rfl fun w H => ?_)
  unfold F103 at h
  refine AW.seq ?_
  refine AW.region ?_
  refine AOps.consT rfl (op_box 3 rfl rfl (vt rfl)) ?_
  rintro _ ⟨g3, rfl⟩
  refine AOps.cons (op_assign (A := rd (kint .i64) 0) rfl rfl (vk rfl)) rfl ?_
  refine AOps.nil ?_
  refine AW.seq ?_
  refine AW.seq ?_
  refine AW.region ?_
  refine AOps.cons (op_move (A := rd (kint .i64) n2) rfl rfl (vt rfl)) rfl ?_
  refine AOps.cons (op_lss rfl rfl (vt rfl) (vk rfl)) rfl ?_
  refine AOps.nil ?_
  refine AW.cond (vt rfl) (fun hc => ?_) (fun hc => ?_)
  · have h := cond_t hc h
    refine AW.seq ?_
    refine AW.region ?_
    refine AOps.cons (op_assign (A := rd (kint .i64) 0) rfl rfl (vk rfl)) rfl ?_
    refine AOps.nil ?_
    refine AW.ret ?_
    obtain rfl := Option.some.inj h
    exact ret1 Tryz.results103 rfl (out_tmp rfl)
  · have h := cond_f hc h
    refine AW.skip ?_
    refine AW.seq ?_
    obtain ⟨q4, hq4, h⟩ := bsome h
    refine AW.region ?_
    refine AOps.cons (op_field lEnv_0 rfl rfl fl25_0 (vt rfl)) rfl ?_
    refine AOps.cons (op_load rfl rfl ty3 (vt rfl) (i := 3) rfl) rfl ?_
    refine AOps.cons (op_move (A := rd (kint .i64) n2) rfl rfl (vt rfl)) rfl ?_
    refine AOps.cons (op_rem rfl rfl (vt rfl) (vt rfl) hq4) rfl ?_
    refine AOps.cons (op_assign (A := rd (kint .i64) q4) rfl rfl (vt rfl)) rfl ?_
    refine AOps.nil ?_
    refine AW.seq ?_
    refine AW.seq ?_
    refine AW.region ?_
    refine AOps.cons (op_move (A := rd (kint .i64) q4) rfl rfl (vt rfl)) rfl ?_
    refine AOps.cons (op_lss rfl rfl (vt rfl) (vk rfl)) rfl ?_
    refine AOps.nil ?_
    refine AW.cond (vt rfl) (fun hc => ?_) (fun hc => ?_)
    · have h := cond_t hc h
      refine AW.region ?_
      refine AOps.cons (op_move (A := rd (kint .i64) q4) rfl rfl (vt rfl)) rfl ?_
      refine AOps.cons (op_move (A := rd (kint .i64) n2) rfl rfl (vt rfl)) rfl ?_
      refine AOps.cons (op_add rfl rfl (vt rfl) (vt rfl)) rfl ?_
      refine AOps.cons (op_assign (A := rd (kint .i64) (IntKind.i64.wrap (q4 + n2))) rfl rfl (vt rfl)) rfl ?_
      refine AOps.nil ?_
      refine AW.seq ?_
      refine AW.region ?_
      refine AOps.cons (op_move (A := rd (kint .i64) (IntKind.i64.wrap (q4 + n2))) rfl rfl (vt rfl)) rfl ?_
      refine AOps.cons (op_assign (A := rd (kint .i64) (IntKind.i64.wrap (q4 + n2))) rfl rfl (vt rfl)) rfl ?_
      refine AOps.nil ?_
      refine AW.ret ?_
      obtain rfl := Option.some.inj h
      exact ret1 Tryz.results103 rfl (out_tmp rfl)
    · have h := cond_f hc h
      refine AW.skip ?_
      refine AW.seq ?_
      refine AW.region ?_
      refine AOps.cons (op_move (A := rd (kint .i64) q4) rfl rfl (vt rfl)) rfl ?_
      refine AOps.cons (op_assign (A := rd (kint .i64) q4) rfl rfl (vt rfl)) rfl ?_
      refine AOps.nil ?_
      refine AW.ret ?_
      obtain rfl := Option.some.inj h
      exact ret1 Tryz.results103 rfl (out_tmp rfl)
-- weirbox/weirboxref29.Up
def F104_l1 (e1 : Env) (port2 : Int) : Nat → Int → Option Bool
  | 0, _ => none
  | m6 + 1, i5 => (bif (decide (i5 < (e1.Down.length : Int))) then (lget e1.Down i5).bind fun e7 => (bif (decide (e7 = port2)) then some false else (F104_l1 e1 port2 m6) (IntKind.i64.wrap (i5 + 1))) else some true)
def F104 (e1 : Env) (port2 : Int) : Option Bool :=
  F104_l1 e1 port2 ((((e1.Down.length : Int) : Int) - 0).toNat + 1) 0
theorem c104 (e1 : Env) (port2 : Int) (r : Bool) (h : F104 e1 port2 = some r) : PCon Tryz.prog 104 [rd kEnv e1, rd (kint .i64) port2] (rd kbool r) := by
  refine PCon.of (Con.intro0 Tryz.func104 rfl Tryz.ntmps104 rfl fun w H => ?_)
  unfold F104 at h
  refine AW.seq ?_
  refine AW.region ?_
  refine AOps.consT rfl (op_box 3 rfl rfl (vt rfl)) ?_
  rintro _ ⟨g3, rfl⟩
  refine AOps.cons (op_assign (A := rd kbool false) rfl rfl vb) rfl ?_
  refine AOps.nil ?_
  refine AW.seq ?_
  refine AW.seq ?_
  refine AW.region ?_
  refine AOps.cons (op_assign (A := rd (kint .i64) 0) rfl rfl (vk rfl)) rfl ?_
  refine AOps.nil ?_
  refine AW.block ?_
  refine AW.loopG (d := []) (ν := Nat × Int) (fun n => True ∧ F104_l1 e1 port2 n.1 n.2 = some r) (fun n => n.1) (fun n => [(1, rd (kint .i64) port2), (2, ptrL g3 (Lens.id kEnv)), (5, rd (kint .i64) n.2)]) (fun n => [(3, Blk g3 25 kEnv e1)]) (((((e1.Down.length : Int) : Int) - 0).toNat + 1), 0) ⟨trivial, h⟩ ⟨rfl, ⟨rfl, rfl, rfl, trivial⟩, ⟨rfl, trivial⟩⟩ ?_
  rintro ⟨m6, i5⟩ ⟨hsf1, h⟩
  change True at hsf1
  change F104_l1 e1 port2 m6 i5 = some r at h
  change AW _ _ _ ⟨slots [(1, rd (kint .i64) port2), (2, ptrL g3 (Lens.id kEnv)), (5, rd (kint .i64) i5)], ress [(3, Blk g3 25 kEnv e1)], _⟩
  cases m6 with
  | zero => cases h
  | succ m6 =>
    unfold F104_l1 at h
    generalize hgo1 : F104_l1 e1 port2 m6 = go1 at h
    refine AW.seq ?_
    refine AW.seq ?_
    refine AW.region ?_
    refine AOps.cons (op_move (A := rd (kint .i64) i5) rfl rfl (vt rfl)) rfl ?_
    refine AOps.cons (op_field lEnv_1 rfl rfl fl25_1 (vt rfl)) rfl ?_
    refine AOps.cons (op_load rfl rfl ty23 (vt rfl) (i := 3) rfl) rfl ?_
    refine AOps.cons (op_len' rfl rfl sl23 (vt rfl)) rfl ?_
    refine AOps.cons (op_lss rfl rfl (vt rfl) (vt rfl)) rfl ?_
    refine AOps.nil ?_
    refine AW.cond (vt rfl) (fun hc => ?_) (fun hc => ?_)
    · have h := cond_t hc h
      refine AW.skip ?_
      refine AW.seq ?_
      refine AW.block ?_
      refine AW.seq ?_
      obtain ⟨e7, he7, h⟩ := bsome h
      refine AW.region ?_
      refine AOps.cons (op_field lEnv_1 rfl rfl fl25_1 (vt rfl)) rfl ?_
      refine AOps.cons (op_load rfl rfl ty23 (vt rfl) (i := 3) rfl) rfl ?_
      refine AOps.cons (op_move (A := rd (kint .i64) i5) rfl rfl (vt rfl)) rfl ?_
      refine AOps.cons (op_indexs' rfl rfl sl23 (vt rfl) (vt rfl) he7) rfl ?_
      refine AOps.cons (op_loadp rfl rfl ty3 (vt rfl)) rfl ?_
      refine AOps.cons (op_move (A := rd (kint .i64) port2) rfl rfl (vt rfl)) rfl ?_
      refine AOps.cons (op_eql rfl rfl (vt rfl) (vt rfl)) rfl ?_
      refine AOps.nil ?_
      refine AW.cond (vt rfl) (fun hc => ?_) (fun hc => ?_)
      · have h := cond_t hc h
        refine AW.seq ?_
        refine AW.region ?_
        refine AOps.cons (op_assign (A := rd kbool false) rfl rfl vb) rfl ?_
        refine AOps.nil ?_
        refine AW.ret ?_
        obtain rfl := Option.some.inj h
        exact ret1 Tryz.results104 rfl (out_tmp rfl)
      · have h := cond_f hc h
        refine AW.skip ?_
        refine AW.region ?_
        refine AOps.cons (op_move (A := rd (kint .i64) i5) rfl rfl (vt rfl)) rfl ?_
        refine AOps.cons (op_add rfl rfl (vt rfl) (vk rfl)) rfl ?_
        refine AOps.cons (op_assign (A := rd (kint .i64) (IntKind.i64.wrap (i5 + 1))) rfl rfl (vt rfl)) rfl ?_
        refine AOps.nil ?_
        subst hgo1
        exact ⟨(m6, (IntKind.i64.wrap (i5 + 1))), Nat.lt_succ_self _, ⟨trivial, h⟩, ⟨rfl, ⟨rfl, rfl, rfl, trivial⟩, ⟨rfl, trivial⟩⟩⟩
    · have h := cond_f hc h
      refine AW.exit ?_
      refine AW.seq ?_
      refine AW.region ?_
      refine AOps.cons (op_assign (A := rd kbool true) rfl rfl vb) rfl ?_
      refine AOps.nil ?_
      refine AW.ret ?_
      obtain rfl := Option.some.inj h
      exact ret1 Tryz.results104 rfl (out_tmp rfl)
-- weirbox/weirboxref29.Takes
def F58_l1 (g2 : Group) (e1 : Env) : Nat → (List Int) → Int → Option (List Int)
  | 0, _, _ => none
  | m12 + 1, l9, i11 => (bif (decide (i11 < (g2.Buckets.length : Int))) then (bif (decide (g2.Kind = 0)) then (appd l9 [i11]).bind fun l13 => (F58_l1 g2 e1 m12) l13 (IntKind.i64.wrap (i11 + 1)) else (bif (decide (g2.Kind = 1)) then (F103 e1 (g2.Buckets.length : Int)).bind fun x15 => (bif (decide (i11 = x15)) then (appd l9 [i11]).bind fun l16 => (F58_l1 g2 e1 m12) l16 (IntKind.i64.wrap (i11 + 1)) else (F58_l1 g2 e1 m12) l9 (IntKind.i64.wrap (i11 + 1))) else (bif (decide (g2.Kind = 2)) then (bif (decide (i11 = 0)) then (appd l9 [i11]).bind fun l18 => (F58_l1 g2 e1 m12) l18 (IntKind.i64.wrap (i11 + 1)) else (F58_l1 g2 e1 m12) l9 (IntKind.i64.wrap (i11 + 1))) else (bif (decide (g2.Kind = 3)) then (opt (decide ((l9.length : Int) = 0)) (lget g2.Buckets i11)).bind fun e20 => (opt (decide ((l9.length : Int) = 0)) (F104 e1 e20.Watch)).bind fun x21 => (bif ((decide ((l9.length : Int) = 0)) && x21) then (appd l9 [i11]).bind fun l22 => (F58_l1 g2 e1 m12) l22 (IntKind.i64.wrap (i11 + 1)) else (F58_l1 g2 e1 m12) l9 (IntKind.i64.wrap (i11 + 1))) else (F58_l1 g2 e1 m12) l9 (IntKind.i64.wrap (i11 + 1)))))) else some l9)
def F58 (e1 : Env) (g2 : Group) : Option (List Int) :=
  F58_l1 g2 e1 ((((g2.Buckets.length : Int) : Int) - 0).toNat + 1) [] 0
theorem c58 (e1 : Env) (g2 : Group) (r : (List Int)) (h : F58 e1 g2 = some r) : PCon Tryz.prog 58 [rd kEnv e1, rd kGroup g2] (rd (ksl (kint .i64)) r) := by
  refine PCon.of (Con.intro0 Tryz.func58 rfl Tryz.ntmps58 rfl fun w H => ?_)
  unfold F58 at h
  refine AW.seq ?_
  refine AW.region ?_
  refine AOps.consT rfl (op_box 3 rfl rfl (vt rfl)) ?_
  rintro _ ⟨g3, rfl⟩
  refine AOps.consT rfl (op_box 4 rfl rfl (vt rfl)) ?_
  rintro _ ⟨g4, rfl⟩
  refine AOps.cons (op_assign (A := rd (ksl (kint .i64)) []) rfl rfl vnil) rfl ?_
  refine AOps.nil ?_
  refine AW.seq ?_
  refine AW.region ?_
  refine AOps.consT rfl (op_buildSlice 1001 (ps := []) (l := []) rfl rfl sl23 zr3 rfl rfl rfl rfl) ?_
  rintro _ ⟨v5, rfl⟩
  refine AOps.cons (op_assign (A := raw v5) rfl rfl (vt rfl)) rfl ?_
  refine AOps.nil ?_
  refine AW.seq ?_
  refine AW.seq ?_
  refine AW.region ?_
  refine AOps.cons (op_assign (A := rd (kint .i64) 0) rfl rfl (vk rfl)) rfl ?_
  refine AOps.nil ?_
  refine AW.block ?_
  refine AW.loopG (d := []) (ν := Nat × (List Int) × Int × Value) (fun n => True ∧ F58_l1 g2 e1 n.1 n.2.1 n.2.2.1 = some r) (fun n => n.1) (fun n => [(2, ptrL g3 (Lens.id kEnv)), (3, ptrL g4 (Lens.id kGroup)), (5, raw n.2.2.2), (6, rd (kint .i64) n.2.2.1)]) (fun n => [(3, Blk g3 25 kEnv e1), (4, Blk g4 67 kGroup g2), (1001, Row n.2.2.2 3 (kint .i64) n.2.1)]) (((((g2.Buckets.length : Int) : Int) - 0).toNat + 1), [], 0, v5) ⟨trivial, h⟩ ⟨rfl, ⟨rfl, rfl, rfl, rfl, trivial⟩, ⟨rfl, rfl, rfl, trivial⟩⟩ ?_
  rintro ⟨m12, l9, i11, v10⟩ ⟨hsf1, h⟩
  change True at hsf1
  change F58_l1 g2 e1 m12 l9 i11 = some r at h
  change AW _ _ _ ⟨slots [(2, ptrL g3 (Lens.id kEnv)), (3, ptrL g4 (Lens.id kGroup)), (5, raw v10), (6, rd (kint .i64) i11)], ress [(3, Blk g3 25 kEnv e1), (4, Blk g4 67 kGroup g2), (1001, Row v10 3 (kint .i64) l9)], _⟩
  cases m12 with
  | zero => cases h
  | succ m12 =>
    unfold F58_l1 at h
    generalize hgo1 : F58_l1 g2 e1 m12 = go1 at h
    refine AW.seq ?_
    refine AW.seq ?_
    refine AW.region ?_
    refine AOps.cons (op_move (A := rd (kint .i64) i11) rfl rfl (vt rfl)) rfl ?_
    refine AOps.cons (op_field lGroup_2 rfl rfl fl67_2 (vt rfl)) rfl ?_
    refine AOps.cons (op_load rfl rfl ty65 (vt rfl) (i := 4) rfl) rfl ?_
    refine AOps.cons (op_len' rfl rfl sl65 (vt rfl)) rfl ?_
    refine AOps.cons (op_lss rfl rfl (vt rfl) (vt rfl)) rfl ?_
    refine AOps.nil ?_
    refine AW.cond (vt rfl) (fun hc => ?_) (fun hc => ?_)
    · have h := cond_t hc h
      refine AW.skip ?_
      refine AW.seq ?_
      refine AW.block ?_
      refine AW.seq ?_
      refine AW.region ?_
      refine AOps.cons (op_field lGroup_1 rfl rfl fl67_1 (vt rfl)) rfl ?_
      refine AOps.cons (op_load rfl rfl ty3 (vt rfl) (i := 4) rfl) rfl ?_
      refine AOps.nil ?_
      refine AW.block ?_
      refine AW.seq ?_
      refine AW.region ?_
      refine AOps.cons (op_eql rfl rfl (vt rfl) (vk rfl)) rfl ?_
      refine AOps.cons (op_assign (A := rd kbool (decide (g2.Kind = 0))) rfl rfl (vt rfl)) rfl ?_
      refine AOps.nil ?_
      refine AW.cond (vt rfl) (fun hc => ?_) (fun hc => ?_)
      · have h := cond_t hc h
        obtain ⟨l13, hl13, h⟩ := bsome h
        refine AW.region ?_
        refine AOps.cons (op_move (A := raw v10) rfl rfl (vt rfl)) rfl ?_
        refine AOps.cons (op_move (A := rd (kint .i64) i11) rfl rfl (vt rfl)) rfl ?_
        refine AOps.cons (op_buildSliceR (ps := [(0, .tmp 20)]) (l := [i11]) rfl rfl sl23 zr3 rfl rfl ⟨_, _, Lens.idx 1 (kint .i64) 0 (by decide), _, rfl, (vt rfl), rfl⟩ rfl) rfl ?_
        refine AOps.consT rfl (op_append' 1001 hl13 rfl rfl el23 (vt rfl) rfl (vt rfl)) ?_
        rintro _ ⟨v14, rfl⟩
        refine AOps.cons (op_assign (A := raw v14) rfl rfl (vt rfl)) rfl ?_
        refine AOps.nil ?_
        refine AW.region ?_
        refine AOps.cons (op_move (A := rd (kint .i64) i11) rfl rfl (vt rfl)) rfl ?_
        refine AOps.cons (op_add rfl rfl (vt rfl) (vk rfl)) rfl ?_
        refine AOps.cons (op_assign (A := rd (kint .i64) (IntKind.i64.wrap (i11 + 1))) rfl rfl (vt rfl)) rfl ?_
        refine AOps.nil ?_
        subst hgo1
        exact ⟨(m12, l13, (IntKind.i64.wrap (i11 + 1)), v14), Nat.lt_succ_self _, ⟨trivial, h⟩, ⟨rfl, ⟨rfl, rfl, rfl, rfl, trivial⟩, ⟨rfl, rfl, rfl, trivial⟩⟩⟩
      · have h := cond_f hc h
        refine AW.seq ?_
        refine AW.region ?_
        refine AOps.cons (op_eql rfl rfl (vt rfl) (vk rfl)) rfl ?_
        refine AOps.cons (op_assign (A := rd kbool (decide (g2.Kind = 1))) rfl rfl (vt rfl)) rfl ?_
        refine AOps.nil ?_
        refine AW.cond (vt rfl) (fun hc => ?_) (fun hc => ?_)
        · have h := cond_t hc h
          refine AW.seq ?_
          obtain ⟨x15, hx15, h⟩ := bsome h
          refine AW.region ?_
          refine AOps.cons (op_move (A := rd (kint .i64) i11) rfl rfl (vt rfl)) rfl ?_
          refine AOps.cons (op_load rfl rfl ty25 (vt rfl) (i := 3) rfl) rfl ?_
          refine AOps.cons (op_field lGroup_2 rfl rfl fl67_2 (vt rfl)) rfl ?_
          refine AOps.cons (op_load rfl rfl ty65 (vt rfl) (i := 4) rfl) rfl ?_
          refine AOps.cons (op_len' rfl rfl sl65 (vt rfl)) rfl ?_
          refine AOps.cons (op_call (xs := [.tmp 26, .tmp 29]) (c103 _ _ _ hx15) (Ent.mk Tryz.func103 rfl rfl) rfl rfl ⟨vt rfl, vt rfl, trivial⟩) rfl ?_
          refine AOps.cons (op_eql rfl rfl (vt rfl) (vt rfl)) rfl ?_
          refine AOps.nil ?_
          refine AW.cond (vt rfl) (fun hc => ?_) (fun hc => ?_)
          · have h := cond_t hc h
            obtain ⟨l16, hl16, h⟩ := bsome h
            refine AW.region ?_
            refine AOps.cons (op_move (A := raw v10) rfl rfl (vt rfl)) rfl ?_
            refine AOps.cons (op_move (A := rd (kint .i64) i11) rfl rfl (vt rfl)) rfl ?_
            refine AOps.cons (op_buildSliceR (ps := [(0, .tmp 33)]) (l := [i11]) rfl rfl sl23 zr3 rfl rfl ⟨_, _, Lens.idx 1 (kint .i64) 0 (by decide), _, rfl, (vt rfl), rfl⟩ rfl) rfl ?_
            refine AOps.consT rfl (op_append' 1001 hl16 rfl rfl el23 (vt rfl) rfl (vt rfl)) ?_
            rintro _ ⟨v17, rfl⟩
            refine AOps.cons (op_assign (A := raw v17) rfl rfl (vt rfl)) rfl ?_
            refine AOps.nil ?_
            refine AW.region ?_
            refine AOps.cons (op_move (A := rd (kint .i64) i11) rfl rfl (vt rfl)) rfl ?_
            refine AOps.cons (op_add rfl rfl (vt rfl) (vk rfl)) rfl ?_
            refine AOps.cons (op_assign (A := rd (kint .i64) (IntKind.i64.wrap (i11 + 1))) rfl rfl (vt rfl)) rfl ?_
            refine AOps.nil ?_
            subst hgo1
            exact ⟨(m12, l16, (IntKind.i64.wrap (i11 + 1)), v17), Nat.lt_succ_self _, ⟨trivial, h⟩, ⟨rfl, ⟨rfl, rfl, rfl, rfl, trivial⟩, ⟨rfl, rfl, rfl, trivial⟩⟩⟩
          · have h := cond_f hc h
            refine AW.skip ?_
            refine AW.region ?_
            refine AOps.cons (op_move (A := rd (kint .i64) i11) rfl rfl (vt rfl)) rfl ?_
            refine AOps.cons (op_add rfl rfl (vt rfl) (vk rfl)) rfl ?_
            refine AOps.cons (op_assign (A := rd (kint .i64) (IntKind.i64.wrap (i11 + 1))) rfl rfl (vt rfl)) rfl ?_
            refine AOps.nil ?_
            subst hgo1
            exact ⟨(m12, l9, (IntKind.i64.wrap (i11 + 1)), v10), Nat.lt_succ_self _, ⟨trivial, h⟩, ⟨rfl, ⟨rfl, rfl, rfl, rfl, trivial⟩, ⟨rfl, rfl, rfl, trivial⟩⟩⟩
        · have h := cond_f hc h
          refine AW.seq ?_
          refine AW.region ?_
          refine AOps.cons (op_eql rfl rfl (vt rfl) (vk rfl)) rfl ?_
          refine AOps.cons (op_assign (A := rd kbool (decide (g2.Kind = 2))) rfl rfl (vt rfl)) rfl ?_
          refine AOps.nil ?_
          refine AW.cond (vt rfl) (fun hc => ?_) (fun hc => ?_)
          · have h := cond_t hc h
            refine AW.seq ?_
            refine AW.region ?_
            refine AOps.cons (op_move (A := rd (kint .i64) i11) rfl rfl (vt rfl)) rfl ?_
            refine AOps.cons (op_eql rfl rfl (vt rfl) (vk rfl)) rfl ?_
            refine AOps.nil ?_
            refine AW.cond (vt rfl) (fun hc => ?_) (fun hc => ?_)
            · have h := cond_t hc h
              obtain ⟨l18, hl18, h⟩ := bsome h
              refine AW.region ?_
              refine AOps.cons (op_move (A := raw v10) rfl rfl (vt rfl)) rfl ?_
              refine AOps.cons (op_move (A := rd (kint .i64) i11) rfl rfl (vt rfl)) rfl ?_
              refine AOps.cons (op_buildSliceR (ps := [(0, .tmp 41)]) (l := [i11]) rfl rfl sl23 zr3 rfl rfl ⟨_, _, Lens.idx 1 (kint .i64) 0 (by decide), _, rfl, (vt rfl), rfl⟩ rfl) rfl ?_
              refine AOps.consT rfl (op_append' 1001 hl18 rfl rfl el23 (vt rfl) rfl (vt rfl)) ?_
              rintro _ ⟨v19, rfl⟩
              refine AOps.cons (op_assign (A := raw v19) rfl rfl (vt rfl)) rfl ?_
              refine AOps.nil ?_
              refine AW.region ?_
              refine AOps.cons (op_move (A := rd (kint .i64) i11) rfl rfl (vt rfl)) rfl ?_
              refine AOps.cons (op_add rfl rfl (vt rfl) (vk rfl)) rfl ?_
              refine AOps.cons (op_assign (A := rd (kint .i64) (IntKind.i64.wrap (i11 + 1))) rfl rfl (vt rfl)) rfl ?_
              refine AOps.nil ?_
              subst hgo1
              exact ⟨(m12, l18, (IntKind.i64.wrap (i11 + 1)), v19), Nat.lt_succ_self _, ⟨trivial, h⟩, ⟨rfl, ⟨rfl, rfl, rfl, rfl, trivial⟩, ⟨rfl, rfl, rfl, trivial⟩⟩⟩
            · have h := cond_f hc h
              refine AW.skip ?_
              refine AW.region ?_
              refine AOps.cons (op_move (A := rd (kint .i64) i11) rfl rfl (vt rfl)) rfl ?_
              refine AOps.cons (op_add rfl rfl (vt rfl) (vk rfl)) rfl ?_
              refine AOps.cons (op_assign (A := rd (kint .i64) (IntKind.i64.wrap (i11 + 1))) rfl rfl (vt rfl)) rfl ?_
              refine AOps.nil ?_
              subst hgo1
              exact ⟨(m12, l9, (IntKind.i64.wrap (i11 + 1)), v10), Nat.lt_succ_self _, ⟨trivial, h⟩, ⟨rfl, ⟨rfl, rfl, rfl, rfl, trivial⟩, ⟨rfl, rfl, rfl, trivial⟩⟩⟩
          · have h := cond_f hc h
            refine AW.seq ?_
            refine AW.region ?_
            refine AOps.cons (op_eql rfl rfl (vt rfl) (vk rfl)) rfl ?_
            refine AOps.cons (op_assign (A := rd kbool (decide (g2.Kind = 3))) rfl rfl (vt rfl)) rfl ?_
            refine AOps.nil ?_
            refine AW.cond (vt rfl) (fun hc => ?_) (fun hc => ?_)
            · have h := cond_t hc h
              refine AW.seq ?_
              obtain ⟨e20, he20, h⟩ := bsome h
              obtain ⟨x21, hx21, h⟩ := bsome h
              refine AW.regionAny [⟨[5], [46], [], []⟩, ⟨[46], [47], [1001], []⟩, ⟨[47], [48], [], []⟩, ⟨[48], [49], [], []⟩, ⟨[2, 49], [50], [3], []⟩, ⟨[3, 49], [51], [], []⟩, ⟨[51, 49], [52], [4], []⟩, ⟨[6, 49], [53], [], []⟩, ⟨[52, 53, 49], [54], [], []⟩, ⟨[54, 49], [55], [], []⟩, ⟨[55, 49], [56], [], []⟩, ⟨[50, 56, 49], [57], [], []⟩, ⟨[57, 49], [58], [], []⟩] mixed (by kernel_rfl) ?_
              refine SeqA.cons (loc [5] [] rfl rfl fun S hs hr => op_move (A := raw v10) rfl rfl (vt ((hs 5 rfl).trans rfl))) ⟨rfl, rfl, rfl, rfl⟩ ?_
              refine SeqA.cons (loc [46] [1001] rfl rfl fun S hs hr => op_leno 1001 rfl rfl sl23 (vt ((hs 46 rfl).trans rfl)) ((hr 1001 rfl).trans rfl)) ⟨rfl, rfl, rfl, rfl⟩ ?_
              refine SeqA.cons (loc [47] [] rfl rfl fun S hs hr => op_eql rfl rfl (vt ((hs 47 rfl).trans rfl)) (vk rfl)) ⟨rfl, rfl, rfl, rfl⟩ ?_
              refine SeqA.cons (loc [48] [] rfl rfl fun S hs hr => op_move (A := rd kbool (decide ((l9.length : Int) = 0))) rfl rfl (vt ((hs 48 rfl).trans rfl))) ⟨rfl, rfl, rfl, rfl⟩ ?_
              refine SeqA.cons (locg [2, 49] [3] rfl rfl rfl rfl rfl rfl rfl fun hq S hs hr => op_load rfl rfl ty25 (vt ((hs 2 rfl).trans rfl)) (i := 3) ((hr 3 rfl).trans rfl)) ⟨rfl, rfl, rfl, rfl⟩ ?_
              refine SeqA.cons (locg [3, 49] [] rfl rfl rfl rfl rfl rfl rfl fun hq S hs hr => op_field lGroup_2 rfl rfl fl67_2 (vt ((hs 3 rfl).trans rfl))) ⟨rfl, rfl, rfl, rfl⟩ ?_
              refine SeqA.cons (locg [51, 49] [4] rfl rfl rfl rfl rfl rfl rfl fun hq S hs hr => op_load rfl rfl ty65 (vgt ((hs 51 rfl).trans rfl) hq) (i := 4) ((hr 4 rfl).trans rfl)) ⟨rfl, rfl, rfl, rfl⟩ ?_
              refine SeqA.cons (locg [6, 49] [] rfl rfl rfl rfl rfl rfl rfl fun hq S hs hr => op_move (A := rd (kint .i64) i11) rfl rfl (vt ((hs 6 rfl).trans rfl))) ⟨rfl, rfl, rfl, rfl⟩ ?_
              refine SeqA.cons (locg [52, 53, 49] [] rfl rfl rfl rfl rfl rfl rfl fun hq S hs hr => op_indexs' rfl rfl sl65 (vgt ((hs 52 rfl).trans rfl) hq) (vgt ((hs 53 rfl).trans rfl) hq) (opt_t he20 hq)) ⟨rfl, rfl, rfl, rfl⟩ ?_
              refine SeqA.cons (locg [54, 49] [] rfl rfl rfl rfl rfl rfl rfl fun hq S hs hr => op_fieldp lBucket_1 rfl rfl fl64_1 (vgt ((hs 54 rfl).trans rfl) hq)) ⟨rfl, rfl, rfl, rfl⟩ ?_
              refine SeqA.cons (locg [55, 49] [] rfl rfl rfl rfl rfl rfl rfl fun hq S hs hr => op_loadp rfl rfl ty3 (vgt ((hs 55 rfl).trans rfl) hq)) ⟨rfl, rfl, rfl, rfl⟩ ?_
              refine SeqA.cons (locg [50, 56, 49] [] rfl rfl rfl rfl rfl rfl rfl fun hq S hs hr => op_call (xs := [.tmp 50, .tmp 56]) (c104 _ _ _ (opt_t hx21 hq)) (Ent.mk Tryz.func104 rfl rfl) rfl rfl ⟨vgt ((hs 50 rfl).trans rfl) hq, vgt ((hs 56 rfl).trans rfl) hq, trivial⟩) ⟨rfl, rfl, rfl, rfl⟩ ?_
              refine SeqA.cons (loc [57, 49] [] rfl rfl fun S hs hr => op_all rfl rfl (vt ((hs 49 rfl).trans rfl)) (vt ((hs 57 rfl).trans rfl))) ⟨rfl, rfl, rfl, rfl⟩ ?_
              refine AW.cond (vt rfl) (fun hc => ?_) (fun hc => ?_)
              · have h := cond_t hc h
                obtain ⟨l22, hl22, h⟩ := bsome h
                refine AW.region ?_
                refine AOps.cons (op_move (A := raw v10) rfl rfl (vt rfl)) rfl ?_
                refine AOps.cons (op_move (A := rd (kint .i64) i11) rfl rfl (vt rfl)) rfl ?_
                refine AOps.cons (op_buildSliceR (ps := [(0, .tmp 60)]) (l := [i11]) rfl rfl sl23 zr3 rfl rfl ⟨_, _, Lens.idx 1 (kint .i64) 0 (by decide), _, rfl, (vt rfl), rfl⟩ rfl) rfl ?_
                refine AOps.consT rfl (op_append' 1001 hl22 rfl rfl el23 (vt rfl) rfl (vt rfl)) ?_
                rintro _ ⟨v23, rfl⟩
                refine AOps.cons (op_assign (A := raw v23) rfl rfl (vt rfl)) rfl ?_
                refine AOps.nil ?_
                refine AW.region ?_
                refine AOps.cons (op_move (A := rd (kint .i64) i11) rfl rfl (vt rfl)) rfl ?_
                refine AOps.cons (op_add rfl rfl (vt rfl) (vk rfl)) rfl ?_
                refine AOps.cons (op_assign (A := rd (kint .i64) (IntKind.i64.wrap (i11 + 1))) rfl rfl (vt rfl)) rfl ?_
                refine AOps.nil ?_
                subst hgo1
                exact ⟨(m12, l22, (IntKind.i64.wrap (i11 + 1)), v23), Nat.lt_succ_self _, ⟨trivial, h⟩, ⟨rfl, ⟨rfl, rfl, rfl, rfl, trivial⟩, ⟨rfl, rfl, rfl, trivial⟩⟩⟩
              · have h := cond_f hc h
                refine AW.skip ?_
                refine AW.region ?_
                refine AOps.cons (op_move (A := rd (kint .i64) i11) rfl rfl (vt rfl)) rfl ?_
                refine AOps.cons (op_add rfl rfl (vt rfl) (vk rfl)) rfl ?_
                refine AOps.cons (op_assign (A := rd (kint .i64) (IntKind.i64.wrap (i11 + 1))) rfl rfl (vt rfl)) rfl ?_
                refine AOps.nil ?_
                subst hgo1
                exact ⟨(m12, l9, (IntKind.i64.wrap (i11 + 1)), v10), Nat.lt_succ_self _, ⟨trivial, h⟩, ⟨rfl, ⟨rfl, rfl, rfl, rfl, trivial⟩, ⟨rfl, rfl, rfl, trivial⟩⟩⟩
            · have h := cond_f hc h
              refine AW.skip ?_
              refine AW.region ?_
              refine AOps.cons (op_move (A := rd (kint .i64) i11) rfl rfl (vt rfl)) rfl ?_
              refine AOps.cons (op_add rfl rfl (vt rfl) (vk rfl)) rfl ?_
              refine AOps.cons (op_assign (A := rd (kint .i64) (IntKind.i64.wrap (i11 + 1))) rfl rfl (vt rfl)) rfl ?_
              refine AOps.nil ?_
              subst hgo1
              exact ⟨(m12, l9, (IntKind.i64.wrap (i11 + 1)), v10), Nat.lt_succ_self _, ⟨trivial, h⟩, ⟨rfl, ⟨rfl, rfl, rfl, rfl, trivial⟩, ⟨rfl, rfl, rfl, trivial⟩⟩⟩
    · have h := cond_f hc h
      refine AW.exit ?_
      refine AW.seq ?_
      refine AW.region ?_
      refine AOps.cons (op_move (A := raw v10) rfl rfl (vt rfl)) rfl ?_
      refine AOps.cons (op_assign (A := raw v10) rfl rfl (vt rfl)) rfl ?_
      refine AOps.nil ?_
      refine AW.freezes [4, 5, 63] 1001 rfl ⟨rfl, rfl, rfl, trivial⟩ rfl ?_
      refine AW.ret ?_
      obtain rfl := Option.some.inj h
      exact ret1 Tryz.results58 rfl (out_tmp rfl)
-- weirbox/weirboxref28.like
def F107 (a1 : Action) (b2 : Action) : Option Bool :=
  some ((decide (a1.Kind = b2.Kind)) && ((decide (a1.Kind ≠ 25)) || (decide (a1.Oxm.Field = b2.Oxm.Field))))
theorem c107 (a1 : Action) (b2 : Action) (r : Bool) (h : F107 a1 b2 = some r) : PCon Tryz.prog 107 [rd kAction a1, rd kAction b2] (rd kbool r) := by
  refine PCon.of (Con.intro0 Tryz.func107 rfl Tryz.ntmps107 rfl fun w H => ?_)
  unfold F107 at h
  refine AW.seq ?_
  refine AW.region ?_
  refine AOps.consT rfl (op_box 3 rfl rfl (vt rfl)) ?_
  rintro _ ⟨g3, rfl⟩
  refine AOps.consT rfl (op_box 4 rfl rfl (vt rfl)) ?_
  rintro _ ⟨g4, rfl⟩
  refine AOps.cons (op_assign (A := rd kbool false) rfl rfl vb) rfl ?_
  refine AOps.nil ?_
  refine AW.seq ?_
  refine AW.region ?_
  refine AOps.cons (op_field lAction_0 rfl rfl fl62_0 (vt rfl)) rfl ?_
  refine AOps.cons (op_load rfl rfl ty3 (vt rfl) (i := 3) rfl) rfl ?_
  refine AOps.cons (op_field lAction_0 rfl rfl fl62_0 (vt rfl)) rfl ?_
  refine AOps.cons (op_load rfl rfl ty3 (vt rfl) (i := 4) rfl) rfl ?_
  refine AOps.cons (op_eql rfl rfl (vt rfl) (vt rfl)) rfl ?_
  refine AOps.cons (op_move (A := rd kbool (decide (a1.Kind = b2.Kind))) rfl rfl (vt rfl)) rfl ?_
  refine AOps.consG (OpG.guard rfl rfl rfl rfl rfl fun hq => op_field lAction_0 rfl rfl fl62_0 (vt rfl)) ?_
  refine AOps.consG (OpG.guard rfl rfl rfl rfl rfl fun hq => op_load rfl rfl ty3 (vgt rfl hq) (i := 3) rfl) ?_
  refine AOps.consG (OpG.guard rfl rfl rfl rfl rfl fun hq => op_neq rfl rfl (vgt rfl hq) (vk rfl)) ?_
  refine AOps.consG (OpG.guardX rfl rfl rfl rfl rfl fun hq => op_move (A := rd kbool (decide (a1.Kind ≠ 25))) rfl rfl (vgt rfl hq)) ?_
  refine AOps.consG (OpG.guardN rfl rfl rfl rfl rfl fun hq => op_field lAction_5 rfl rfl fl62_5 (vt rfl)) ?_
  refine AOps.consG (OpG.guardN rfl rfl rfl rfl rfl fun hq => op_field lOxm_0 rfl rfl fl60_0 (vgt rfl hq)) ?_
  refine AOps.consG (OpG.guardN rfl rfl rfl rfl rfl fun hq => op_load rfl rfl ty3 (vgt rfl hq) (i := 3) rfl) ?_
  refine AOps.consG (OpG.guardN rfl rfl rfl rfl rfl fun hq => op_field lAction_5 rfl rfl fl62_5 (vt rfl)) ?_
  refine AOps.consG (OpG.guardN rfl rfl rfl rfl rfl fun hq => op_field lOxm_0 rfl rfl fl60_0 (vgt rfl hq)) ?_
  refine AOps.consG (OpG.guardN rfl rfl rfl rfl rfl fun hq => op_load rfl rfl ty3 (vgt rfl hq) (i := 4) rfl) ?_
  refine AOps.consG (OpG.guardN rfl rfl rfl rfl rfl fun hq => op_eql rfl rfl (vgt rfl hq) (vgt rfl hq)) ?_
  refine AOps.consG (OpG.guard rfl rfl rfl rfl rfl fun hq => op_any rfl rfl (vgx rfl hq) (vgw rfl hq)) ?_
  refine AOps.cons (op_all rfl rfl (vt rfl) (vt rfl)) rfl ?_
  refine AOps.cons (op_assign (A := rd kbool ((decide (a1.Kind = b2.Kind)) && ((decide (a1.Kind ≠ 25)) || (decide (a1.Oxm.Field = b2.Oxm.Field))))) rfl rfl (vt rfl)) rfl ?_
  refine AOps.nil ?_
  refine AW.ret ?_
  obtain rfl := Option.some.inj h
  exact ret1 Tryz.results107 rfl (out_tmp rfl)
-- weirbox/weirboxref28.Write
def F60_l2 (l9 : (List Action)) (l2 : (List Action)) (i11 : Int) (go1 : (List Action) → Int → Option (List Action)) : Nat → Int → Int → Option (List Action)
  | 0, _, _ => none
  | m17 + 1, at15, j16 => (bif (decide (j16 < (l9.length : Int))) then (opt (decide (at15 < 0)) (lget l9 j16)).bind fun e18 => (opt (decide (at15 < 0)) (lget l2 i11)).bind fun e19 => (opt (decide (at15 < 0)) (F107 e18 e19)).bind fun x20 => (bif ((decide (at15 < 0)) && x20) then (F60_l2 l9 l2 i11 go1 m17) j16 (IntKind.i64.wrap (j16 + 1)) else (F60_l2 l9 l2 i11 go1 m17) at15 (IntKind.i64.wrap (j16 + 1))) else (bif (decide (at15 < 0)) then (lget l2 i11).bind fun e21 => (appd l9 [e21]).bind fun l22 => go1 l22 (IntKind.i64.wrap (i11 + 1)) else (lget l2 i11).bind fun e24 => (lget l9 at15).bind fun e25 => go1 (List.set l9 at15.toNat e24) (IntKind.i64.wrap (i11 + 1))))
def F60_l1 (l2 : (List Action)) : Nat → (List Action) → Int → Option (List Action)
  | 0, _, _ => none
  | m12 + 1, l9, i11 => (bif (decide (i11 < (l2.length : Int))) then F60_l2 l9 l2 i11 (F60_l1 l2 m12) ((((l9.length : Int) : Int) - 0).toNat + 1) (-1) 0 else some l9)
def F60 (set1 : (List Action)) (l2 : (List Action)) : Option (List Action) :=
  (appd [] set1).bind fun l4 => F60_l1 l2 ((((l2.length : Int) : Int) - 0).toNat + 1) l4 0
theorem c60 (set1 : (List Action)) (l2 : (List Action)) (r : (List Action)) (h : F60 set1 l2 = some r) : PCon Tryz.prog 60 [rd (ksl kAction) set1, rd (ksl kAction) l2] (rd (ksl kAction) r) := by
  refine PCon.of (Con.intro0 Tryz.func60 rfl Tryz.ntmps60 rfl fun w H => ?_)
  unfold F60 at h
  refine AW.seq ?_
  refine AW.region ?_
  refine AOps.cons (op_assign (A := rd (ksl kAction) []) rfl rfl vnil) rfl ?_
  refine AOps.nil ?_
  refine AW.seq ?_
  obtain ⟨l4, hl4, h⟩ := bsome h
  refine AW.region ?_
  refine AOps.consT rfl (op_buildSlice 1001 (ps := []) (l := []) rfl rfl sl26 zr62 rfl rfl rfl rfl) ?_
  rintro _ ⟨v3, rfl⟩
  refine AOps.cons (op_move (A := rd (ksl kAction) set1) rfl rfl (vt rfl)) rfl ?_
  refine AOps.consT rfl (op_append' 1001 hl4 rfl rfl el26 (vt rfl) rfl (vt rfl)) ?_
  rintro _ ⟨v5, rfl⟩
  refine AOps.cons (op_assign (A := raw v5) rfl rfl (vt rfl)) rfl ?_
  refine AOps.nil ?_
  refine AW.seq ?_
  refine AW.seq ?_
  refine AW.region ?_
  refine AOps.cons (op_assign (A := rd (kint .i64) 0) rfl rfl (vk rfl)) rfl ?_
  refine AOps.nil ?_
  refine AW.block ?_
  refine AW.loopG (d := []) (ν := Nat × (List Action) × Int × Value) (fun n => True ∧ F60_l1 l2 n.1 n.2.1 n.2.2.1 = some r) (fun n => n.1) (fun n => [(1, rd (ksl kAction) l2), (5, raw n.2.2.2), (6, rd (kint .i64) n.2.2.1)]) (fun n => [(1001, Row n.2.2.2 62 kAction n.2.1)]) (((((l2.length : Int) : Int) - 0).toNat + 1), l4, 0, v5) ⟨trivial, h⟩ ⟨rfl, ⟨rfl, rfl, rfl, trivial⟩, ⟨rfl, trivial⟩⟩ ?_
  rintro ⟨m12, l9, i11, v10⟩ ⟨hsf1, h⟩
  change True at hsf1
  change F60_l1 l2 m12 l9 i11 = some r at h
  change AW _ _ _ ⟨slots [(1, rd (ksl kAction) l2), (5, raw v10), (6, rd (kint .i64) i11)], ress [(1001, Row v10 62 kAction l9)], _⟩
  cases m12 with
  | zero => cases h
  | succ m12 =>
    unfold F60_l1 at h
    generalize hgo1 : F60_l1 l2 m12 = go1 at h
    refine AW.seq ?_
    refine AW.seq ?_
    refine AW.region ?_
    refine AOps.cons (op_move (A := rd (kint .i64) i11) rfl rfl (vt rfl)) rfl ?_
    refine AOps.cons (op_move (A := rd (ksl kAction) l2) rfl rfl (vt rfl)) rfl ?_
    refine AOps.cons (op_len' rfl rfl sl26 (vt rfl)) rfl ?_
    refine AOps.cons (op_lss rfl rfl (vt rfl) (vt rfl)) rfl ?_
    refine AOps.nil ?_
    refine AW.cond (vt rfl) (fun hc => ?_) (fun hc => ?_)
    · have h := cond_t hc h
      refine AW.skip ?_
      refine AW.seq ?_
      refine AW.block ?_
      refine AW.seq ?_
      refine AW.region ?_
      refine AOps.cons (op_assign (A := rd (kint .i64) (-1)) rfl rfl (vk rfl)) rfl ?_
      refine AOps.nil ?_
      refine AW.seq ?_
      refine AW.seq ?_
      refine AW.region ?_
      refine AOps.cons (op_assign (A := rd (kint .i64) 0) rfl rfl (vk rfl)) rfl ?_
      refine AOps.nil ?_
      refine AW.block ?_
      refine AW.loopG (d := []) (ν := Nat × Int × Int) (fun n => True ∧ F60_l2 l9 l2 i11 go1 n.1 n.2.1 n.2.2 = some r) (fun n => n.1) (fun n => [(1, rd (ksl kAction) l2), (5, raw v10), (6, rd (kint .i64) i11), (7, rd (kint .i64) n.2.1), (8, rd (kint .i64) n.2.2)]) (fun n => [(1001, Row v10 62 kAction l9)]) (((((l9.length : Int) : Int) - 0).toNat + 1), (-1), 0) ⟨trivial, h⟩ ⟨rfl, ⟨rfl, rfl, rfl, rfl, rfl, trivial⟩, ⟨rfl, trivial⟩⟩ ?_
      rintro ⟨m17, at15, j16⟩ ⟨hsf2, h⟩
      change True at hsf2
      change F60_l2 l9 l2 i11 go1 m17 at15 j16 = some r at h
      change AW _ _ _ ⟨slots [(1, rd (ksl kAction) l2), (5, raw v10), (6, rd (kint .i64) i11), (7, rd (kint .i64) at15), (8, rd (kint .i64) j16)], ress [(1001, Row v10 62 kAction l9)], _⟩
      cases m17 with
      | zero => cases h
      | succ m17 =>
        unfold F60_l2 at h
        generalize hgo2 : F60_l2 l9 l2 i11 go1 m17 = go2 at h
        refine AW.seq ?_
        refine AW.seq ?_
        refine AW.region ?_
        refine AOps.cons (op_move (A := rd (kint .i64) j16) rfl rfl (vt rfl)) rfl ?_
        refine AOps.cons (op_move (A := raw v10) rfl rfl (vt rfl)) rfl ?_
        refine AOps.cons (op_leno 1001 rfl rfl sl26 (vt rfl) rfl) rfl ?_
        refine AOps.cons (op_lss rfl rfl (vt rfl) (vt rfl)) rfl ?_
        refine AOps.nil ?_
        refine AW.cond (vt rfl) (fun hc => ?_) (fun hc => ?_)
        · have h := cond_t hc h
          refine AW.skip ?_
          refine AW.seq ?_
          refine AW.block ?_
          refine AW.seq ?_
          obtain ⟨e18, he18, h⟩ := bsome h
          obtain ⟨e19, he19, h⟩ := bsome h
          obtain ⟨x20, hx20, h⟩ := bsome h
          refine AW.regionAny [⟨[7], [24], [], []⟩, ⟨[24], [25], [], []⟩, ⟨[25], [26], [], []⟩, ⟨[5, 26], [27], [], []⟩, ⟨[8, 26], [28], [], []⟩, ⟨[27, 28, 26], [29], [1001], []⟩, ⟨[29, 26], [30], [1001], []⟩, ⟨[1, 26], [31], [], []⟩, ⟨[6, 26], [32], [], []⟩, ⟨[31, 32, 26], [33], [], []⟩, ⟨[33, 26], [34], [], []⟩, ⟨[30, 34, 26], [35], [], []⟩, ⟨[35, 26], [36], [], []⟩] mixed (by kernel_rfl) ?_
          refine SeqA.cons (loc [7] [] rfl rfl fun S hs hr => op_move (A := rd (kint .i64) at15) rfl rfl (vt ((hs 7 rfl).trans rfl))) ⟨rfl, rfl, rfl, rfl⟩ ?_
          refine SeqA.cons (loc [24] [] rfl rfl fun S hs hr => op_lss rfl rfl (vt ((hs 24 rfl).trans rfl)) (vk rfl)) ⟨rfl, rfl, rfl, rfl⟩ ?_
          refine SeqA.cons (loc [25] [] rfl rfl fun S hs hr => op_move (A := rd kbool (decide (at15 < 0))) rfl rfl (vt ((hs 25 rfl).trans rfl))) ⟨rfl, rfl, rfl, rfl⟩ ?_
          refine SeqA.cons (locg [5, 26] [] rfl rfl rfl rfl rfl rfl rfl fun hq S hs hr => op_move (A := raw v10) rfl rfl (vt ((hs 5 rfl).trans rfl))) ⟨rfl, rfl, rfl, rfl⟩ ?_
          refine SeqA.cons (locg [8, 26] [] rfl rfl rfl rfl rfl rfl rfl fun hq S hs hr => op_move (A := rd (kint .i64) j16) rfl rfl (vt ((hs 8 rfl).trans rfl))) ⟨rfl, rfl, rfl, rfl⟩ ?_
          refine SeqA.cons (locg [27, 28, 26] [1001] rfl rfl rfl rfl rfl rfl rfl fun hq S hs hr => op_indexo' 1001 rfl rfl sl26 (vgt ((hs 27 rfl).trans rfl) hq) ((hr 1001 rfl).trans rfl) (vgt ((hs 28 rfl).trans rfl) hq) (opt_t he18 hq)) ⟨rfl, rfl, rfl, rfl⟩ ?_
          refine SeqA.cons (locg [29, 26] [1001] rfl rfl rfl rfl rfl rfl rfl fun hq S hs hr => op_loado' 1001 rfl rfl ty62 (vgt ((hs 29 rfl).trans rfl) hq) ((hr 1001 rfl).trans rfl) (lget_of (opt_t he18 hq)).2) ⟨rfl, rfl, rfl, rfl⟩ ?_
          refine SeqA.cons (locg [1, 26] [] rfl rfl rfl rfl rfl rfl rfl fun hq S hs hr => op_move (A := rd (ksl kAction) l2) rfl rfl (vt ((hs 1 rfl).trans rfl))) ⟨rfl, rfl, rfl, rfl⟩ ?_
          refine SeqA.cons (locg [6, 26] [] rfl rfl rfl rfl rfl rfl rfl fun hq S hs hr => op_move (A := rd (kint .i64) i11) rfl rfl (vt ((hs 6 rfl).trans rfl))) ⟨rfl, rfl, rfl, rfl⟩ ?_
          refine SeqA.cons (locg [31, 32, 26] [] rfl rfl rfl rfl rfl rfl rfl fun hq S hs hr => op_indexs' rfl rfl sl26 (vgt ((hs 31 rfl).trans rfl) hq) (vgt ((hs 32 rfl).trans rfl) hq) (opt_t he19 hq)) ⟨rfl, rfl, rfl, rfl⟩ ?_
          refine SeqA.cons (locg [33, 26] [] rfl rfl rfl rfl rfl rfl rfl fun hq S hs hr => op_loadp rfl rfl ty62 (vgt ((hs 33 rfl).trans rfl) hq)) ⟨rfl, rfl, rfl, rfl⟩ ?_
          refine SeqA.cons (locg [30, 34, 26] [] rfl rfl rfl rfl rfl rfl rfl fun hq S hs hr => op_call (xs := [.tmp 30, .tmp 34]) (c107 _ _ _ (opt_t hx20 hq)) (Ent.mk Tryz.func107 rfl rfl) rfl rfl ⟨vgt ((hs 30 rfl).trans rfl) hq, vgt ((hs 34 rfl).trans rfl) hq, trivial⟩) ⟨rfl, rfl, rfl, rfl⟩ ?_
          refine SeqA.cons (loc [35, 26] [] rfl rfl fun S hs hr => op_all rfl rfl (vt ((hs 26 rfl).trans rfl)) (vt ((hs 35 rfl).trans rfl))) ⟨rfl, rfl, rfl, rfl⟩ ?_
          refine AW.cond (vt rfl) (fun hc => ?_) (fun hc => ?_)
          · have h := cond_t hc h
            refine AW.region ?_
            refine AOps.cons (op_move (A := rd (kint .i64) j16) rfl rfl (vt rfl)) rfl ?_
            refine AOps.cons (op_assign (A := rd (kint .i64) j16) rfl rfl (vt rfl)) rfl ?_
            refine AOps.nil ?_
            refine AW.region ?_
            refine AOps.cons (op_move (A := rd (kint .i64) j16) rfl rfl (vt rfl)) rfl ?_
            refine AOps.cons (op_add rfl rfl (vt rfl) (vk rfl)) rfl ?_
            refine AOps.cons (op_assign (A := rd (kint .i64) (IntKind.i64.wrap (j16 + 1))) rfl rfl (vt rfl)) rfl ?_
            refine AOps.nil ?_
            subst hgo2
            exact ⟨(m17, j16, (IntKind.i64.wrap (j16 + 1))), Nat.lt_succ_self _, ⟨trivial, h⟩, ⟨rfl, ⟨rfl, rfl, rfl, rfl, rfl, trivial⟩, ⟨rfl, trivial⟩⟩⟩
          · have h := cond_f hc h
            refine AW.skip ?_
            refine AW.region ?_
            refine AOps.cons (op_move (A := rd (kint .i64) j16) rfl rfl (vt rfl)) rfl ?_
            refine AOps.cons (op_add rfl rfl (vt rfl) (vk rfl)) rfl ?_
            refine AOps.cons (op_assign (A := rd (kint .i64) (IntKind.i64.wrap (j16 + 1))) rfl rfl (vt rfl)) rfl ?_
            refine AOps.nil ?_
            subst hgo2
            exact ⟨(m17, at15, (IntKind.i64.wrap (j16 + 1))), Nat.lt_succ_self _, ⟨trivial, h⟩, ⟨rfl, ⟨rfl, rfl, rfl, rfl, rfl, trivial⟩, ⟨rfl, trivial⟩⟩⟩
        · have h := cond_f hc h
          refine AW.exit ?_
          refine AW.seq ?_
          refine AW.region ?_
          refine AOps.cons (op_move (A := rd (kint .i64) at15) rfl rfl (vt rfl)) rfl ?_
          refine AOps.cons (op_lss rfl rfl (vt rfl) (vk rfl)) rfl ?_
          refine AOps.nil ?_
          refine AW.cond (vt rfl) (fun hc => ?_) (fun hc => ?_)
          · have h := cond_t hc h
            obtain ⟨e21, he21, h⟩ := bsome h
            obtain ⟨l22, hl22, h⟩ := bsome h
            refine AW.region ?_
            refine AOps.cons (op_move (A := raw v10) rfl rfl (vt rfl)) rfl ?_
            refine AOps.cons (op_move (A := rd (ksl kAction) l2) rfl rfl (vt rfl)) rfl ?_
            refine AOps.cons (op_move (A := rd (kint .i64) i11) rfl rfl (vt rfl)) rfl ?_
            refine AOps.cons (op_indexs' rfl rfl sl26 (vt rfl) (vt rfl) he21) rfl ?_
            refine AOps.cons (op_loadp rfl rfl ty62 (vt rfl)) rfl ?_
            refine AOps.cons (op_buildSliceR (ps := [(0, .tmp 44)]) (l := [e21]) rfl rfl sl26 zr62 rfl rfl ⟨_, _, Lens.idx 1 kAction 0 (by decide), _, rfl, (vt rfl), rfl⟩ rfl) rfl ?_
            refine AOps.consT rfl (op_append' 1001 hl22 rfl rfl el26 (vt rfl) rfl (vt rfl)) ?_
            rintro _ ⟨v23, rfl⟩
            refine AOps.cons (op_assign (A := raw v23) rfl rfl (vt rfl)) rfl ?_
            refine AOps.nil ?_
            refine AW.region ?_
            refine AOps.cons (op_move (A := rd (kint .i64) i11) rfl rfl (vt rfl)) rfl ?_
            refine AOps.cons (op_add rfl rfl (vt rfl) (vk rfl)) rfl ?_
            refine AOps.cons (op_assign (A := rd (kint .i64) (IntKind.i64.wrap (i11 + 1))) rfl rfl (vt rfl)) rfl ?_
            refine AOps.nil ?_
            subst hgo1
            exact ⟨(m12, l22, (IntKind.i64.wrap (i11 + 1)), v23), Nat.lt_succ_self _, ⟨trivial, h⟩, ⟨rfl, ⟨rfl, rfl, rfl, trivial⟩, ⟨rfl, trivial⟩⟩⟩
          · have h := cond_f hc h
            obtain ⟨e24, he24, h⟩ := bsome h
            obtain ⟨e25, he25, h⟩ := bsome h
            refine AW.region ?_
            refine AOps.cons (op_move (A := raw v10) rfl rfl (vt rfl)) rfl ?_
            refine AOps.cons (op_move (A := rd (kint .i64) at15) rfl rfl (vt rfl)) rfl ?_
            refine AOps.cons (op_move (A := rd (ksl kAction) l2) rfl rfl (vt rfl)) rfl ?_
            refine AOps.cons (op_move (A := rd (kint .i64) i11) rfl rfl (vt rfl)) rfl ?_
            refine AOps.cons (op_indexs' rfl rfl sl26 (vt rfl) (vt rfl) he24) rfl ?_
            refine AOps.cons (op_loadp rfl rfl ty62 (vt rfl)) rfl ?_
            refine AOps.cons (op_indexo' 1001 rfl rfl sl26 (vt rfl) rfl (vt rfl) he25) rfl ?_
            refine AOps.cons (op_storeo' 1001 rfl rfl ty62 (vt rfl) rfl (lget_of he25).2 (vt rfl)) rfl ?_
            refine AOps.nil ?_
            refine AW.region ?_
            refine AOps.cons (op_move (A := rd (kint .i64) i11) rfl rfl (vt rfl)) rfl ?_
            refine AOps.cons (op_add rfl rfl (vt rfl) (vk rfl)) rfl ?_
            refine AOps.cons (op_assign (A := rd (kint .i64) (IntKind.i64.wrap (i11 + 1))) rfl rfl (vt rfl)) rfl ?_
            refine AOps.nil ?_
            subst hgo1
            exact ⟨(m12, (List.set l9 at15.toNat e24), (IntKind.i64.wrap (i11 + 1)), v10), Nat.lt_succ_self _, ⟨trivial, h⟩, ⟨rfl, ⟨rfl, rfl, rfl, trivial⟩, ⟨rfl, trivial⟩⟩⟩
    · have h := cond_f hc h
      refine AW.exit ?_
      refine AW.seq ?_
      refine AW.region ?_
      refine AOps.cons (op_move (A := raw v10) rfl rfl (vt rfl)) rfl ?_
      refine AOps.cons (op_assign (A := raw v10) rfl rfl (vt rfl)) rfl ?_
      refine AOps.nil ?_
      refine AW.freezes [4, 5, 54] 1001 rfl ⟨rfl, rfl, rfl, trivial⟩ rfl ?_
      refine AW.ret ?_
      obtain rfl := Option.some.inj h
      exact ret1 Tryz.results60 rfl (out_tmp rfl)
-- weirbox/weirboxref28.of
def F105_l1 (l1 : (List Action)) (kind2 : Int) : Nat → (List Action) → Int → Option (List Action)
  | 0, _, _ => none
  | m10 + 1, l7, i9 => (bif (decide (i9 < (l1.length : Int))) then (lget l1 i9).bind fun e11 => (bif (decide (e11.Kind = kind2)) then (lget l1 i9).bind fun e12 => (appd l7 [e12]).bind fun l13 => (F105_l1 l1 kind2 m10) l13 (IntKind.i64.wrap (i9 + 1)) else (F105_l1 l1 kind2 m10) l7 (IntKind.i64.wrap (i9 + 1))) else some l7)
def F105 (l1 : (List Action)) (kind2 : Int) : Option (List Action) :=
  F105_l1 l1 kind2 ((((l1.length : Int) : Int) - 0).toNat + 1) [] 0
theorem c105o (l1 : (List Action)) (kind2 : Int) (r : (List Action)) (h : F105 l1 kind2 = some r) : Con Tryz.prog 105 [rd (ksl kAction) l1, rd (kint .i64) kind2] emp (fun v => raw v) (fun v => Row v 62 kAction r) := by
  refine Con.intro0 Tryz.func105 rfl Tryz.ntmps105 rfl fun w H => ?_
  unfold F105 at h
  refine AW.seq ?_
  refine AW.newnil 1001 62 kAction ?_
  refine AW.region ?_
  refine AOps.cons (op_assign rfl rfl vc) rfl ?_
  refine AOps.nil ?_
  refine AW.seq ?_
  refine AW.region ?_
  refine AOps.consT rfl (op_buildSlice 1002 (ps := []) (l := []) rfl rfl sl26 zr62 rfl rfl rfl rfl) ?_
  rintro _ ⟨v3, rfl⟩
  refine AOps.cons (op_assign (A := raw v3) rfl rfl (vt rfl)) rfl ?_
  refine AOps.nil ?_
  refine AW.seq ?_
  refine AW.seq ?_
  refine AW.region ?_
  refine AOps.cons (op_assign (A := rd (kint .i64) 0) rfl rfl (vk rfl)) rfl ?_
  refine AOps.nil ?_
  refine AW.block ?_
  refine AW.loopG (d := []) (ν := Nat × (List Action) × Int × Value) (fun n => True ∧ F105_l1 l1 kind2 n.1 n.2.1 n.2.2.1 = some r) (fun n => n.1) (fun n => [(0, rd (ksl kAction) l1), (1, rd (kint .i64) kind2), (5, raw n.2.2.2), (6, rd (kint .i64) n.2.2.1)]) (fun n => [(1002, Row n.2.2.2 62 kAction n.2.1)]) (((((l1.length : Int) : Int) - 0).toNat + 1), [], 0, v3) ⟨trivial, h⟩ ⟨rfl, ⟨rfl, rfl, rfl, rfl, trivial⟩, ⟨rfl, trivial⟩⟩ ?_
  rintro ⟨m10, l7, i9, v8⟩ ⟨hsf1, h⟩
  change True at hsf1
  change F105_l1 l1 kind2 m10 l7 i9 = some r at h
  change AW _ _ _ ⟨slots [(0, rd (ksl kAction) l1), (1, rd (kint .i64) kind2), (5, raw v8), (6, rd (kint .i64) i9)], ress [(1002, Row v8 62 kAction l7)], _⟩
  cases m10 with
  | zero => cases h
  | succ m10 =>
    unfold F105_l1 at h
    generalize hgo1 : F105_l1 l1 kind2 m10 = go1 at h
    refine AW.seq ?_
    refine AW.seq ?_
    refine AW.region ?_
    refine AOps.cons (op_move (A := rd (kint .i64) i9) rfl rfl (vt rfl)) rfl ?_
    refine AOps.cons (op_move (A := rd (ksl kAction) l1) rfl rfl (vt rfl)) rfl ?_
    refine AOps.cons (op_len' rfl rfl sl26 (vt rfl)) rfl ?_
    refine AOps.cons (op_lss rfl rfl (vt rfl) (vt rfl)) rfl ?_
    refine AOps.nil ?_
    refine AW.cond (vt rfl) (fun hc => ?_) (fun hc => ?_)
    · have h := cond_t hc h
      refine AW.skip ?_
      refine AW.seq ?_
      refine AW.block ?_
      refine AW.seq ?_
      obtain ⟨e11, he11, h⟩ := bsome h
      refine AW.region ?_
      refine AOps.cons (op_move (A := rd (ksl kAction) l1) rfl rfl (vt rfl)) rfl ?_
      refine AOps.cons (op_move (A := rd (kint .i64) i9) rfl rfl (vt rfl)) rfl ?_
      refine AOps.cons (op_indexs' rfl rfl sl26 (vt rfl) (vt rfl) he11) rfl ?_
      refine AOps.cons (op_fieldp lAction_0 rfl rfl fl62_0 (vt rfl)) rfl ?_
      refine AOps.cons (op_loadp rfl rfl ty3 (vt rfl)) rfl ?_
      refine AOps.cons (op_move (A := rd (kint .i64) kind2) rfl rfl (vt rfl)) rfl ?_
      refine AOps.cons (op_eql rfl rfl (vt rfl) (vt rfl)) rfl ?_
      refine AOps.nil ?_
      refine AW.cond (vt rfl) (fun hc => ?_) (fun hc => ?_)
      · have h := cond_t hc h
        obtain ⟨e12, he12, h⟩ := bsome h
        obtain ⟨l13, hl13, h⟩ := bsome h
        refine AW.region ?_
        refine AOps.cons (op_move (A := raw v8) rfl rfl (vt rfl)) rfl ?_
        refine AOps.cons (op_move (A := rd (ksl kAction) l1) rfl rfl (vt rfl)) rfl ?_
        refine AOps.cons (op_move (A := rd (kint .i64) i9) rfl rfl (vt rfl)) rfl ?_
        refine AOps.cons (op_indexs' rfl rfl sl26 (vt rfl) (vt rfl) he12) rfl ?_
        refine AOps.cons (op_loadp rfl rfl ty62 (vt rfl)) rfl ?_
        refine AOps.cons (op_buildSliceR (ps := [(0, .tmp 25)]) (l := [e12]) rfl rfl sl26 zr62 rfl rfl ⟨_, _, Lens.idx 1 kAction 0 (by decide), _, rfl, (vt rfl), rfl⟩ rfl) rfl ?_
        refine AOps.consT rfl (op_append' 1002 hl13 rfl rfl el26 (vt rfl) rfl (vt rfl)) ?_
        rintro _ ⟨v14, rfl⟩
        refine AOps.cons (op_assign (A := raw v14) rfl rfl (vt rfl)) rfl ?_
        refine AOps.nil ?_
        refine AW.region ?_
        refine AOps.cons (op_move (A := rd (kint .i64) i9) rfl rfl (vt rfl)) rfl ?_
        refine AOps.cons (op_add rfl rfl (vt rfl) (vk rfl)) rfl ?_
        refine AOps.cons (op_assign (A := rd (kint .i64) (IntKind.i64.wrap (i9 + 1))) rfl rfl (vt rfl)) rfl ?_
        refine AOps.nil ?_
        subst hgo1
        exact ⟨(m10, l13, (IntKind.i64.wrap (i9 + 1)), v14), Nat.lt_succ_self _, ⟨trivial, h⟩, ⟨rfl, ⟨rfl, rfl, rfl, rfl, trivial⟩, ⟨rfl, trivial⟩⟩⟩
      · have h := cond_f hc h
        refine AW.skip ?_
        refine AW.region ?_
        refine AOps.cons (op_move (A := rd (kint .i64) i9) rfl rfl (vt rfl)) rfl ?_
        refine AOps.cons (op_add rfl rfl (vt rfl) (vk rfl)) rfl ?_
        refine AOps.cons (op_assign (A := rd (kint .i64) (IntKind.i64.wrap (i9 + 1))) rfl rfl (vt rfl)) rfl ?_
        refine AOps.nil ?_
        subst hgo1
        exact ⟨(m10, l7, (IntKind.i64.wrap (i9 + 1)), v8), Nat.lt_succ_self _, ⟨trivial, h⟩, ⟨rfl, ⟨rfl, rfl, rfl, rfl, trivial⟩, ⟨rfl, trivial⟩⟩⟩
    · have h := cond_f hc h
      refine AW.exit ?_
      refine AW.seq ?_
      refine AW.region ?_
      refine AOps.cons (op_move (A := raw v8) rfl rfl (vt rfl)) rfl ?_
      refine AOps.cons (op_assign (A := raw v8) rfl rfl (vt rfl)) rfl ?_
      refine AOps.nil ?_
      refine AW.ret ?_
      obtain rfl := Option.some.inj h
      exact ret1R (i := 1002) Tryz.results105 rfl rfl rfl
theorem c105 (l1 : (List Action)) (kind2 : Int) (r : (List Action)) (h : F105 l1 kind2 = some r) : PCon Tryz.prog 105 [rd (ksl kAction) l1, rd (kint .i64) kind2] (rd (ksl kAction) r) := PCon.of_row (c105o l1 kind2 r h)
end Go.Proofs.YtokmmcflinnfiaaGreat.W
