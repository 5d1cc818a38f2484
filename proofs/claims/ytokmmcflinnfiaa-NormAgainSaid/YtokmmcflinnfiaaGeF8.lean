/- GeF8: a part of the proof. -/
import Derived.Test.YtokmmcflinnfiaaGeF7
set_option linter.unusedVariables false
set_option maxRecDepth 4000
set_option linter.unusedSimpArgs false
namespace Go.Proofs.Ytokmmcflinnfiaa.W
open Go Go.Wb
-- weirbox/weirboxlaw30.awake
def F47 : Option Bool :=
  (F48 [(⟨1, 0, [(⟨0, 0, 0, [(⟨0, 2, 0, 0, 0, zOxm⟩ : Action), (⟨17, 0, 0, 0, 0, zOxm⟩ : Action)]⟩ : Bucket), (⟨0, 0, 0, [(⟨0, 3, 0, 0, 0, zOxm⟩ : Action)]⟩ : Bucket)]⟩ : Group)] (⟨0, []⟩ : Env) [(⟨22, 0, 0, 1, 0, zOxm⟩ : Action), (⟨17, 0, 0, 0, 0, zOxm⟩ : Action)] (Vector.replicate 24 zWide)).bind fun x1 => (F97 [(⟨1, 0, [(⟨0, 0, 0, [(⟨0, 2, 0, 0, 0, zOxm⟩ : Action), (⟨17, 0, 0, 0, 0, zOxm⟩ : Action)]⟩ : Bucket), (⟨0, 0, 0, [(⟨0, 3, 0, 0, 0, zOxm⟩ : Action)]⟩ : Bucket)]⟩ : Group)] (⟨0, []⟩ : Env) 1 (Vector.replicate 24 zWide)).bind fun x3 => (opt (decide ((x1.1.length : Int) = 2)) (lget x1.1 0)).bind fun e4 => (opt ((decide ((x1.1.length : Int) = 2)) && (decide (((Vector.get e4.Header (⟨5, by decide⟩ : _root_.Fin 24)).Lo) = (4096 : BitVec 64)))) (lget x1.1 1)).bind fun e5 => (opt (((decide ((x1.1.length : Int) = 2)) && (decide (((Vector.get e4.Header (⟨5, by decide⟩ : _root_.Fin 24)).Lo) = (4096 : BitVec 64)))) && (decide (e5.Header = (Vector.replicate 24 zWide)))) (lget x1.1 1)).bind fun e6 => (opt (((((decide ((x1.1.length : Int) = 2)) && (decide (((Vector.get e4.Header (⟨5, by decide⟩ : _root_.Fin 24)).Lo) = (4096 : BitVec 64)))) && (decide (e5.Header = (Vector.replicate 24 zWide)))) && (decide (e6.Port = 3))) && (decide (((Vector.get x1.2 (⟨5, by decide⟩ : _root_.Fin 24)).Lo) = (4096 : BitVec 64)))) (F50 x1.1 x3)).bind fun x7 => (opt ((((((decide ((x1.1.length : Int) = 2)) && (decide (((Vector.get e4.Header (⟨5, by decide⟩ : _root_.Fin 24)).Lo) = (4096 : BitVec 64)))) && (decide (e5.Header = (Vector.replicate 24 zWide)))) && (decide (e6.Port = 3))) && (decide (((Vector.get x1.2 (⟨5, by decide⟩ : _root_.Fin 24)).Lo) = (4096 : BitVec 64)))) && x7) (odrop x1.1 1)).bind fun s8 => (opt ((((((decide ((x1.1.length : Int) = 2)) && (decide (((Vector.get e4.Header (⟨5, by decide⟩ : _root_.Fin 24)).Lo) = (4096 : BitVec 64)))) && (decide (e5.Header = (Vector.replicate 24 zWide)))) && (decide (e6.Port = 3))) && (decide (((Vector.get x1.2 (⟨5, by decide⟩ : _root_.Fin 24)).Lo) = (4096 : BitVec 64)))) && x7) (F50 x1.1 s8)).bind fun x9 => some (((((((decide ((x1.1.length : Int) = 2)) && (decide (((Vector.get e4.Header (⟨5, by decide⟩ : _root_.Fin 24)).Lo) = (4096 : BitVec 64)))) && (decide (e5.Header = (Vector.replicate 24 zWide)))) && (decide (e6.Port = 3))) && (decide (((Vector.get x1.2 (⟨5, by decide⟩ : _root_.Fin 24)).Lo) = (4096 : BitVec 64)))) && x7) && (!x9))
theorem c47 (r : Bool) (h : F47 = some r) : PCon Try.prog 47 [] (rd kbool r) := by
  refine PCon.of (Con.intro0 Try.func47 rfl Try.ntmps47 rfl fun w H => ?_)
  unfold F47 at h
  refine AW.seq ?_
  refine AW.region ?_
  refine AOps.cons (op_assign (A := rd kbool false) rfl rfl vb) rfl ?_
  refine AOps.nil ?_
  refine AW.seq ?_
  refine AW.region ?_
  refine AOps.cons (op_build (ps := [(0, .const (Value.int IntKind.i64 0)), (1, .const (Value.int IntKind.i64 2))]) (x := (⟨0, 2, 0, 0, 0, zOxm⟩ : Action)) rfl rfl rfl (by kernel_rfl) zr82 ⟨_, _, lAction_0, _, by kernel_rfl, (vk rfl), _, _, lAction_1, _, by kernel_rfl, (vk rfl), rfl⟩) rfl ?_
  refine AOps.cons (op_build (ps := [(0, .const (Value.int IntKind.i64 17))]) (x := (⟨17, 0, 0, 0, 0, zOxm⟩ : Action)) rfl rfl rfl (by kernel_rfl) zr82 ⟨_, _, lAction_0, _, by kernel_rfl, (vk rfl), rfl⟩) rfl ?_
  refine AOps.cons (op_buildSliceR (ps := [(0, .tmp 5), (1, .tmp 6)]) (l := [(⟨0, 2, 0, 0, 0, zOxm⟩ : Action), (⟨17, 0, 0, 0, 0, zOxm⟩ : Action)]) rfl rfl sl73 zr82 rfl rfl ⟨_, _, Lens.idx 2 kAction 0 (by decide), _, rfl, (vt rfl), _, _, Lens.idx 2 kAction 1 (by decide), _, rfl, (vt rfl), rfl⟩ rfl) rfl ?_
  refine AOps.cons (op_build (ps := [(3, .tmp 7)]) (x := (⟨0, 0, 0, [(⟨0, 2, 0, 0, 0, zOxm⟩ : Action), (⟨17, 0, 0, 0, 0, zOxm⟩ : Action)]⟩ : Bucket)) rfl rfl rfl (by kernel_rfl) zr104 ⟨_, _, lBucket_3, _, by kernel_rfl, (vt rfl), rfl⟩) rfl ?_
  refine AOps.cons (op_build (ps := [(0, .const (Value.int IntKind.i64 0)), (1, .const (Value.int IntKind.i64 3))]) (x := (⟨0, 3, 0, 0, 0, zOxm⟩ : Action)) rfl rfl rfl (by kernel_rfl) zr82 ⟨_, _, lAction_0, _, by kernel_rfl, (vk rfl), _, _, lAction_1, _, by kernel_rfl, (vk rfl), rfl⟩) rfl ?_
  refine AOps.cons (op_buildSliceR (ps := [(0, .tmp 9)]) (l := [(⟨0, 3, 0, 0, 0, zOxm⟩ : Action)]) rfl rfl sl73 zr82 rfl rfl ⟨_, _, Lens.idx 1 kAction 0 (by decide), _, rfl, (vt rfl), rfl⟩ rfl) rfl ?_
  refine AOps.cons (op_build (ps := [(3, .tmp 10)]) (x := (⟨0, 0, 0, [(⟨0, 3, 0, 0, 0, zOxm⟩ : Action)]⟩ : Bucket)) rfl rfl rfl (by kernel_rfl) zr104 ⟨_, _, lBucket_3, _, by kernel_rfl, (vt rfl), rfl⟩) rfl ?_
  refine AOps.cons (op_buildSliceR (ps := [(0, .tmp 8), (1, .tmp 11)]) (l := [(⟨0, 0, 0, [(⟨0, 2, 0, 0, 0, zOxm⟩ : Action), (⟨17, 0, 0, 0, 0, zOxm⟩ : Action)]⟩ : Bucket), (⟨0, 0, 0, [(⟨0, 3, 0, 0, 0, zOxm⟩ : Action)]⟩ : Bucket)]) rfl rfl sl38 zr104 rfl rfl ⟨_, _, Lens.idx 2 kBucket 0 (by decide), _, rfl, (vt rfl), _, _, Lens.idx 2 kBucket 1 (by decide), _, rfl, (vt rfl), rfl⟩ rfl) rfl ?_
  refine AOps.cons (op_build (ps := [(0, .const (Value.int IntKind.i64 1)), (2, .tmp 12)]) (x := (⟨1, 0, [(⟨0, 0, 0, [(⟨0, 2, 0, 0, 0, zOxm⟩ : Action), (⟨17, 0, 0, 0, 0, zOxm⟩ : Action)]⟩ : Bucket), (⟨0, 0, 0, [(⟨0, 3, 0, 0, 0, zOxm⟩ : Action)]⟩ : Bucket)]⟩ : Group)) rfl rfl rfl (by kernel_rfl) zr40 ⟨_, _, lGroup_0, _, by kernel_rfl, (vk rfl), _, _, lGroup_2, _, by kernel_rfl, (vt rfl), rfl⟩) rfl ?_
  refine AOps.cons (op_buildSliceR (ps := [(0, .tmp 13)]) (l := [(⟨1, 0, [(⟨0, 0, 0, [(⟨0, 2, 0, 0, 0, zOxm⟩ : Action), (⟨17, 0, 0, 0, 0, zOxm⟩ : Action)]⟩ : Bucket), (⟨0, 0, 0, [(⟨0, 3, 0, 0, 0, zOxm⟩ : Action)]⟩ : Bucket)]⟩ : Group)]) rfl rfl sl22 zr40 rfl rfl ⟨_, _, Lens.idx 1 kGroup 0 (by decide), _, rfl, (vt rfl), rfl⟩ rfl) rfl ?_
  refine AOps.cons (op_assign (A := rd (ksl kGroup) [(⟨1, 0, [(⟨0, 0, 0, [(⟨0, 2, 0, 0, 0, zOxm⟩ : Action), (⟨17, 0, 0, 0, 0, zOxm⟩ : Action)]⟩ : Bucket), (⟨0, 0, 0, [(⟨0, 3, 0, 0, 0, zOxm⟩ : Action)]⟩ : Bucket)]⟩ : Group)]) rfl rfl (vt rfl)) rfl ?_
  refine AOps.nil ?_
  refine AW.seq ?_
  obtain ⟨x1, hx1, h⟩ := bsome h
  refine AW.region ?_
  refine AOps.cons (op_move (A := rd (ksl kGroup) [(⟨1, 0, [(⟨0, 0, 0, [(⟨0, 2, 0, 0, 0, zOxm⟩ : Action), (⟨17, 0, 0, 0, 0, zOxm⟩ : Action)]⟩ : Bucket), (⟨0, 0, 0, [(⟨0, 3, 0, 0, 0, zOxm⟩ : Action)]⟩ : Bucket)]⟩ : Group)]) rfl rfl (vt rfl)) rfl ?_
  refine AOps.cons (op_build (ps := []) (x := (⟨0, []⟩ : Env)) rfl rfl rfl (by kernel_rfl) zr31 rfl) rfl ?_
  refine AOps.cons (op_build (ps := [(0, .const (Value.int IntKind.i64 22)), (3, .const (Value.int IntKind.i64 1))]) (x := (⟨22, 0, 0, 1, 0, zOxm⟩ : Action)) rfl rfl rfl (by kernel_rfl) zr82 ⟨_, _, lAction_0, _, by kernel_rfl, (vk rfl), _, _, lAction_3, _, by kernel_rfl, (vk rfl), rfl⟩) rfl ?_
  refine AOps.cons (op_build (ps := [(0, .const (Value.int IntKind.i64 17))]) (x := (⟨17, 0, 0, 0, 0, zOxm⟩ : Action)) rfl rfl rfl (by kernel_rfl) zr82 ⟨_, _, lAction_0, _, by kernel_rfl, (vk rfl), rfl⟩) rfl ?_
  refine AOps.cons (op_buildSliceR (ps := [(0, .tmp 18), (1, .tmp 19)]) (l := [(⟨22, 0, 0, 1, 0, zOxm⟩ : Action), (⟨17, 0, 0, 0, 0, zOxm⟩ : Action)]) rfl rfl sl73 zr82 rfl rfl ⟨_, _, Lens.idx 2 kAction 0 (by decide), _, rfl, (vt rfl), _, _, Lens.idx 2 kAction 1 (by decide), _, rfl, (vt rfl), rfl⟩ rfl) rfl ?_
  refine AOps.cons (op_build (ps := []) (x := (Vector.replicate 24 zWide)) rfl rfl rfl (by kernel_rfl) zr59 rfl) rfl ?_
  refine AOps.cons (op_call (xs := [.tmp 16, .tmp 17, .tmp 20, .tmp 21]) (c48 _ _ _ _ _ hx1) (Ent.mk Try.func48 rfl rfl) rfl rfl ⟨vt rfl, vt rfl, vt rfl, vt rfl, trivial⟩) rfl ?_
  refine AOps.cons (op_move (A := tup2 (rd (ksl kOut) x1.1) (rd (karr 24 kWide) x1.2)) rfl rfl (vt rfl)) rfl ?_
  refine AOps.cons (op_fst rfl rfl (vt rfl)) rfl ?_
  refine AOps.cons (op_snd rfl rfl (vt rfl)) rfl ?_
  refine AOps.consT rfl (op_alloc 4 rfl rfl zr59) ?_
  rintro _ ⟨g2, rfl⟩
  refine AOps.cons (op_assign (A := rd (ksl kOut) x1.1) rfl rfl (vt rfl)) rfl ?_
  refine AOps.cons (op_store rfl rfl ty59 (vt rfl) (i := 4) rfl (vt rfl)) rfl ?_
  refine AOps.nil ?_
  refine AW.seq ?_
  obtain ⟨x3, hx3, h⟩ := bsome h
  refine AW.region ?_
  refine AOps.cons (op_move (A := rd (ksl kGroup) [(⟨1, 0, [(⟨0, 0, 0, [(⟨0, 2, 0, 0, 0, zOxm⟩ : Action), (⟨17, 0, 0, 0, 0, zOxm⟩ : Action)]⟩ : Bucket), (⟨0, 0, 0, [(⟨0, 3, 0, 0, 0, zOxm⟩ : Action)]⟩ : Bucket)]⟩ : Group)]) rfl rfl (vt rfl)) rfl ?_
  refine AOps.cons (op_build (ps := []) (x := (⟨0, []⟩ : Env)) rfl rfl rfl (by kernel_rfl) zr31 rfl) rfl ?_
  refine AOps.cons (op_build (ps := []) (x := (Vector.replicate 24 zWide)) rfl rfl rfl (by kernel_rfl) zr59 rfl) rfl ?_
  refine AOps.cons (op_call (xs := [.tmp 25, .tmp 26, .const (Value.int IntKind.i64 1), .tmp 27]) (c97 _ _ _ _ _ hx3) (Ent.mk Try.func97 rfl rfl) rfl rfl ⟨vt rfl, vt rfl, vk rfl, vt rfl, trivial⟩) rfl ?_
  refine AOps.cons (op_assign (A := rd (ksl kOut) x3) rfl rfl (vt rfl)) rfl ?_
  refine AOps.nil ?_
  refine AW.seq ?_
  obtain ⟨e4, he4, h⟩ := bsome h
  obtain ⟨e5, he5, h⟩ := bsome h
  obtain ⟨e6, he6, h⟩ := bsome h
  obtain ⟨x7, hx7, h⟩ := bsome h
  obtain ⟨s8, hs8, h⟩ := bsome h
  obtain ⟨x9, hx9, h⟩ := bsome h
  refine AW.region ?_
  refine AOps.cons (op_move (A := rd (ksl kOut) x1.1) rfl rfl (vt rfl)) rfl ?_
  refine AOps.cons (op_len' rfl rfl sl75 (vt rfl)) rfl ?_
  refine AOps.cons (op_eql rfl rfl (vt rfl) (vk rfl)) rfl ?_
  refine AOps.cons (op_move (A := rd kbool (decide ((x1.1.length : Int) = 2))) rfl rfl (vt rfl)) rfl ?_
  refine AOps.consG (OpG.guard rfl rfl rfl rfl rfl fun hq => op_move (A := rd (ksl kOut) x1.1) rfl rfl (vt rfl)) ?_
  refine AOps.consG (OpG.guard rfl rfl rfl rfl rfl fun hq => op_indexs' rfl rfl sl75 (vgt rfl hq) (vk rfl) (opt_t he4 hq)) ?_
  refine AOps.consG (OpG.guard rfl rfl rfl rfl rfl fun hq => op_fieldp lOut_2 rfl rfl fl86_2 (vgt rfl hq)) ?_
  refine AOps.consG (OpG.guard rfl rfl rfl rfl rfl fun hq => op_indexp' rfl rfl ar59 (vgt rfl hq) (vk rfl) rfl) ?_
  refine AOps.consG (OpG.guard rfl rfl rfl rfl rfl fun hq => op_fieldp lWide_1 rfl rfl fl52_1 (vgt rfl hq)) ?_
  refine AOps.consG (OpG.guard rfl rfl rfl rfl rfl fun hq => op_loadp rfl rfl ty50 (vgt rfl hq)) ?_
  refine AOps.consG (OpG.guard rfl rfl rfl rfl rfl fun hq => op_eqlu rfl rfl (vgt rfl hq) (vku (4096 : BitVec 64) rfl)) ?_
  refine AOps.cons (op_all rfl rfl (vt rfl) (vt rfl)) rfl ?_
  refine AOps.cons (op_move (A := rd kbool ((decide ((x1.1.length : Int) = 2)) && (decide (((Vector.get e4.Header (⟨5, by decide⟩ : _root_.Fin 24)).Lo) = (4096 : BitVec 64))))) rfl rfl (vt rfl)) rfl ?_
  refine AOps.consG (OpG.guard rfl rfl rfl rfl rfl fun hq => op_move (A := rd (ksl kOut) x1.1) rfl rfl (vt rfl)) ?_
  refine AOps.consG (OpG.guard rfl rfl rfl rfl rfl fun hq => op_indexs' rfl rfl sl75 (vgt rfl hq) (vk rfl) (opt_t he5 hq)) ?_
  refine AOps.consG (OpG.guard rfl rfl rfl rfl rfl fun hq => op_fieldp lOut_2 rfl rfl fl86_2 (vgt rfl hq)) ?_
  refine AOps.consG (OpG.guard rfl rfl rfl rfl rfl fun hq => op_loadp rfl rfl ty59 (vgt rfl hq)) ?_
  refine AOps.consG (OpG.guard rfl rfl rfl rfl rfl fun hq => op_build (ps := []) (x := (Vector.replicate 24 zWide)) rfl rfl rfl (by kernel_rfl) zr59 rfl) ?_
  refine AOps.consG (OpG.guard rfl rfl rfl rfl rfl fun hq => op_eqlk rfl rfl eqk59 (by decide) rfl eg59 (vgt rfl hq) (vgt rfl hq)) ?_
  refine AOps.cons (op_all rfl rfl (vt rfl) (vt rfl)) rfl ?_
  refine AOps.cons (op_move (A := rd kbool (((decide ((x1.1.length : Int) = 2)) && (decide (((Vector.get e4.Header (⟨5, by decide⟩ : _root_.Fin 24)).Lo) = (4096 : BitVec 64)))) && (decide (e5.Header = (Vector.replicate 24 zWide))))) rfl rfl (vt rfl)) rfl ?_
  refine AOps.consG (OpG.guard rfl rfl rfl rfl rfl fun hq => op_move (A := rd (ksl kOut) x1.1) rfl rfl (vt rfl)) ?_
  refine AOps.consG (OpG.guard rfl rfl rfl rfl rfl fun hq => op_indexs' rfl rfl sl75 (vgt rfl hq) (vk rfl) (opt_t he6 hq)) ?_
  refine AOps.consG (OpG.guard rfl rfl rfl rfl rfl fun hq => op_fieldp lOut_0 rfl rfl fl86_0 (vgt rfl hq)) ?_
  refine AOps.consG (OpG.guard rfl rfl rfl rfl rfl fun hq => op_loadp rfl rfl ty3 (vgt rfl hq)) ?_
  refine AOps.consG (OpG.guard rfl rfl rfl rfl rfl fun hq => op_eql rfl rfl (vgt rfl hq) (vk rfl)) ?_
  refine AOps.cons (op_all rfl rfl (vt rfl) (vt rfl)) rfl ?_
  refine AOps.cons (op_move (A := rd kbool ((((decide ((x1.1.length : Int) = 2)) && (decide (((Vector.get e4.Header (⟨5, by decide⟩ : _root_.Fin 24)).Lo) = (4096 : BitVec 64)))) && (decide (e5.Header = (Vector.replicate 24 zWide)))) && (decide (e6.Port = 3)))) rfl rfl (vt rfl)) rfl ?_
  refine AOps.consG (OpG.guard rfl rfl rfl rfl rfl fun hq => op_index' rfl rfl ar59 (vt rfl) (vk rfl) rfl) ?_
  refine AOps.consG (OpG.guard rfl rfl rfl rfl rfl fun hq => op_field lWide_1 rfl rfl fl52_1 (vgt rfl hq)) ?_
  refine AOps.consG (OpG.guard rfl rfl rfl rfl rfl fun hq => op_load rfl rfl ty50 (vgt rfl hq) (i := 4) rfl) ?_
  refine AOps.consG (OpG.guard rfl rfl rfl rfl rfl fun hq => op_eqlu rfl rfl (vgt rfl hq) (vku (4096 : BitVec 64) rfl)) ?_
  refine AOps.cons (op_all rfl rfl (vt rfl) (vt rfl)) rfl ?_
  refine AOps.cons (op_move (A := rd kbool (((((decide ((x1.1.length : Int) = 2)) && (decide (((Vector.get e4.Header (⟨5, by decide⟩ : _root_.Fin 24)).Lo) = (4096 : BitVec 64)))) && (decide (e5.Header = (Vector.replicate 24 zWide)))) && (decide (e6.Port = 3))) && (decide (((Vector.get x1.2 (⟨5, by decide⟩ : _root_.Fin 24)).Lo) = (4096 : BitVec 64))))) rfl rfl (vt rfl)) rfl ?_
  refine AOps.consG (OpG.guard rfl rfl rfl rfl rfl fun hq => op_move (A := rd (ksl kOut) x1.1) rfl rfl (vt rfl)) ?_
  refine AOps.consG (OpG.guard rfl rfl rfl rfl rfl fun hq => op_move (A := rd (ksl kOut) x3) rfl rfl (vt rfl)) ?_
  refine AOps.consG (OpG.guard rfl rfl rfl rfl rfl fun hq => op_call (xs := [.tmp 63, .tmp 64]) (c50 _ _ _ (opt_t hx7 hq)) (Ent.mk Try.func50 rfl rfl) rfl rfl ⟨vgt rfl hq, vgt rfl hq, trivial⟩) ?_
  refine AOps.cons (op_all rfl rfl (vt rfl) (vt rfl)) rfl ?_
  refine AOps.cons (op_move (A := rd kbool ((((((decide ((x1.1.length : Int) = 2)) && (decide (((Vector.get e4.Header (⟨5, by decide⟩ : _root_.Fin 24)).Lo) = (4096 : BitVec 64)))) && (decide (e5.Header = (Vector.replicate 24 zWide)))) && (decide (e6.Port = 3))) && (decide (((Vector.get x1.2 (⟨5, by decide⟩ : _root_.Fin 24)).Lo) = (4096 : BitVec 64)))) && x7)) rfl rfl (vt rfl)) rfl ?_
  refine AOps.consG (OpG.guard rfl rfl rfl rfl rfl fun hq => op_move (A := rd (ksl kOut) x1.1) rfl rfl (vt rfl)) ?_
  refine AOps.consG (OpG.guard rfl rfl rfl rfl rfl fun hq => op_move (A := rd (ksl kOut) x1.1) rfl rfl (vt rfl)) ?_
  refine AOps.consG (OpG.guard rfl rfl rfl rfl rfl fun hq => op_slice_l' (opt_t hs8 hq) rfl rfl sl75 (vgt rfl hq) (vk rfl)) ?_
  refine AOps.consG (OpG.guard rfl rfl rfl rfl rfl fun hq => op_call (xs := [.tmp 68, .tmp 70]) (c50 _ _ _ (opt_t hx9 hq)) (Ent.mk Try.func50 rfl rfl) rfl rfl ⟨vgt rfl hq, vgt rfl hq, trivial⟩) ?_
  refine AOps.consG (OpG.guard rfl rfl rfl rfl rfl fun hq => op_not rfl rfl (vgt rfl hq)) ?_
  refine AOps.cons (op_all rfl rfl (vt rfl) (vt rfl)) rfl ?_
  refine AOps.cons (op_assign (A := rd kbool (((((((decide ((x1.1.length : Int) = 2)) && (decide (((Vector.get e4.Header (⟨5, by decide⟩ : _root_.Fin 24)).Lo) = (4096 : BitVec 64)))) && (decide (e5.Header = (Vector.replicate 24 zWide)))) && (decide (e6.Port = 3))) && (decide (((Vector.get x1.2 (⟨5, by decide⟩ : _root_.Fin 24)).Lo) = (4096 : BitVec 64)))) && x7) && (!x9))) rfl rfl (vt rfl)) rfl ?_
  refine AOps.nil ?_
  refine AW.ret ?_
  obtain rfl := Option.some.inj h
  exact ret1 Try.results47 rfl (out_tmp rfl)
-- slices.Clone[[]weirbox/api.Out,weirbox/api.Out]
def F51 (s : List Out) : Option (List Out) := appd [] s
theorem c51o (s : List Out) (r : List Out) (h : F51 s = some r) : Con Try.prog 51 [rd (ksl kOut) s] emp (fun v => raw v) (fun v => Row v 86 kOut r) := by
  refine Con.intro0 Try.func51 rfl Try.ntmps51 rfl fun w H => ?_
  unfold F51 at h
  refine AW.newnil 1001 86 kOut ?_
  refine AW.seq ?_
  refine AW.region ?_
  refine AOps.cons (op_assign (A := raw (.slice none 0 0)) rfl rfl vc) rfl ?_
  refine AOps.nil ?_
  refine AW.seq ?_
  refine AW.seq ?_
  refine AW.region ?_
  refine AOps.cons (op_move (A := rd (ksl kOut) s) rfl rfl (vt rfl)) rfl ?_
  refine AOps.consT rfl (op_eqnil rfl rfl sl75 (vt rfl)) ?_
  rintro _ ⟨b, hb, rfl⟩
  refine AOps.nil ?_
  refine AW.cond (vt rfl) (fun hc => ?_) (fun hc => ?_)
  · obtain rfl := hb hc
    refine AW.seq ?_
    refine AW.region ?_
    refine AOps.cons (op_assign (A := raw (.slice none 0 0)) rfl rfl vc) rfl ?_
    refine AOps.nil ?_
    refine AW.ret ?_
    obtain rfl := (appd_of h).2
    exact ret1R (i := 1001) Try.results51 rfl rfl rfl
  · refine AW.skip ?_
    refine AW.seq ?_
    refine AW.region ?_
    refine AOps.consT rfl (op_buildSlice 1002 (ps := []) (l := []) rfl rfl sl75 zr86 rfl rfl rfl rfl) ?_
    rintro _ ⟨v1, rfl⟩
    refine AOps.cons (op_move (A := rd (ksl kOut) s) rfl rfl (vt rfl)) rfl ?_
    refine AOps.consT rfl (op_append' 1002 h rfl rfl el75 (vt rfl) rfl (vt rfl)) ?_
    rintro _ ⟨v2, rfl⟩
    refine AOps.cons (op_assign (A := raw v2) rfl rfl (vt rfl)) rfl ?_
    refine AOps.nil ?_
    refine AW.ret ?_
    exact ret1R (i := 1002) Try.results51 rfl rfl rfl
theorem c51 (s : List Out) (r : List Out) (h : F51 s = some r) : PCon Try.prog 51 [rd (ksl kOut) s] (rd (ksl kOut) r) := PCon.of_row (c51o s r h)
-- weirbox/weirboxlaw30.ExecJoins
def F7 (l1 : (List Group)) (e2 : Env) (a3 : (List Action)) (b4 : (List Action)) (h5 : (Vector Wide 24)) : Option Bool :=
  (F46 l1 [a3, b4]).bind fun x8 => (bif ((!x8) || (decide ((e2.Down.length : Int) > 20))) then (F47).bind fun x9 => some x9 else (F48 l1 e2 a3 h5).bind fun x10 => (F48 l1 e2 b4 x10.2).bind fun x12 => (F49 a3).bind fun x14 => (appd x14 b4).bind fun l16 => (F48 l1 e2 l16 h5).bind fun x17 => (F51 x10.1).bind fun x19 => (appd x19 x12.1).bind fun l21 => (F50 l21 x17.1).bind fun x23 => (opt (x23 && (decide (x12.2 = x17.2))) (F47)).bind fun x24 => some ((x23 && (decide (x12.2 = x17.2))) && x24))
theorem c7 (l1 : (List Group)) (e2 : Env) (a3 : (List Action)) (b4 : (List Action)) (h5 : (Vector Wide 24)) (r : Bool) (h : F7 l1 e2 a3 b4 h5 = some r) : PCon Try.prog 7 [rd (ksl kGroup) l1, rd kEnv e2, rd (ksl kAction) a3, rd (ksl kAction) b4, rd (karr 24 kWide) h5] (rd kbool r) := by
  refine PCon.of (Con.intro0 Try.func7 rfl Try.ntmps7 rfl fun w H => ?_)
  unfold F7 at h
  refine AW.seq ?_
  refine AW.region ?_
  refine AOps.consT rfl (op_box 7 rfl rfl (vt rfl)) ?_
  rintro _ ⟨g6, rfl⟩
  refine AOps.consT rfl (op_box 10 rfl rfl (vt rfl)) ?_
  rintro _ ⟨g7, rfl⟩
  refine AOps.cons (op_assign (A := rd kbool false) rfl rfl vb) rfl ?_
  refine AOps.nil ?_
  refine AW.seq ?_
  refine AW.seq ?_
  obtain ⟨x8, hx8, h⟩ := bsome h
  refine AW.region ?_
  refine AOps.cons (op_move (A := rd (ksl kGroup) l1) rfl rfl (vt rfl)) rfl ?_
  refine AOps.cons (op_move (A := rd (ksl kAction) a3) rfl rfl (vt rfl)) rfl ?_
  refine AOps.cons (op_move (A := rd (ksl kAction) b4) rfl rfl (vt rfl)) rfl ?_
  refine AOps.cons (op_buildSliceR (ps := [(0, .tmp 18), (1, .tmp 19)]) (l := [a3, b4]) rfl rfl sl137 zr73 rfl rfl ⟨_, _, Lens.idx 2 (ksl kAction) 0 (by decide), _, rfl, (vt rfl), _, _, Lens.idx 2 (ksl kAction) 1 (by decide), _, rfl, (vt rfl), rfl⟩ rfl) rfl ?_
  refine AOps.cons (op_call (xs := [.tmp 17, .tmp 20]) (c46 _ _ _ hx8) (Ent.mk Try.func46 rfl rfl) rfl rfl ⟨vt rfl, vt rfl, trivial⟩) rfl ?_
  refine AOps.cons (op_not rfl rfl (vt rfl)) rfl ?_
  refine AOps.cons (op_move (A := rd kbool (!x8)) rfl rfl (vt rfl)) rfl ?_
  refine AOps.consG (OpG.guard rfl rfl rfl rfl rfl fun hq => op_field lEnv_1 rfl rfl fl31_1 (vt rfl)) ?_
  refine AOps.consG (OpG.guard rfl rfl rfl rfl rfl fun hq => op_load rfl rfl ty29 (vgt rfl hq) (i := 7) rfl) ?_
  refine AOps.consG (OpG.guard rfl rfl rfl rfl rfl fun hq => op_len' rfl rfl sl29 (vgt rfl hq)) ?_
  refine AOps.consG (OpG.guard rfl rfl rfl rfl rfl fun hq => op_gtr rfl rfl (vgt rfl hq) (vk rfl)) ?_
  refine AOps.cons (op_any rfl rfl (vt rfl) (vt rfl)) rfl ?_
  refine AOps.nil ?_
  refine AW.cond (vt rfl) (fun hc => ?_) (fun hc => ?_)
  · have h := cond_t hc h
    refine AW.seq ?_
    obtain ⟨x9, hx9, h⟩ := bsome h
    refine AW.region ?_
    refine AOps.cons (op_call (xs := []) (c47 _ hx9) (Ent.mk Try.func47 rfl rfl) rfl rfl trivial) rfl ?_
    refine AOps.cons (op_assign (A := rd kbool x9) rfl rfl (vt rfl)) rfl ?_
    refine AOps.nil ?_
    refine AW.ret ?_
    obtain rfl := Option.some.inj h
    exact ret1 Try.results7 rfl (out_tmp rfl)
  · have h := cond_f hc h
    refine AW.skip ?_
    refine AW.seq ?_
    obtain ⟨x10, hx10, h⟩ := bsome h
    refine AW.region ?_
    refine AOps.cons (op_move (A := rd (ksl kGroup) l1) rfl rfl (vt rfl)) rfl ?_
    refine AOps.cons (op_load rfl rfl ty31 (vt rfl) (i := 7) rfl) rfl ?_
    refine AOps.cons (op_move (A := rd (ksl kAction) a3) rfl rfl (vt rfl)) rfl ?_
    refine AOps.cons (op_load rfl rfl ty59 (vt rfl) (i := 10) rfl) rfl ?_
    refine AOps.cons (op_call (xs := [.tmp 31, .tmp 32, .tmp 33, .tmp 34]) (c48 _ _ _ _ _ hx10) (Ent.mk Try.func48 rfl rfl) rfl rfl ⟨vt rfl, vt rfl, vt rfl, vt rfl, trivial⟩) rfl ?_
    refine AOps.cons (op_move (A := tup2 (rd (ksl kOut) x10.1) (rd (karr 24 kWide) x10.2)) rfl rfl (vt rfl)) rfl ?_
    refine AOps.cons (op_fst rfl rfl (vt rfl)) rfl ?_
    refine AOps.cons (op_snd rfl rfl (vt rfl)) rfl ?_
    refine AOps.consT rfl (op_alloc 13 rfl rfl zr59) ?_
    rintro _ ⟨g11, rfl⟩
    refine AOps.cons (op_assign (A := rd (ksl kOut) x10.1) rfl rfl (vt rfl)) rfl ?_
    refine AOps.cons (op_store rfl rfl ty59 (vt rfl) (i := 13) rfl (vt rfl)) rfl ?_
    refine AOps.nil ?_
    refine AW.seq ?_
    obtain ⟨x12, hx12, h⟩ := bsome h
    refine AW.region ?_
    refine AOps.cons (op_move (A := rd (ksl kGroup) l1) rfl rfl (vt rfl)) rfl ?_
    refine AOps.cons (op_load rfl rfl ty31 (vt rfl) (i := 7) rfl) rfl ?_
    refine AOps.cons (op_move (A := rd (ksl kAction) b4) rfl rfl (vt rfl)) rfl ?_
    refine AOps.cons (op_load rfl rfl ty59 (vt rfl) (i := 13) rfl) rfl ?_
    refine AOps.cons (op_call (xs := [.tmp 39, .tmp 40, .tmp 41, .tmp 42]) (c48 _ _ _ _ _ hx12) (Ent.mk Try.func48 rfl rfl) rfl rfl ⟨vt rfl, vt rfl, vt rfl, vt rfl, trivial⟩) rfl ?_
    refine AOps.cons (op_move (A := tup2 (rd (ksl kOut) x12.1) (rd (karr 24 kWide) x12.2)) rfl rfl (vt rfl)) rfl ?_
    refine AOps.cons (op_fst rfl rfl (vt rfl)) rfl ?_
    refine AOps.cons (op_snd rfl rfl (vt rfl)) rfl ?_
    refine AOps.consT rfl (op_alloc 15 rfl rfl zr59) ?_
    rintro _ ⟨g13, rfl⟩
    refine AOps.cons (op_assign (A := rd (ksl kOut) x12.1) rfl rfl (vt rfl)) rfl ?_
    refine AOps.cons (op_store rfl rfl ty59 (vt rfl) (i := 15) rfl (vt rfl)) rfl ?_
    refine AOps.nil ?_
    refine AW.seq ?_
    obtain ⟨x14, hx14, h⟩ := bsome h
    obtain ⟨l16, hl16, h⟩ := bsome h
    obtain ⟨x17, hx17, h⟩ := bsome h
    refine AW.regionAny [⟨[0], [47], [], []⟩, ⟨[6], [48], [7], []⟩, ⟨[2], [49], [], []⟩, ⟨[49], [50], [], []⟩, ⟨[3], [51], [], []⟩, ⟨[50, 51], [50, 52], [1002], []⟩, ⟨[9], [53], [10], []⟩, ⟨[47, 48, 52, 53], [54], [], []⟩, ⟨[54], [46], [], []⟩, ⟨[46], [55], [], []⟩, ⟨[46], [56], [], []⟩, ⟨[], [16], [], []⟩, ⟨[55], [15], [], []⟩, ⟨[16, 56], [16], [], []⟩] mixed (by kernel_rfl) ?_
    refine SeqA.cons (loc [0] [] rfl rfl fun S hs hr => op_move (A := rd (ksl kGroup) l1) rfl rfl (vt ((hs 0 rfl).trans rfl))) ⟨rfl, rfl, rfl, rfl⟩ ?_
    refine SeqA.cons (loc [6] [7] rfl rfl fun S hs hr => op_load rfl rfl ty31 (vt ((hs 6 rfl).trans rfl)) (i := 7) ((hr 7 rfl).trans rfl)) ⟨rfl, rfl, rfl, rfl⟩ ?_
    refine SeqA.cons (loc [2] [] rfl rfl fun S hs hr => op_move (A := rd (ksl kAction) a3) rfl rfl (vt ((hs 2 rfl).trans rfl))) ⟨rfl, rfl, rfl, rfl⟩ ?_
    refine SeqA.cons (locs (us := [(50, ownR 82 kAction x14)]) (ur := []) [49] [] rfl fun S hs hr => op_callO (xs := [.tmp 49]) (c49o _ _ hx14) (Ent.mk Try.func49 rfl rfl) rfl rfl rfl ⟨vt ((hs 49 rfl).trans rfl), trivial⟩) ⟨rfl, rfl, rfl, rfl⟩ ?_
    refine SeqA.cons (loc [3] [] rfl rfl fun S hs hr => op_move (A := rd (ksl kAction) b4) rfl rfl (vt ((hs 3 rfl).trans rfl))) ⟨rfl, rfl, rfl, rfl⟩ ?_
    refine SeqA.cons (locs (us := [(50, top), (52, rd (ksl kAction) l16)]) (ur := []) [50, 51] [1002] rfl fun S hs hr => op_appendF 1002 rfl hl16 rfl rfl rfl el73 ((hs 50 rfl).trans rfl) ((hr 1002 rfl).trans rfl) (fun v => vtS rfl ((hs 51 rfl).trans rfl))) ⟨rfl, rfl, rfl, rfl⟩ ?_
    refine SeqA.cons (loc [9] [10] rfl rfl fun S hs hr => op_load rfl rfl ty59 (vt ((hs 9 rfl).trans rfl)) (i := 10) ((hr 10 rfl).trans rfl)) ⟨rfl, rfl, rfl, rfl⟩ ?_
    refine SeqA.cons (loc [47, 48, 52, 53] [] rfl rfl fun S hs hr => op_call (xs := [.tmp 47, .tmp 48, .tmp 52, .tmp 53]) (c48 _ _ _ _ _ hx17) (Ent.mk Try.func48 rfl rfl) rfl rfl ⟨vt ((hs 47 rfl).trans rfl), vt ((hs 48 rfl).trans rfl), vt ((hs 52 rfl).trans rfl), vt ((hs 53 rfl).trans rfl), trivial⟩) ⟨rfl, rfl, rfl, rfl⟩ ?_
    refine SeqA.cons (loc [54] [] rfl rfl fun S hs hr => op_move (A := tup2 (rd (ksl kOut) x17.1) (rd (karr 24 kWide) x17.2)) rfl rfl (vt ((hs 54 rfl).trans rfl))) ⟨rfl, rfl, rfl, rfl⟩ ?_
    refine SeqA.cons (loc [46] [] rfl rfl fun S hs hr => op_fst rfl rfl (vt ((hs 46 rfl).trans rfl))) ⟨rfl, rfl, rfl, rfl⟩ ?_
    refine SeqA.cons (loc [46] [] rfl rfl fun S hs hr => op_snd rfl rfl (vt ((hs 46 rfl).trans rfl))) ⟨rfl, rfl, rfl, rfl⟩ ?_
    refine SeqA.cons (locs (us := [(16, ownP 59 (karr 24 kWide) (Vector.replicate 24 zWide))]) (ur := []) [] [] rfl fun S hs hr => op_allocO rfl rfl rfl zr59) ⟨rfl, rfl, rfl, rfl⟩ ?_
    refine SeqA.cons (loc [55] [] rfl rfl fun S hs hr => op_assign (A := rd (ksl kOut) x17.1) rfl rfl (vt ((hs 55 rfl).trans rfl))) ⟨rfl, rfl, rfl, rfl⟩ ?_
    refine SeqA.cons (locs (us := [(16, ownP 59 (karr 24 kWide) x17.2)]) (ur := []) [16, 56] [] rfl fun S hs hr => op_storeO rfl rfl ty59 ((hs 16 rfl).trans rfl) (vt ((hs 56 rfl).trans rfl))) ⟨rfl, rfl, rfl, rfl⟩ ?_
    refine AW.unpackP 16 17 rfl rfl fun g18 => ?_
    refine AW.seq ?_
    obtain ⟨x19, hx19, h⟩ := bsome h
    obtain ⟨l21, hl21, h⟩ := bsome h
    obtain ⟨x23, hx23, h⟩ := bsome h
    obtain ⟨x24, hx24, h⟩ := bsome h
    refine AW.region ?_
    refine AOps.cons (op_move (A := rd (ksl kOut) x10.1) rfl rfl (vt rfl)) rfl ?_
    refine AOps.consT rfl (op_callR 1003 (xs := [.tmp 57]) (c51o _ _ hx19) (Ent.mk Try.func51 rfl rfl) rfl rfl ⟨vt rfl, trivial⟩ rfl) ?_
    rintro _ ⟨v20, rfl⟩
    refine AOps.cons (op_move (A := rd (ksl kOut) x12.1) rfl rfl (vt rfl)) rfl ?_
    refine AOps.consT rfl (op_append' 1003 hl21 rfl rfl el75 (vt rfl) rfl (vt rfl)) ?_
    rintro _ ⟨v22, rfl⟩
    refine AOps.cons (op_move (A := rd (ksl kOut) x17.1) rfl rfl (vt rfl)) rfl ?_
    refine AOps.cons (op_callB (xs := [.tmp 60, .tmp 61]) 1003 (c50 _ _ _ hx23) (Ent.mk Try.func50 rfl rfl) rfl rfl ⟨vL rfl rfl, vB (vt rfl), trivial⟩) rfl ?_
    refine AOps.cons (op_move (A := rd kbool x23) rfl rfl (vt rfl)) rfl ?_
    refine AOps.consG (OpG.guard rfl rfl rfl rfl rfl fun hq => op_load rfl rfl ty59 (vt rfl) (i := 15) rfl) ?_
    refine AOps.consG (OpG.guard rfl rfl rfl rfl rfl fun hq => op_load rfl rfl ty59 (vt rfl) (i := 17) rfl) ?_
    refine AOps.consG (OpG.guard rfl rfl rfl rfl rfl fun hq => op_eqlk rfl rfl eqk59 (by decide) rfl eg59 (vgt rfl hq) (vgt rfl hq)) ?_
    refine AOps.cons (op_all rfl rfl (vt rfl) (vt rfl)) rfl ?_
    refine AOps.cons (op_move (A := rd kbool (x23 && (decide (x12.2 = x17.2)))) rfl rfl (vt rfl)) rfl ?_
    refine AOps.consG (OpG.guard rfl rfl rfl rfl rfl fun hq => op_call (xs := []) (c47 _ (opt_t hx24 hq)) (Ent.mk Try.func47 rfl rfl) rfl rfl trivial) ?_
    refine AOps.cons (op_all rfl rfl (vt rfl) (vt rfl)) rfl ?_
    refine AOps.cons (op_assign (A := rd kbool ((x23 && (decide (x12.2 = x17.2))) && x24)) rfl rfl (vt rfl)) rfl ?_
    refine AOps.nil ?_
    refine AW.ret ?_
    obtain rfl := Option.some.inj h
    exact ret1 Try.results7 rfl (out_tmp rfl)
-- weirbox/weirboxlaw30.ExecCopies$1
def F53 (a1 : Action) : Option Bool :=
  some ((decide (a1.Kind = 0)) || (decide (a1.Kind = 22)))
theorem c53 (a1 : Action) (r : Bool) (h : F53 a1 = some r) : PCon Try.prog 53 [rd kAction a1] (rd kbool r) := by
  refine PCon.of (Con.intro0 Try.func53 rfl Try.ntmps53 rfl fun w H => ?_)
  unfold F53 at h
  refine AW.seq ?_
  refine AW.region ?_
  refine AOps.consT rfl (op_box 2 rfl rfl (vt rfl)) ?_
  rintro _ ⟨g2, rfl⟩
  refine AOps.cons (op_assign (A := rd kbool false) rfl rfl vb) rfl ?_
  refine AOps.nil ?_
  refine AW.seq ?_
  refine AW.region ?_
  refine AOps.cons (op_field lAction_0 rfl rfl fl82_0 (vt rfl)) rfl ?_
  refine AOps.cons (op_load rfl rfl ty3 (vt rfl) (i := 2) rfl) rfl ?_
  refine AOps.cons (op_eql rfl rfl (vt rfl) (vk rfl)) rfl ?_
  refine AOps.cons (op_move (A := rd kbool (decide (a1.Kind = 0))) rfl rfl (vt rfl)) rfl ?_
  refine AOps.consG (OpG.guard rfl rfl rfl rfl rfl fun hq => op_field lAction_0 rfl rfl fl82_0 (vt rfl)) ?_
  refine AOps.consG (OpG.guard rfl rfl rfl rfl rfl fun hq => op_load rfl rfl ty3 (vgt rfl hq) (i := 2) rfl) ?_
  refine AOps.consG (OpG.guard rfl rfl rfl rfl rfl fun hq => op_eql rfl rfl (vgt rfl hq) (vk rfl)) ?_
  refine AOps.cons (op_any rfl rfl (vt rfl) (vt rfl)) rfl ?_
  refine AOps.cons (op_assign (A := rd kbool ((decide (a1.Kind = 0)) || (decide (a1.Kind = 22)))) rfl rfl (vt rfl)) rfl ?_
  refine AOps.nil ?_
  refine AW.ret ?_
  obtain rfl := Option.some.inj h
  exact ret1 Try.results53 rfl (out_tmp rfl)
-- weirbox/weirboxlaw30.ExecCopies
def F8 (l1 : (List Group)) (e2 : Env) (acts3 : (List Action)) (h4 : (Vector Wide 24)) : Option Bool :=
  (F46 l1 [acts3]).bind fun x7 => (bif ((!x7) || (decide ((e2.Down.length : Int) > 20))) then (F47).bind fun x8 => some x8 else (F49 acts3).bind fun x9 => (F52 x9 F53).bind fun x11 => (F48 l1 e2 acts3 h4).bind fun x13 => (F48 [] (⟨0, []⟩ : Env) x11 h4).bind fun x15 => (opt ((decide (x13.2 = x15.2)) && (decide ((x15.1.length : Int) = 0))) (F47)).bind fun x17 => some (((decide (x13.2 = x15.2)) && (decide ((x15.1.length : Int) = 0))) && x17))
theorem c8 (l1 : (List Group)) (e2 : Env) (acts3 : (List Action)) (h4 : (Vector Wide 24)) (r : Bool) (h : F8 l1 e2 acts3 h4 = some r) : PCon Try.prog 8 [rd (ksl kGroup) l1, rd kEnv e2, rd (ksl kAction) acts3, rd (karr 24 kWide) h4] (rd kbool r) := by
  refine PCon.of (Con.intro0 Try.func8 rfl Try.ntmps8 rfl fun w H => ?_)
  unfold F8 at h
  refine AW.seq ?_
  refine AW.region ?_
  refine AOps.consT rfl (op_box 6 rfl rfl (vt rfl)) ?_
  rintro _ ⟨g5, rfl⟩
  refine AOps.consT rfl (op_box 8 rfl rfl (vt rfl)) ?_
  rintro _ ⟨g6, rfl⟩
  refine AOps.cons (op_assign (A := rd kbool false) rfl rfl vb) rfl ?_
  refine AOps.nil ?_
  refine AW.seq ?_
  refine AW.seq ?_
  obtain ⟨x7, hx7, h⟩ := bsome h
  refine AW.region ?_
  refine AOps.cons (op_move (A := rd (ksl kGroup) l1) rfl rfl (vt rfl)) rfl ?_
  refine AOps.cons (op_move (A := rd (ksl kAction) acts3) rfl rfl (vt rfl)) rfl ?_
  refine AOps.cons (op_buildSliceR (ps := [(0, .tmp 15)]) (l := [acts3]) rfl rfl sl137 zr73 rfl rfl ⟨_, _, Lens.idx 1 (ksl kAction) 0 (by decide), _, rfl, (vt rfl), rfl⟩ rfl) rfl ?_
  refine AOps.cons (op_call (xs := [.tmp 14, .tmp 16]) (c46 _ _ _ hx7) (Ent.mk Try.func46 rfl rfl) rfl rfl ⟨vt rfl, vt rfl, trivial⟩) rfl ?_
  refine AOps.cons (op_not rfl rfl (vt rfl)) rfl ?_
  refine AOps.cons (op_move (A := rd kbool (!x7)) rfl rfl (vt rfl)) rfl ?_
  refine AOps.consG (OpG.guard rfl rfl rfl rfl rfl fun hq => op_field lEnv_1 rfl rfl fl31_1 (vt rfl)) ?_
  refine AOps.consG (OpG.guard rfl rfl rfl rfl rfl fun hq => op_load rfl rfl ty29 (vgt rfl hq) (i := 6) rfl) ?_
  refine AOps.consG (OpG.guard rfl rfl rfl rfl rfl fun hq => op_len' rfl rfl sl29 (vgt rfl hq)) ?_
  refine AOps.consG (OpG.guard rfl rfl rfl rfl rfl fun hq => op_gtr rfl rfl (vgt rfl hq) (vk rfl)) ?_
  refine AOps.cons (op_any rfl rfl (vt rfl) (vt rfl)) rfl ?_
  refine AOps.nil ?_
  refine AW.cond (vt rfl) (fun hc => ?_) (fun hc => ?_)
  · have h := cond_t hc h
    refine AW.seq ?_
    obtain ⟨x8, hx8, h⟩ := bsome h
    refine AW.region ?_
    refine AOps.cons (op_call (xs := []) (c47 _ hx8) (Ent.mk Try.func47 rfl rfl) rfl rfl trivial) rfl ?_
    refine AOps.cons (op_assign (A := rd kbool x8) rfl rfl (vt rfl)) rfl ?_
    refine AOps.nil ?_
    refine AW.ret ?_
    obtain rfl := Option.some.inj h
    exact ret1 Try.results8 rfl (out_tmp rfl)
  · have h := cond_f hc h
    refine AW.skip ?_
    refine AW.seq ?_
    obtain ⟨x9, hx9, h⟩ := bsome h
    obtain ⟨x11, hx11, h⟩ := bsome h
    refine AW.region ?_
    refine AOps.cons (op_move (A := rd (ksl kAction) acts3) rfl rfl (vt rfl)) rfl ?_
    refine AOps.consT rfl (op_callR 1001 (xs := [.tmp 26]) (c49o _ _ hx9) (Ent.mk Try.func49 rfl rfl) rfl rfl ⟨vt rfl, trivial⟩ rfl) ?_
    rintro _ ⟨v10, rfl⟩
    refine AOps.consT rfl (op_callR 1001 (xs := [.tmp 27, .func 53]) (c52o _ _ _ _ hx11) (Ent.mk Try.func52 rfl rfl) rfl rfl ⟨vt rfl, vf1 (Ent.mk Try.func53 rfl rfl) c53, trivial⟩ rfl) ?_
    rintro _ ⟨v12, rfl⟩
    refine AOps.cons (op_assign (A := raw v12) rfl rfl (vt rfl)) rfl ?_
    refine AOps.nil ?_
    refine AW.seq ?_
    obtain ⟨x13, hx13, h⟩ := bsome h
    refine AW.region ?_
    refine AOps.cons (op_move (A := rd (ksl kGroup) l1) rfl rfl (vt rfl)) rfl ?_
    refine AOps.cons (op_load rfl rfl ty31 (vt rfl) (i := 6) rfl) rfl ?_
    refine AOps.cons (op_move (A := rd (ksl kAction) acts3) rfl rfl (vt rfl)) rfl ?_
    refine AOps.cons (op_load rfl rfl ty59 (vt rfl) (i := 8) rfl) rfl ?_
    refine AOps.cons (op_call (xs := [.tmp 30, .tmp 31, .tmp 32, .tmp 33]) (c48 _ _ _ _ _ hx13) (Ent.mk Try.func48 rfl rfl) rfl rfl ⟨vt rfl, vt rfl, vt rfl, vt rfl, trivial⟩) rfl ?_
    refine AOps.cons (op_move (A := tup2 (rd (ksl kOut) x13.1) (rd (karr 24 kWide) x13.2)) rfl rfl (vt rfl)) rfl ?_
    refine AOps.cons (op_fst rfl rfl (vt rfl)) rfl ?_
    refine AOps.cons (op_snd rfl rfl (vt rfl)) rfl ?_
    refine AOps.consT rfl (op_alloc 12 rfl rfl zr59) ?_
    rintro _ ⟨g14, rfl⟩
    refine AOps.cons (op_assign (A := rd (ksl kOut) x13.1) rfl rfl (vt rfl)) rfl ?_
    refine AOps.cons (op_store rfl rfl ty59 (vt rfl) (i := 12) rfl (vt rfl)) rfl ?_
    refine AOps.nil ?_
    refine AW.seq ?_
    refine AW.freezes [9, 28] 1001 rfl ⟨rfl, rfl, trivial⟩ rfl ?_
    obtain ⟨x15, hx15, h⟩ := bsome h
    refine AW.region ?_
    refine AOps.cons (op_build (ps := []) (x := (⟨0, []⟩ : Env)) rfl rfl rfl (by kernel_rfl) zr31 rfl) rfl ?_
    refine AOps.cons (op_move (A := rd (ksl kAction) x11) rfl rfl (vt rfl)) rfl ?_
    refine AOps.cons (op_load rfl rfl ty59 (vt rfl) (i := 8) rfl) rfl ?_
    refine AOps.cons (op_call (xs := [.const (Value.slice none 0 0), .tmp 38, .tmp 39, .tmp 40]) (c48 _ _ _ _ _ hx15) (Ent.mk Try.func48 rfl rfl) rfl rfl ⟨vnil, vt rfl, vt rfl, vt rfl, trivial⟩) rfl ?_
    refine AOps.cons (op_move (A := tup2 (rd (ksl kOut) x15.1) (rd (karr 24 kWide) x15.2)) rfl rfl (vt rfl)) rfl ?_
    refine AOps.cons (op_fst rfl rfl (vt rfl)) rfl ?_
    refine AOps.cons (op_snd rfl rfl (vt rfl)) rfl ?_
    refine AOps.consT rfl (op_alloc 14 rfl rfl zr59) ?_
    rintro _ ⟨g16, rfl⟩
    refine AOps.cons (op_assign (A := rd (ksl kOut) x15.1) rfl rfl (vt rfl)) rfl ?_
    refine AOps.cons (op_store rfl rfl ty59 (vt rfl) (i := 14) rfl (vt rfl)) rfl ?_
    refine AOps.nil ?_
    refine AW.seq ?_
    obtain ⟨x17, hx17, h⟩ := bsome h
    refine AW.region ?_
    refine AOps.cons (op_load rfl rfl ty59 (vt rfl) (i := 12) rfl) rfl ?_
    refine AOps.cons (op_load rfl rfl ty59 (vt rfl) (i := 14) rfl) rfl ?_
    refine AOps.cons (op_eqlk rfl rfl eqk59 (by decide) rfl eg59 (vt rfl) (vt rfl)) rfl ?_
    refine AOps.cons (op_move (A := rd kbool (decide (x13.2 = x15.2))) rfl rfl (vt rfl)) rfl ?_
    refine AOps.consG (OpG.guard rfl rfl rfl rfl rfl fun hq => op_move (A := rd (ksl kOut) x15.1) rfl rfl (vt rfl)) ?_
    refine AOps.consG (OpG.guard rfl rfl rfl rfl rfl fun hq => op_len' rfl rfl sl75 (vgt rfl hq)) ?_
    refine AOps.consG (OpG.guard rfl rfl rfl rfl rfl fun hq => op_eql rfl rfl (vgt rfl hq) (vk rfl)) ?_
    refine AOps.cons (op_all rfl rfl (vt rfl) (vt rfl)) rfl ?_
    refine AOps.cons (op_move (A := rd kbool ((decide (x13.2 = x15.2)) && (decide ((x15.1.length : Int) = 0)))) rfl rfl (vt rfl)) rfl ?_
    refine AOps.consG (OpG.guard rfl rfl rfl rfl rfl fun hq => op_call (xs := []) (c47 _ (opt_t hx17 hq)) (Ent.mk Try.func47 rfl rfl) rfl rfl trivial) ?_
    refine AOps.cons (op_all rfl rfl (vt rfl) (vt rfl)) rfl ?_
    refine AOps.cons (op_assign (A := rd kbool (((decide (x13.2 = x15.2)) && (decide ((x15.1.length : Int) = 0))) && x17)) rfl rfl (vt rfl)) rfl ?_
    refine AOps.nil ?_
    refine AW.ret ?_
    obtain rfl := Option.some.inj h
    exact ret1 Try.results8 rfl (out_tmp rfl)
-- weirbox/weirboxlaw30.ExecRewrites
def F9_l2 (go1 : Nat → Option Bool) (i15 : Nat) (h4 : (Vector Wide 24)) (g5 : (Vector Wide 24)) (x11 : ((List Out) × (Vector Wide 24))) (x13 : ((List Out) × (Vector Wide 24))) : Nat → Nat → Option Bool
  | 0, i22 => go1 (i15 + 1)
  | m23 + 1, i22 => (chk 24 (i22 : Int)).bind fun j24 => (chk 24 (i22 : Int)).bind fun j25 => (opt (decide ((Vector.get h4 j24) = (Vector.get g5 j25))) (lget x11.1 (i15 : Int))).bind fun e26 => (opt (decide ((Vector.get h4 j24) = (Vector.get g5 j25))) (chk 24 (i22 : Int))).bind fun j27 => (opt (decide ((Vector.get h4 j24) = (Vector.get g5 j25))) (lget x13.1 (i15 : Int))).bind fun e28 => (opt (decide ((Vector.get h4 j24) = (Vector.get g5 j25))) (chk 24 (i22 : Int))).bind fun j29 => (bif ((decide ((Vector.get h4 j24) = (Vector.get g5 j25))) && (decide ((Vector.get e26.Header j27) ≠ (Vector.get e28.Header j29)))) then some false else (F9_l2 go1 i15 h4 g5 x11 x13 m23) (i22 + 1))
def F9_l1 (x11 : ((List Out) × (Vector Wide 24))) (x13 : ((List Out) × (Vector Wide 24))) (h4 : (Vector Wide 24)) (g5 : (Vector Wide 24)) : Nat → Nat → Option Bool
  | 0, i15 => (F47).bind fun x17 => some x17
  | m16 + 1, i15 => (lget x11.1 (i15 : Int)).bind fun e18 => (lget x13.1 (i15 : Int)).bind fun e19 => (opt (!(decide (e18.Port ≠ e19.Port))) (lget x11.1 (i15 : Int))).bind fun e20 => (opt (!(decide (e18.Port ≠ e19.Port))) (lget x13.1 (i15 : Int))).bind fun e21 => (bif ((decide (e18.Port ≠ e19.Port)) || (decide (e20.Max ≠ e21.Max))) then some false else F9_l2 (F9_l1 x11 x13 h4 g5 m16) i15 h4 g5 x11 x13 (24 : Int).toNat 0)
def F9 (l1 : (List Group)) (e2 : Env) (acts3 : (List Action)) (h4 : (Vector Wide 24)) (g5 : (Vector Wide 24)) : Option Bool :=
  (F46 l1 [acts3]).bind fun x9 => (bif ((!x9) || (decide ((e2.Down.length : Int) > 20))) then (F47).bind fun x10 => some x10 else (F48 l1 e2 acts3 h4).bind fun x11 => (F48 l1 e2 acts3 g5).bind fun x13 => (bif (decide ((x11.1.length : Int) ≠ (x13.1.length : Int))) then some false else F9_l1 x11 x13 h4 g5 ((x11.1.length : Int) : Int).toNat 0))
theorem c9 (l1 : (List Group)) (e2 : Env) (acts3 : (List Action)) (h4 : (Vector Wide 24)) (g5 : (Vector Wide 24)) (r : Bool) (h : F9 l1 e2 acts3 h4 g5 = some r) : PCon Try.prog 9 [rd (ksl kGroup) l1, rd kEnv e2, rd (ksl kAction) acts3, rd (karr 24 kWide) h4, rd (karr 24 kWide) g5] (rd kbool r) := by
  refine PCon.of (Con.intro0 Try.func9 rfl Try.ntmps9 rfl fun w H => ?_)
  unfold F9 at h
  refine AW.seq ?_
  refine AW.region ?_
  refine AOps.consT rfl (op_box 7 rfl rfl (vt rfl)) ?_
  rintro _ ⟨g6, rfl⟩
  refine AOps.consT rfl (op_box 9 rfl rfl (vt rfl)) ?_
  rintro _ ⟨g7, rfl⟩
  refine AOps.consT rfl (op_box 10 rfl rfl (vt rfl)) ?_
  rintro _ ⟨g8, rfl⟩
  refine AOps.cons (op_assign (A := rd kbool false) rfl rfl vb) rfl ?_
  refine AOps.nil ?_
  refine AW.seq ?_
  refine AW.seq ?_
  obtain ⟨x9, hx9, h⟩ := bsome h
  refine AW.region ?_
  refine AOps.cons (op_move (A := rd (ksl kGroup) l1) rfl rfl (vt rfl)) rfl ?_
  refine AOps.cons (op_move (A := rd (ksl kAction) acts3) rfl rfl (vt rfl)) rfl ?_
  refine AOps.cons (op_buildSliceR (ps := [(0, .tmp 18)]) (l := [acts3]) rfl rfl sl137 zr73 rfl rfl ⟨_, _, Lens.idx 1 (ksl kAction) 0 (by decide), _, rfl, (vt rfl), rfl⟩ rfl) rfl ?_
  refine AOps.cons (op_call (xs := [.tmp 17, .tmp 19]) (c46 _ _ _ hx9) (Ent.mk Try.func46 rfl rfl) rfl rfl ⟨vt rfl, vt rfl, trivial⟩) rfl ?_
  refine AOps.cons (op_not rfl rfl (vt rfl)) rfl ?_
  refine AOps.cons (op_move (A := rd kbool (!x9)) rfl rfl (vt rfl)) rfl ?_
  refine AOps.consG (OpG.guard rfl rfl rfl rfl rfl fun hq => op_field lEnv_1 rfl rfl fl31_1 (vt rfl)) ?_
  refine AOps.consG (OpG.guard rfl rfl rfl rfl rfl fun hq => op_load rfl rfl ty29 (vgt rfl hq) (i := 7) rfl) ?_
  refine AOps.consG (OpG.guard rfl rfl rfl rfl rfl fun hq => op_len' rfl rfl sl29 (vgt rfl hq)) ?_
  refine AOps.consG (OpG.guard rfl rfl rfl rfl rfl fun hq => op_gtr rfl rfl (vgt rfl hq) (vk rfl)) ?_
  refine AOps.cons (op_any rfl rfl (vt rfl) (vt rfl)) rfl ?_
  refine AOps.nil ?_
  refine AW.cond (vt rfl) (fun hc => ?_) (fun hc => ?_)
  · have h := cond_t hc h
    refine AW.seq ?_
    obtain ⟨x10, hx10, h⟩ := bsome h
    refine AW.region ?_
    refine AOps.cons (op_call (xs := []) (c47 _ hx10) (Ent.mk Try.func47 rfl rfl) rfl rfl trivial) rfl ?_
    refine AOps.cons (op_assign (A := rd kbool x10) rfl rfl (vt rfl)) rfl ?_
    refine AOps.nil ?_
    refine AW.ret ?_
    obtain rfl := Option.some.inj h
    exact ret1 Try.results9 rfl (out_tmp rfl)
  · have h := cond_f hc h
    refine AW.skip ?_
    refine AW.seq ?_
    obtain ⟨x11, hx11, h⟩ := bsome h
    refine AW.region ?_
    refine AOps.cons (op_move (A := rd (ksl kGroup) l1) rfl rfl (vt rfl)) rfl ?_
    refine AOps.cons (op_load rfl rfl ty31 (vt rfl) (i := 7) rfl) rfl ?_
    refine AOps.cons (op_move (A := rd (ksl kAction) acts3) rfl rfl (vt rfl)) rfl ?_
    refine AOps.cons (op_load rfl rfl ty59 (vt rfl) (i := 9) rfl) rfl ?_
    refine AOps.cons (op_call (xs := [.tmp 30, .tmp 31, .tmp 32, .tmp 33]) (c48 _ _ _ _ _ hx11) (Ent.mk Try.func48 rfl rfl) rfl rfl ⟨vt rfl, vt rfl, vt rfl, vt rfl, trivial⟩) rfl ?_
    refine AOps.cons (op_move (A := tup2 (rd (ksl kOut) x11.1) (rd (karr 24 kWide) x11.2)) rfl rfl (vt rfl)) rfl ?_
    refine AOps.cons (op_fst rfl rfl (vt rfl)) rfl ?_
    refine AOps.cons (op_snd rfl rfl (vt rfl)) rfl ?_
    refine AOps.consT rfl (op_alloc 13 rfl rfl zr59) ?_
    rintro _ ⟨g12, rfl⟩
    refine AOps.cons (op_assign (A := rd (ksl kOut) x11.1) rfl rfl (vt rfl)) rfl ?_
    refine AOps.cons (op_store rfl rfl ty59 (vt rfl) (i := 13) rfl (vt rfl)) rfl ?_
    refine AOps.nil ?_
    refine AW.seq ?_
    obtain ⟨x13, hx13, h⟩ := bsome h
    refine AW.region ?_
    refine AOps.cons (op_move (A := rd (ksl kGroup) l1) rfl rfl (vt rfl)) rfl ?_
    refine AOps.cons (op_load rfl rfl ty31 (vt rfl) (i := 7) rfl) rfl ?_
    refine AOps.cons (op_move (A := rd (ksl kAction) acts3) rfl rfl (vt rfl)) rfl ?_
    refine AOps.cons (op_load rfl rfl ty59 (vt rfl) (i := 10) rfl) rfl ?_
    refine AOps.cons (op_call (xs := [.tmp 38, .tmp 39, .tmp 40, .tmp 41]) (c48 _ _ _ _ _ hx13) (Ent.mk Try.func48 rfl rfl) rfl rfl ⟨vt rfl, vt rfl, vt rfl, vt rfl, trivial⟩) rfl ?_
    refine AOps.cons (op_move (A := tup2 (rd (ksl kOut) x13.1) (rd (karr 24 kWide) x13.2)) rfl rfl (vt rfl)) rfl ?_
    refine AOps.cons (op_fst rfl rfl (vt rfl)) rfl ?_
    refine AOps.cons (op_snd rfl rfl (vt rfl)) rfl ?_
    refine AOps.consT rfl (op_alloc 15 rfl rfl zr59) ?_
    rintro _ ⟨g14, rfl⟩
    refine AOps.cons (op_assign (A := rd (ksl kOut) x13.1) rfl rfl (vt rfl)) rfl ?_
    refine AOps.cons (op_store rfl rfl ty59 (vt rfl) (i := 15) rfl (vt rfl)) rfl ?_
    refine AOps.nil ?_
    refine AW.seq ?_
    refine AW.seq ?_
    refine AW.region ?_
    refine AOps.cons (op_move (A := rd (ksl kOut) x11.1) rfl rfl (vt rfl)) rfl ?_
    refine AOps.cons (op_len' rfl rfl sl75 (vt rfl)) rfl ?_
    refine AOps.cons (op_move (A := rd (ksl kOut) x13.1) rfl rfl (vt rfl)) rfl ?_
    refine AOps.cons (op_len' rfl rfl sl75 (vt rfl)) rfl ?_
    refine AOps.cons (op_neq rfl rfl (vt rfl) (vt rfl)) rfl ?_
    refine AOps.nil ?_
    refine AW.cond (vt rfl) (fun hc => ?_) (fun hc => ?_)
    · have h := cond_t hc h
      refine AW.seq ?_
      refine AW.region ?_
      refine AOps.cons (op_assign (A := rd kbool false) rfl rfl vb) rfl ?_
      refine AOps.nil ?_
      refine AW.ret ?_
      obtain rfl := Option.some.inj h
      exact ret1 Try.results9 rfl (out_tmp rfl)
    · have h := cond_f hc h
      refine AW.skip ?_
      refine AW.seq ?_
      refine AW.seq ?_
      refine AW.region ?_
      refine AOps.cons (op_move (A := rd (ksl kOut) x11.1) rfl rfl (vt rfl)) rfl ?_
      refine AOps.cons (op_len' rfl rfl sl75 (vt rfl)) rfl ?_
      refine AOps.cons (op_move (A := rd (kint .i64) 0) rfl rfl (vk rfl)) rfl ?_
      refine AOps.nil ?_
      refine AW.block ?_
      refine AW.loopG (d := []) (ν := Nat × Nat) (fun n => Cnt (x11.1.length : Int) n.2 n.1 ∧ F9_l1 x11 x13 h4 g5 n.1 n.2 = some r) (fun n => n.1) (fun n => [(8, ptrL g7 (Lens.id (karr 24 kWide))), (9, ptrL g8 (Lens.id (karr 24 kWide))), (11, rd (ksl kOut) x11.1), (13, rd (ksl kOut) x13.1), (51, rd (kint .i64) (x11.1.length : Int)), (52, rd (kint .i64) (n.2 : Int))]) (fun n => [(9, Blk g7 59 (karr 24 kWide) h4), (10, Blk g8 59 (karr 24 kWide) g5)]) (((x11.1.length : Int) : Int).toNat, 0) ⟨Cnt.start _, h⟩ ⟨rfl, ⟨rfl, rfl, rfl, rfl, rfl, rfl, trivial⟩, ⟨rfl, rfl, trivial⟩⟩ ?_
      rintro ⟨m16, i15⟩ ⟨hsf1, h⟩
      change Cnt (x11.1.length : Int) i15 m16 at hsf1
      change F9_l1 x11 x13 h4 g5 m16 i15 = some r at h
      change AW _ _ _ ⟨slots [(8, ptrL g7 (Lens.id (karr 24 kWide))), (9, ptrL g8 (Lens.id (karr 24 kWide))), (11, rd (ksl kOut) x11.1), (13, rd (ksl kOut) x13.1), (51, rd (kint .i64) (x11.1.length : Int)), (52, rd (kint .i64) (i15 : Int))], ress [(9, Blk g7 59 (karr 24 kWide) h4), (10, Blk g8 59 (karr 24 kWide) g5)], _⟩
      cases m16 with
      | zero =>
        unfold F9_l1 at h
        refine AW.seq ?_
        refine AW.region ?_
        refine AOps.cons (op_lss rfl rfl (vt rfl) (vt rfl)) rfl ?_
        refine AOps.nil ?_
        refine AW.seq ?_
        refine AW.cond (vt rfl) (fun hc => absurd (of_decide_eq_true hc) hsf1.zero) (fun hc => ?_)
        refine AW.exit ?_
        refine AW.seq ?_
        obtain ⟨x17, hx17, h⟩ := bsome h
        refine AW.region ?_
        refine AOps.cons (op_call (xs := []) (c47 _ hx17) (Ent.mk Try.func47 rfl rfl) rfl rfl trivial) rfl ?_
        refine AOps.cons (op_assign (A := rd kbool x17) rfl rfl (vt rfl)) rfl ?_
        refine AOps.nil ?_
        refine AW.ret ?_
        obtain rfl := Option.some.inj h
        exact ret1 Try.results9 rfl (out_tmp rfl)
      | succ m16 =>
        unfold F9_l1 at h
        generalize hgo1 : F9_l1 x11 x13 h4 g5 m16 = go1 at h
        refine AW.seq ?_
        refine AW.region ?_
        refine AOps.cons (op_lss rfl rfl (vt rfl) (vt rfl)) rfl ?_
        refine AOps.nil ?_
        refine AW.seq ?_
        refine AW.cond (vt rfl) (fun hc => ?_) (fun hc => absurd hsf1.succ (of_decide_eq_false hc))
        have hlti15 := of_decide_eq_true hc
        refine AW.skip ?_
        refine AW.seq ?_
        refine AW.block ?_
        refine AW.seq ?_
        refine AW.region ?_
        refine AOps.cons (op_move (A := rd (kint .i64) (i15 : Int)) rfl rfl (vt rfl)) rfl ?_
        refine AOps.cons (op_assign (A := rd (kint .i64) (i15 : Int)) rfl rfl (vt rfl)) rfl ?_
        refine AOps.nil ?_
        refine AW.seq ?_
        refine AW.seq ?_
        obtain ⟨e18, he18, h⟩ := bsome h
        obtain ⟨e19, he19, h⟩ := bsome h
        obtain ⟨e20, he20, h⟩ := bsome h
        obtain ⟨e21, he21, h⟩ := bsome h
        refine AW.regionAny [⟨[11], [55], [], []⟩, ⟨[15], [56], [], []⟩, ⟨[55, 56], [57], [], []⟩, ⟨[57], [58], [], []⟩, ⟨[58], [59], [], []⟩, ⟨[13], [60], [], []⟩, ⟨[15], [61], [], []⟩, ⟨[60, 61], [62], [], []⟩, ⟨[62], [63], [], []⟩, ⟨[63], [64], [], []⟩, ⟨[59, 64], [65], [], []⟩, ⟨[65], [66], [], []⟩, ⟨[11, 66], [67], [], []⟩, ⟨[15, 66], [68], [], []⟩, ⟨[67, 68, 66], [69], [], []⟩, ⟨[69, 66], [70], [], []⟩, ⟨[70, 66], [71], [], []⟩, ⟨[13, 66], [72], [], []⟩, ⟨[15, 66], [73], [], []⟩, ⟨[72, 73, 66], [74], [], []⟩, ⟨[74, 66], [75], [], []⟩, ⟨[75, 66], [76], [], []⟩, ⟨[71, 76, 66], [77], [], []⟩, ⟨[77, 66], [78], [], []⟩] mixed (by kernel_rfl) ?_
        refine SeqA.cons (loc [11] [] rfl rfl fun S hs hr => op_move (A := rd (ksl kOut) x11.1) rfl rfl (vt ((hs 11 rfl).trans rfl))) ⟨rfl, rfl, rfl, rfl⟩ ?_
        refine SeqA.cons (loc [15] [] rfl rfl fun S hs hr => op_move (A := rd (kint .i64) (i15 : Int)) rfl rfl (vt ((hs 15 rfl).trans rfl))) ⟨rfl, rfl, rfl, rfl⟩ ?_
        refine SeqA.cons (loc [55, 56] [] rfl rfl fun S hs hr => op_indexs' rfl rfl sl75 (vt ((hs 55 rfl).trans rfl)) (vt ((hs 56 rfl).trans rfl)) he18) ⟨rfl, rfl, rfl, rfl⟩ ?_
        refine SeqA.cons (loc [57] [] rfl rfl fun S hs hr => op_fieldp lOut_0 rfl rfl fl86_0 (vt ((hs 57 rfl).trans rfl))) ⟨rfl, rfl, rfl, rfl⟩ ?_
        refine SeqA.cons (loc [58] [] rfl rfl fun S hs hr => op_loadp rfl rfl ty3 (vt ((hs 58 rfl).trans rfl))) ⟨rfl, rfl, rfl, rfl⟩ ?_
        refine SeqA.cons (loc [13] [] rfl rfl fun S hs hr => op_move (A := rd (ksl kOut) x13.1) rfl rfl (vt ((hs 13 rfl).trans rfl))) ⟨rfl, rfl, rfl, rfl⟩ ?_
        refine SeqA.cons (loc [15] [] rfl rfl fun S hs hr => op_move (A := rd (kint .i64) (i15 : Int)) rfl rfl (vt ((hs 15 rfl).trans rfl))) ⟨rfl, rfl, rfl, rfl⟩ ?_
        refine SeqA.cons (loc [60, 61] [] rfl rfl fun S hs hr => op_indexs' rfl rfl sl75 (vt ((hs 60 rfl).trans rfl)) (vt ((hs 61 rfl).trans rfl)) he19) ⟨rfl, rfl, rfl, rfl⟩ ?_
        refine SeqA.cons (loc [62] [] rfl rfl fun S hs hr => op_fieldp lOut_0 rfl rfl fl86_0 (vt ((hs 62 rfl).trans rfl))) ⟨rfl, rfl, rfl, rfl⟩ ?_
        refine SeqA.cons (loc [63] [] rfl rfl fun S hs hr => op_loadp rfl rfl ty3 (vt ((hs 63 rfl).trans rfl))) ⟨rfl, rfl, rfl, rfl⟩ ?_
        refine SeqA.cons (loc [59, 64] [] rfl rfl fun S hs hr => op_neq rfl rfl (vt ((hs 59 rfl).trans rfl)) (vt ((hs 64 rfl).trans rfl))) ⟨rfl, rfl, rfl, rfl⟩ ?_
        refine SeqA.cons (loc [65] [] rfl rfl fun S hs hr => op_move (A := rd kbool (decide (e18.Port ≠ e19.Port))) rfl rfl (vt ((hs 65 rfl).trans rfl))) ⟨rfl, rfl, rfl, rfl⟩ ?_
        refine SeqA.cons (locg [11, 66] [] rfl rfl rfl rfl rfl rfl rfl fun hq S hs hr => op_move (A := rd (ksl kOut) x11.1) rfl rfl (vt ((hs 11 rfl).trans rfl))) ⟨rfl, rfl, rfl, rfl⟩ ?_
        refine SeqA.cons (locg [15, 66] [] rfl rfl rfl rfl rfl rfl rfl fun hq S hs hr => op_move (A := rd (kint .i64) (i15 : Int)) rfl rfl (vt ((hs 15 rfl).trans rfl))) ⟨rfl, rfl, rfl, rfl⟩ ?_
        refine SeqA.cons (locg [67, 68, 66] [] rfl rfl rfl rfl rfl rfl rfl fun hq S hs hr => op_indexs' rfl rfl sl75 (vgt ((hs 67 rfl).trans rfl) hq) (vgt ((hs 68 rfl).trans rfl) hq) (opt_f he20 hq)) ⟨rfl, rfl, rfl, rfl⟩ ?_
        refine SeqA.cons (locg [69, 66] [] rfl rfl rfl rfl rfl rfl rfl fun hq S hs hr => op_fieldp lOut_1 rfl rfl fl86_1 (vgt ((hs 69 rfl).trans rfl) hq)) ⟨rfl, rfl, rfl, rfl⟩ ?_
        refine SeqA.cons (locg [70, 66] [] rfl rfl rfl rfl rfl rfl rfl fun hq S hs hr => op_loadp rfl rfl ty3 (vgt ((hs 70 rfl).trans rfl) hq)) ⟨rfl, rfl, rfl, rfl⟩ ?_
        refine SeqA.cons (locg [13, 66] [] rfl rfl rfl rfl rfl rfl rfl fun hq S hs hr => op_move (A := rd (ksl kOut) x13.1) rfl rfl (vt ((hs 13 rfl).trans rfl))) ⟨rfl, rfl, rfl, rfl⟩ ?_
        refine SeqA.cons (locg [15, 66] [] rfl rfl rfl rfl rfl rfl rfl fun hq S hs hr => op_move (A := rd (kint .i64) (i15 : Int)) rfl rfl (vt ((hs 15 rfl).trans rfl))) ⟨rfl, rfl, rfl, rfl⟩ ?_
        refine SeqA.cons (locg [72, 73, 66] [] rfl rfl rfl rfl rfl rfl rfl fun hq S hs hr => op_indexs' rfl rfl sl75 (vgt ((hs 72 rfl).trans rfl) hq) (vgt ((hs 73 rfl).trans rfl) hq) (opt_f he21 hq)) ⟨rfl, rfl, rfl, rfl⟩ ?_
        refine SeqA.cons (locg [74, 66] [] rfl rfl rfl rfl rfl rfl rfl fun hq S hs hr => op_fieldp lOut_1 rfl rfl fl86_1 (vgt ((hs 74 rfl).trans rfl) hq)) ⟨rfl, rfl, rfl, rfl⟩ ?_
        refine SeqA.cons (locg [75, 66] [] rfl rfl rfl rfl rfl rfl rfl fun hq S hs hr => op_loadp rfl rfl ty3 (vgt ((hs 75 rfl).trans rfl) hq)) ⟨rfl, rfl, rfl, rfl⟩ ?_
        refine SeqA.cons (locg [71, 76, 66] [] rfl rfl rfl rfl rfl rfl rfl fun hq S hs hr => op_neq rfl rfl (vgt ((hs 71 rfl).trans rfl) hq) (vgt ((hs 76 rfl).trans rfl) hq)) ⟨rfl, rfl, rfl, rfl⟩ ?_
        refine SeqA.cons (loc [77, 66] [] rfl rfl fun S hs hr => op_any rfl rfl (vt ((hs 66 rfl).trans rfl)) (vt ((hs 77 rfl).trans rfl))) ⟨rfl, rfl, rfl, rfl⟩ ?_
        refine AW.cond (vt rfl) (fun hc => ?_) (fun hc => ?_)
        · have h := cond_t hc h
          refine AW.seq ?_
          refine AW.region ?_
          refine AOps.cons (op_assign (A := rd kbool false) rfl rfl vb) rfl ?_
          refine AOps.nil ?_
          refine AW.ret ?_
          obtain rfl := Option.some.inj h
          exact ret1 Try.results9 rfl (out_tmp rfl)
        · have h := cond_f hc h
          refine AW.skip ?_
          refine AW.seq ?_
          refine AW.region ?_
          refine AOps.cons (op_move (A := rd (kint .i64) 0) rfl rfl (vk rfl)) rfl ?_
          refine AOps.nil ?_
          refine AW.block ?_
          refine AW.loopG (d := []) (ν := Nat × Nat) (fun n => Cnt 24 n.2 n.1 ∧ F9_l2 go1 i15 h4 g5 x11 x13 n.1 n.2 = some r) (fun n => n.1) (fun n => [(8, ptrL g7 (Lens.id (karr 24 kWide))), (9, ptrL g8 (Lens.id (karr 24 kWide))), (11, rd (ksl kOut) x11.1), (13, rd (ksl kOut) x13.1), (15, rd (kint .i64) (i15 : Int)), (51, rd (kint .i64) (x11.1.length : Int)), (52, rd (kint .i64) (i15 : Int)), (79, rd (kint .i64) (n.2 : Int))]) (fun n => [(9, Blk g7 59 (karr 24 kWide) h4), (10, Blk g8 59 (karr 24 kWide) g5)]) ((24 : Int).toNat, 0) ⟨Cnt.start _, h⟩ ⟨rfl, ⟨rfl, rfl, rfl, rfl, rfl, rfl, rfl, rfl, trivial⟩, ⟨rfl, rfl, trivial⟩⟩ ?_
          rintro ⟨m23, i22⟩ ⟨hsf2, h⟩
          change Cnt 24 i22 m23 at hsf2
          change F9_l2 go1 i15 h4 g5 x11 x13 m23 i22 = some r at h
          change AW _ _ _ ⟨slots [(8, ptrL g7 (Lens.id (karr 24 kWide))), (9, ptrL g8 (Lens.id (karr 24 kWide))), (11, rd (ksl kOut) x11.1), (13, rd (ksl kOut) x13.1), (15, rd (kint .i64) (i15 : Int)), (51, rd (kint .i64) (x11.1.length : Int)), (52, rd (kint .i64) (i15 : Int)), (79, rd (kint .i64) (i22 : Int))], ress [(9, Blk g7 59 (karr 24 kWide) h4), (10, Blk g8 59 (karr 24 kWide) g5)], _⟩
          cases m23 with
          | zero =>
            unfold F9_l2 at h
            refine AW.seq ?_
            refine AW.region ?_
            refine AOps.cons (op_lss rfl rfl (vt rfl) (vk rfl)) rfl ?_
            refine AOps.nil ?_
            refine AW.seq ?_
            refine AW.cond (vt rfl) (fun hc => absurd (of_decide_eq_true hc) hsf2.zero) (fun hc => ?_)
            refine AW.exit ?_
            refine AW.region ?_
            refine AOps.cons (op_incr (t := 51) rfl rfl (vt rfl) (vk rfl) (vt rfl) hlti15) rfl ?_
            refine AOps.cons (op_move (A := rd (kint .i64) ((i15 + 1 : Nat) : Int)) rfl rfl (vt rfl)) rfl ?_
            refine AOps.nil ?_
            subst hgo1
            exact ⟨(m16, i15 + 1), Nat.lt_succ_self _, ⟨hsf1.next, h⟩, ⟨rfl, ⟨rfl, rfl, rfl, rfl, rfl, rfl, trivial⟩, ⟨rfl, rfl, trivial⟩⟩⟩
          | succ m23 =>
            unfold F9_l2 at h
            generalize hgo2 : F9_l2 go1 i15 h4 g5 x11 x13 m23 = go2 at h
            refine AW.seq ?_
            refine AW.region ?_
            refine AOps.cons (op_lss rfl rfl (vt rfl) (vk rfl)) rfl ?_
            refine AOps.nil ?_
            refine AW.seq ?_
            refine AW.cond (vt rfl) (fun hc => ?_) (fun hc => absurd hsf2.succ (of_decide_eq_false hc))
            have hlti22 := of_decide_eq_true hc
            refine AW.skip ?_
            refine AW.seq ?_
            refine AW.block ?_
            refine AW.seq ?_
            refine AW.region ?_
            refine AOps.cons (op_move (A := rd (kint .i64) (i22 : Int)) rfl rfl (vt rfl)) rfl ?_
            refine AOps.cons (op_assign (A := rd (kint .i64) (i22 : Int)) rfl rfl (vt rfl)) rfl ?_
            refine AOps.nil ?_
            refine AW.seq ?_
            obtain ⟨j24, hj24, h⟩ := bsome h
            obtain ⟨j25, hj25, h⟩ := bsome h
            obtain ⟨e26, he26, h⟩ := bsome h
            obtain ⟨j27, hj27, h⟩ := bsome h
            obtain ⟨e28, he28, h⟩ := bsome h
            obtain ⟨j29, hj29, h⟩ := bsome h
            refine AW.regionAny [⟨[16], [82], [], []⟩, ⟨[8, 82], [83], [], []⟩, ⟨[83], [84], [9], []⟩, ⟨[16], [85], [], []⟩, ⟨[9, 85], [86], [], []⟩, ⟨[86], [87], [10], []⟩, ⟨[84, 87], [88], [], []⟩, ⟨[88], [89], [], []⟩, ⟨[11, 89], [90], [], []⟩, ⟨[15, 89], [91], [], []⟩, ⟨[16, 89], [92], [], []⟩, ⟨[90, 91, 89], [93], [], []⟩, ⟨[93, 89], [94], [], []⟩, ⟨[94, 92, 89], [95], [], []⟩, ⟨[95, 89], [96], [], []⟩, ⟨[13, 89], [97], [], []⟩, ⟨[15, 89], [98], [], []⟩, ⟨[16, 89], [99], [], []⟩, ⟨[97, 98, 89], [100], [], []⟩, ⟨[100, 89], [101], [], []⟩, ⟨[101, 99, 89], [102], [], []⟩, ⟨[102, 89], [103], [], []⟩, ⟨[96, 103, 89], [104], [], []⟩, ⟨[104, 89], [105], [], []⟩] mixed (by kernel_rfl) ?_
            refine SeqA.cons (loc [16] [] rfl rfl fun S hs hr => op_move (A := rd (kint .i64) (i22 : Int)) rfl rfl (vt ((hs 16 rfl).trans rfl))) ⟨rfl, rfl, rfl, rfl⟩ ?_
            refine SeqA.cons (loc [8, 82] [] rfl rfl fun S hs hr => op_index' rfl rfl ar59 (vt ((hs 8 rfl).trans rfl)) (vt ((hs 82 rfl).trans rfl)) hj24) ⟨rfl, rfl, rfl, rfl⟩ ?_
            refine SeqA.cons (loc [83] [9] rfl rfl fun S hs hr => op_load rfl rfl ty52 (vt ((hs 83 rfl).trans rfl)) (i := 9) ((hr 9 rfl).trans rfl)) ⟨rfl, rfl, rfl, rfl⟩ ?_
            refine SeqA.cons (loc [16] [] rfl rfl fun S hs hr => op_move (A := rd (kint .i64) (i22 : Int)) rfl rfl (vt ((hs 16 rfl).trans rfl))) ⟨rfl, rfl, rfl, rfl⟩ ?_
            refine SeqA.cons (loc [9, 85] [] rfl rfl fun S hs hr => op_index' rfl rfl ar59 (vt ((hs 9 rfl).trans rfl)) (vt ((hs 85 rfl).trans rfl)) hj25) ⟨rfl, rfl, rfl, rfl⟩ ?_
            refine SeqA.cons (loc [86] [10] rfl rfl fun S hs hr => op_load rfl rfl ty52 (vt ((hs 86 rfl).trans rfl)) (i := 10) ((hr 10 rfl).trans rfl)) ⟨rfl, rfl, rfl, rfl⟩ ?_
            refine SeqA.cons (loc [84, 87] [] rfl rfl fun S hs hr => op_eqlk rfl rfl eqk52 (by decide) rfl eg52 (vt ((hs 84 rfl).trans rfl)) (vt ((hs 87 rfl).trans rfl))) ⟨rfl, rfl, rfl, rfl⟩ ?_
            refine SeqA.cons (loc [88] [] rfl rfl fun S hs hr => op_move (A := rd kbool (decide ((Vector.get h4 j24) = (Vector.get g5 j25)))) rfl rfl (vt ((hs 88 rfl).trans rfl))) ⟨rfl, rfl, rfl, rfl⟩ ?_
            refine SeqA.cons (locg [11, 89] [] rfl rfl rfl rfl rfl rfl rfl fun hq S hs hr => op_move (A := rd (ksl kOut) x11.1) rfl rfl (vt ((hs 11 rfl).trans rfl))) ⟨rfl, rfl, rfl, rfl⟩ ?_
            refine SeqA.cons (locg [15, 89] [] rfl rfl rfl rfl rfl rfl rfl fun hq S hs hr => op_move (A := rd (kint .i64) (i15 : Int)) rfl rfl (vt ((hs 15 rfl).trans rfl))) ⟨rfl, rfl, rfl, rfl⟩ ?_
            refine SeqA.cons (locg [16, 89] [] rfl rfl rfl rfl rfl rfl rfl fun hq S hs hr => op_move (A := rd (kint .i64) (i22 : Int)) rfl rfl (vt ((hs 16 rfl).trans rfl))) ⟨rfl, rfl, rfl, rfl⟩ ?_
            refine SeqA.cons (locg [90, 91, 89] [] rfl rfl rfl rfl rfl rfl rfl fun hq S hs hr => op_indexs' rfl rfl sl75 (vgt ((hs 90 rfl).trans rfl) hq) (vgt ((hs 91 rfl).trans rfl) hq) (opt_t he26 hq)) ⟨rfl, rfl, rfl, rfl⟩ ?_
            refine SeqA.cons (locg [93, 89] [] rfl rfl rfl rfl rfl rfl rfl fun hq S hs hr => op_fieldp lOut_2 rfl rfl fl86_2 (vgt ((hs 93 rfl).trans rfl) hq)) ⟨rfl, rfl, rfl, rfl⟩ ?_
            refine SeqA.cons (locg [94, 92, 89] [] rfl rfl rfl rfl rfl rfl rfl fun hq S hs hr => op_indexp' rfl rfl ar59 (vgt ((hs 94 rfl).trans rfl) hq) (vgt ((hs 92 rfl).trans rfl) hq) (opt_t hj27 hq)) ⟨rfl, rfl, rfl, rfl⟩ ?_
            refine SeqA.cons (locg [95, 89] [] rfl rfl rfl rfl rfl rfl rfl fun hq S hs hr => op_loadp rfl rfl ty52 (vgt ((hs 95 rfl).trans rfl) hq)) ⟨rfl, rfl, rfl, rfl⟩ ?_
            refine SeqA.cons (locg [13, 89] [] rfl rfl rfl rfl rfl rfl rfl fun hq S hs hr => op_move (A := rd (ksl kOut) x13.1) rfl rfl (vt ((hs 13 rfl).trans rfl))) ⟨rfl, rfl, rfl, rfl⟩ ?_
            refine SeqA.cons (locg [15, 89] [] rfl rfl rfl rfl rfl rfl rfl fun hq S hs hr => op_move (A := rd (kint .i64) (i15 : Int)) rfl rfl (vt ((hs 15 rfl).trans rfl))) ⟨rfl, rfl, rfl, rfl⟩ ?_
            refine SeqA.cons (locg [16, 89] [] rfl rfl rfl rfl rfl rfl rfl fun hq S hs hr => op_move (A := rd (kint .i64) (i22 : Int)) rfl rfl (vt ((hs 16 rfl).trans rfl))) ⟨rfl, rfl, rfl, rfl⟩ ?_
            refine SeqA.cons (locg [97, 98, 89] [] rfl rfl rfl rfl rfl rfl rfl fun hq S hs hr => op_indexs' rfl rfl sl75 (vgt ((hs 97 rfl).trans rfl) hq) (vgt ((hs 98 rfl).trans rfl) hq) (opt_t he28 hq)) ⟨rfl, rfl, rfl, rfl⟩ ?_
            refine SeqA.cons (locg [100, 89] [] rfl rfl rfl rfl rfl rfl rfl fun hq S hs hr => op_fieldp lOut_2 rfl rfl fl86_2 (vgt ((hs 100 rfl).trans rfl) hq)) ⟨rfl, rfl, rfl, rfl⟩ ?_
            refine SeqA.cons (locg [101, 99, 89] [] rfl rfl rfl rfl rfl rfl rfl fun hq S hs hr => op_indexp' rfl rfl ar59 (vgt ((hs 101 rfl).trans rfl) hq) (vgt ((hs 99 rfl).trans rfl) hq) (opt_t hj29 hq)) ⟨rfl, rfl, rfl, rfl⟩ ?_
            refine SeqA.cons (locg [102, 89] [] rfl rfl rfl rfl rfl rfl rfl fun hq S hs hr => op_loadp rfl rfl ty52 (vgt ((hs 102 rfl).trans rfl) hq)) ⟨rfl, rfl, rfl, rfl⟩ ?_
            refine SeqA.cons (locg [96, 103, 89] [] rfl rfl rfl rfl rfl rfl rfl fun hq S hs hr => op_neqk rfl rfl eqk52 (by decide) rfl eg52 (vgt ((hs 96 rfl).trans rfl) hq) (vgt ((hs 103 rfl).trans rfl) hq)) ⟨rfl, rfl, rfl, rfl⟩ ?_
            refine SeqA.cons (loc [104, 89] [] rfl rfl fun S hs hr => op_all rfl rfl (vt ((hs 89 rfl).trans rfl)) (vt ((hs 104 rfl).trans rfl))) ⟨rfl, rfl, rfl, rfl⟩ ?_
            refine AW.cond (vt rfl) (fun hc => ?_) (fun hc => ?_)
            · have h := cond_t hc h
              refine AW.seq ?_
              refine AW.region ?_
              refine AOps.cons (op_assign (A := rd kbool false) rfl rfl vb) rfl ?_
              refine AOps.nil ?_
              refine AW.ret ?_
              obtain rfl := Option.some.inj h
              exact ret1 Try.results9 rfl (out_tmp rfl)
            · have h := cond_f hc h
              refine AW.skip ?_
              refine AW.region ?_
              refine AOps.cons (op_incrc rfl rfl (vt rfl) (vk rfl) rfl hlti22) rfl ?_
              refine AOps.cons (op_move (A := rd (kint .i64) ((i22 + 1 : Nat) : Int)) rfl rfl (vt rfl)) rfl ?_
              refine AOps.nil ?_
              subst hgo2
              exact ⟨(m23, i22 + 1), Nat.lt_succ_self _, ⟨hsf2.next, h⟩, ⟨rfl, ⟨rfl, rfl, rfl, rfl, rfl, rfl, rfl, rfl, trivial⟩, ⟨rfl, rfl, trivial⟩⟩⟩
-- weirbox/weirboxplain.Atoms
def F33 (l1 : (List Atom)) : Option Bool :=
  some (decide ((l1.length : Int) ≤ 12))
theorem c33 (l1 : (List Atom)) (r : Bool) (h : F33 l1 = some r) : PCon Try.prog 33 [rd (ksl kAtom) l1] (rd kbool r) := by
  refine PCon.of (Con.intro0 Try.func33 rfl Try.ntmps33 rfl fun w H => ?_)
  unfold F33 at h
  refine AW.seq ?_
  refine AW.region ?_
  refine AOps.cons (op_assign (A := rd kbool false) rfl rfl vb) rfl ?_
  refine AOps.nil ?_
  refine AW.seq ?_
  refine AW.region ?_
  refine AOps.cons (op_move (A := rd (ksl kAtom) l1) rfl rfl (vt rfl)) rfl ?_
  refine AOps.cons (op_len' rfl rfl sl57 (vt rfl)) rfl ?_
  refine AOps.cons (op_leq rfl rfl (vt rfl) (vk rfl)) rfl ?_
  refine AOps.cons (op_assign (A := rd kbool (decide ((l1.length : Int) ≤ 12))) rfl rfl (vt rfl)) rfl ?_
  refine AOps.nil ?_
  refine AW.ret ?_
  obtain rfl := Option.some.inj h
  exact ret1 Try.results33 rfl (out_tmp rfl)
-- weirbox/weirboxlaw38.light
def F54 (l1 : (List Group)) (e2 : Env) (a3 : (List Atom)) : Option Bool :=
  (F12 l1 9 3).bind fun x5 => (opt x5 (F33 a3)).bind fun x6 => some ((x5 && x6) && (decide ((e2.Down.length : Int) ≤ 20)))
theorem c54 (l1 : (List Group)) (e2 : Env) (a3 : (List Atom)) (r : Bool) (h : F54 l1 e2 a3 = some r) : PCon Try.prog 54 [rd (ksl kGroup) l1, rd kEnv e2, rd (ksl kAtom) a3] (rd kbool r) := by
  refine PCon.of (Con.intro0 Try.func54 rfl Try.ntmps54 rfl fun w H => ?_)
  unfold F54 at h
  refine AW.seq ?_
  refine AW.region ?_
  refine AOps.consT rfl (op_box 5 rfl rfl (vt rfl)) ?_
  rintro _ ⟨g4, rfl⟩
  refine AOps.cons (op_assign (A := rd kbool false) rfl rfl vb) rfl ?_
  refine AOps.nil ?_
  refine AW.seq ?_
  obtain ⟨x5, hx5, h⟩ := bsome h
  obtain ⟨x6, hx6, h⟩ := bsome h
  refine AW.region ?_
  refine AOps.cons (op_move (A := rd (ksl kGroup) l1) rfl rfl (vt rfl)) rfl ?_
  refine AOps.cons (op_call (xs := [.tmp 7, .const (Value.int IntKind.i64 9), .const (Value.int IntKind.i64 3)]) (c12 _ _ _ _ hx5) (Ent.mk Try.func12 rfl rfl) rfl rfl ⟨vt rfl, vk rfl, vk rfl, trivial⟩) rfl ?_
  refine AOps.cons (op_move (A := rd kbool x5) rfl rfl (vt rfl)) rfl ?_
  refine AOps.consG (OpG.guard rfl rfl rfl rfl rfl fun hq => op_move (A := rd (ksl kAtom) a3) rfl rfl (vt rfl)) ?_
  refine AOps.consG (OpG.guard rfl rfl rfl rfl rfl fun hq => op_call (xs := [.tmp 10]) (c33 _ _ (opt_t hx6 hq)) (Ent.mk Try.func33 rfl rfl) rfl rfl ⟨vgt rfl hq, trivial⟩) ?_
  refine AOps.cons (op_all rfl rfl (vt rfl) (vt rfl)) rfl ?_
  refine AOps.cons (op_move (A := rd kbool (x5 && x6)) rfl rfl (vt rfl)) rfl ?_
  refine AOps.consG (OpG.guard rfl rfl rfl rfl rfl fun hq => op_field lEnv_1 rfl rfl fl31_1 (vt rfl)) ?_
  refine AOps.consG (OpG.guard rfl rfl rfl rfl rfl fun hq => op_load rfl rfl ty29 (vgt rfl hq) (i := 5) rfl) ?_
  refine AOps.consG (OpG.guard rfl rfl rfl rfl rfl fun hq => op_len' rfl rfl sl29 (vgt rfl hq)) ?_
  refine AOps.consG (OpG.guard rfl rfl rfl rfl rfl fun hq => op_leq rfl rfl (vgt rfl hq) (vk rfl)) ?_
  refine AOps.cons (op_all rfl rfl (vt rfl) (vt rfl)) rfl ?_
  refine AOps.cons (op_assign (A := rd kbool ((x5 && x6) && (decide ((e2.Down.length : Int) ≤ 20)))) rfl rfl (vt rfl)) rfl ?_
  refine AOps.nil ?_
  refine AW.ret ?_
  obtain rfl := Option.some.inj h
  exact ret1 Try.results54 rfl (out_tmp rfl)
-- weirbox/rewrite.Then$1
def F158 (i1 : Int) (c2 : (Vector Tern 24)) (c3 : (Vector Tern 24)) : Option Tern :=
  (chk 24 i1).bind fun j5 => (chk 24 i1).bind fun j6 => (F159 (Vector.get c2 j5) (Vector.get c3 j6)).bind fun x7 => some x7
theorem c158 (i1 : Int) (c2 : (Vector Tern 24)) (c3 : (Vector Tern 24)) (r : Tern) (h : F158 i1 c2 c3 = some r) : PCon Try.prog 158 [rd (kint .i64) i1, rp (karr 24 kTern) c2, rp (karr 24 kTern) c3] (rd kTern r) := by
  refine PCon.of (Con.intro0 Try.func158 rfl Try.ntmps158 rfl fun w H => ?_)
  unfold F158 at h
  refine AW.seq ?_
  refine AW.region ?_
  refine AOps.consT rfl (op_alloc 5 rfl rfl zr54) ?_
  rintro _ ⟨g4, rfl⟩
  refine AOps.nil ?_
  refine AW.seq ?_
  obtain ⟨j5, hj5, h⟩ := bsome h
  obtain ⟨j6, hj6, h⟩ := bsome h
  obtain ⟨x7, hx7, h⟩ := bsome h
  refine AW.regionAny [⟨[0], [5], [], []⟩, ⟨[1, 5], [6], [], []⟩, ⟨[6], [7], [], []⟩, ⟨[0], [8], [], []⟩, ⟨[2, 8], [9], [], []⟩, ⟨[9], [10], [], []⟩, ⟨[7, 10], [11], [], []⟩, ⟨[4, 11], [], [5], [5]⟩] mixed (by kernel_rfl) ?_
  refine SeqA.cons (loc [0] [] rfl rfl fun S hs hr => op_move (A := rd (kint .i64) i1) rfl rfl (vt ((hs 0 rfl).trans rfl))) ⟨rfl, rfl, rfl, rfl⟩ ?_
  refine SeqA.cons (loc [1, 5] [] rfl rfl fun S hs hr => op_indexp' rfl rfl ar95 (vt ((hs 1 rfl).trans rfl)) (vt ((hs 5 rfl).trans rfl)) hj5) ⟨rfl, rfl, rfl, rfl⟩ ?_
  refine SeqA.cons (loc [6] [] rfl rfl fun S hs hr => op_loadp rfl rfl ty54 (vt ((hs 6 rfl).trans rfl))) ⟨rfl, rfl, rfl, rfl⟩ ?_
  refine SeqA.cons (loc [0] [] rfl rfl fun S hs hr => op_move (A := rd (kint .i64) i1) rfl rfl (vt ((hs 0 rfl).trans rfl))) ⟨rfl, rfl, rfl, rfl⟩ ?_
  refine SeqA.cons (loc [2, 8] [] rfl rfl fun S hs hr => op_indexp' rfl rfl ar95 (vt ((hs 2 rfl).trans rfl)) (vt ((hs 8 rfl).trans rfl)) hj6) ⟨rfl, rfl, rfl, rfl⟩ ?_
  refine SeqA.cons (loc [9] [] rfl rfl fun S hs hr => op_loadp rfl rfl ty54 (vt ((hs 9 rfl).trans rfl))) ⟨rfl, rfl, rfl, rfl⟩ ?_
  refine SeqA.cons (loc [7, 10] [] rfl rfl fun S hs hr => op_call (xs := [.tmp 7, .tmp 10]) (c159 _ _ _ hx7) (Ent.mk Try.func159 rfl rfl) rfl rfl ⟨vt ((hs 7 rfl).trans rfl), vt ((hs 10 rfl).trans rfl), trivial⟩) ⟨rfl, rfl, rfl, rfl⟩ ?_
  refine SeqA.cons (locr [4, 11] [5] rfl fun S hs hr => op_store rfl rfl ty54 (vt ((hs 4 rfl).trans rfl)) (i := 5) ((hr 5 rfl).trans rfl) (vt ((hs 11 rfl).trans rfl))) ⟨rfl, rfl, rfl, rfl⟩ ?_
  refine AW.ret ?_
  obtain rfl := Option.some.inj h
  exact ret1 Try.results158 rfl (out_cell rfl (i := 5) rfl ty54)
end Go.Proofs.Ytokmmcflinnfiaa.W
