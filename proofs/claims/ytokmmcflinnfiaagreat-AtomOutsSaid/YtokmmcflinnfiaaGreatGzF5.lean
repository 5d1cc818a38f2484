/- GzF5: a part of the proof. -/
import Derived.Test.YtokmmcflinnfiaaGreatGzF4
set_option linter.unusedVariables false
set_option maxRecDepth 4000
set_option linter.unusedSimpArgs false
namespace Go.Proofs.YtokmmcflinnfiaaGreat.W
open Go Go.Wb
-- weirbox/aset.List
def F55 (set1 : (List Action)) : Option (List Action) :=
  (F91 set1 F92).bind fun x2 => (F94 set1).bind fun x4 => (F93 x4 (fun x => F95 x x2)).bind fun x6 => (F97 x6 F98).bind fun l8 => some l8
theorem c55 (set1 : (List Action)) (r : (List Action)) (h : F55 set1 = some r) : PCon Tryz.prog 55 [rd (ksl kAction) set1] (rd (ksl kAction) r) := by
  refine PCon.of (Con.intro0 Tryz.func55 rfl Tryz.ntmps55 rfl fun w H => ?_)
  unfold F55 at h
  refine AW.seq ?_
  refine AW.region ?_
  refine AOps.cons (op_assign (A := rd (ksl kAction) []) rfl rfl vnil) rfl ?_
  refine AOps.nil ?_
  refine AW.seq ?_
  obtain ⟨x2, hx2, h⟩ := bsome h
  refine AW.region ?_
  refine AOps.cons (op_move (A := rd (ksl kAction) set1) rfl rfl (vt rfl)) rfl ?_
  refine AOps.cons (op_call (xs := [.tmp 5, .func 92]) (c91 _ _ _ hx2) (Ent.mk Tryz.func91 rfl rfl) rfl rfl ⟨vt rfl, vf1 (Ent.mk Tryz.func92 rfl rfl) c92, trivial⟩) rfl ?_
  refine AOps.consT rfl (op_alloc 4 rfl rfl zr4) ?_
  rintro _ ⟨g3, rfl⟩
  refine AOps.cons (op_store rfl rfl ty4 (vt rfl) (i := 4) rfl (vt rfl)) rfl ?_
  refine AOps.nil ?_
  refine AW.seq ?_
  refine AW.freezeB 3 4 rfl rfl rfl ?_
  obtain ⟨x4, hx4, h⟩ := bsome h
  obtain ⟨x6, hx6, h⟩ := bsome h
  refine AW.region ?_
  refine AOps.cons (op_move (A := rd (ksl kAction) set1) rfl rfl (vt rfl)) rfl ?_
  refine AOps.consT rfl (op_callR 1001 (xs := [.tmp 7]) (c94o _ _ hx4) (Ent.mk Tryz.func94 rfl rfl) rfl rfl ⟨vt rfl, trivial⟩ rfl) ?_
  rintro _ ⟨v5, rfl⟩
  refine AOps.cons (op_fn1 (cs := [.tmp 3]) (CAs := [rp kbool x2]) (fun x => F95 x x2) rfl rfl (Ent.mk Tryz.func95 rfl rfl) ⟨vt rfl, trivial⟩ (fun x y h => c95 _ _ y h)) rfl ?_
  refine AOps.consT rfl (op_callR 1001 (xs := [.tmp 8, .tmp 9]) (c93o _ _ _ _ hx6) (Ent.mk Tryz.func93 rfl rfl) rfl rfl ⟨vt rfl, vt rfl, trivial⟩ rfl) ?_
  rintro _ ⟨v7, rfl⟩
  refine AOps.cons (op_assign (A := raw v7) rfl rfl (vt rfl)) rfl ?_
  refine AOps.nil ?_
  refine AW.seq ?_
  obtain ⟨l8, hl8, h⟩ := bsome h
  refine AW.region ?_
  refine AOps.cons (op_move (A := raw v7) rfl rfl (vt rfl)) rfl ?_
  refine AOps.consT rfl (op_callR 1001 (xs := [.tmp 11, .func 98]) (c97o _ _ _ _ hl8) (Ent.mk Tryz.func97 rfl rfl) rfl rfl ⟨vt rfl, vf2 (Ent.mk Tryz.func98 rfl rfl) c98, trivial⟩ rfl) ?_
  rintro _ ⟨_u, rfl⟩
  refine AOps.nil ?_
  refine AW.seq ?_
  refine AW.region ?_
  refine AOps.cons (op_move (A := raw v7) rfl rfl (vt rfl)) rfl ?_
  refine AOps.cons (op_assign (A := raw v7) rfl rfl (vt rfl)) rfl ?_
  refine AOps.nil ?_
  refine AW.freezes [2, 4, 10, 11, 13] 1001 rfl ⟨rfl, rfl, rfl, rfl, rfl, trivial⟩ rfl ?_
  refine AW.ret ?_
  obtain rfl := Option.some.inj h
  exact ret1 Tryz.results55 rfl (out_tmp rfl)
-- weirbox/rewrite.None
def F34 : Option (Vector Tern 24) :=
  some (Vector.replicate 24 zTern)
theorem c34 (r : (Vector Tern 24)) (h : F34 = some r) : PCon Tryz.prog 34 [] (rd (karr 24 kTern) r) := by
  refine PCon.of (Con.intro0 Tryz.func34 rfl Tryz.ntmps34 rfl fun w H => ?_)
  unfold F34 at h
  refine AW.seq ?_
  refine AW.region ?_
  refine AOps.consT rfl (op_alloc 1 rfl rfl zr44) ?_
  rintro _ ⟨g1, rfl⟩
  refine AOps.nil ?_
  refine AW.seq ?_
  refine AW.region ?_
  refine AOps.cons (op_build (ps := []) (x := (Vector.replicate 24 zTern)) rfl rfl rfl (by kernel_rfl) zr44 rfl) rfl ?_
  refine AOps.cons (op_store rfl rfl ty44 (vt rfl) (i := 1) rfl (vt rfl)) rfl ?_
  refine AOps.nil ?_
  refine AW.ret ?_
  obtain rfl := Option.some.inj h
  exact ret1 Tryz.results34 rfl (out_cell rfl (i := 1) rfl ty44)
-- weirbox/field.Right
def F114 (f1 : Int) : Option Bool :=
  some ((decide (f1 ≥ 0)) && (decide (f1 < 24)))
theorem c114 (f1 : Int) (r : Bool) (h : F114 f1 = some r) : PCon Tryz.prog 114 [rd (kint .i64) f1] (rd kbool r) := by
  refine PCon.of (Con.intro0 Tryz.func114 rfl Tryz.ntmps114 rfl fun w H => ?_)
  unfold F114 at h
  refine AW.seq ?_
  refine AW.region ?_
  refine AOps.cons (op_assign (A := rd kbool false) rfl rfl vb) rfl ?_
  refine AOps.nil ?_
  refine AW.seq ?_
  refine AW.region ?_
  refine AOps.cons (op_move (A := rd (kint .i64) f1) rfl rfl (vt rfl)) rfl ?_
  refine AOps.cons (op_geq rfl rfl (vt rfl) (vk rfl)) rfl ?_
  refine AOps.cons (op_move (A := rd kbool (decide (f1 ≥ 0))) rfl rfl (vt rfl)) rfl ?_
  refine AOps.consG (OpG.guard rfl rfl rfl rfl rfl fun hq => op_move (A := rd (kint .i64) f1) rfl rfl (vt rfl)) ?_
  refine AOps.consG (OpG.guard rfl rfl rfl rfl rfl fun hq => op_lss rfl rfl (vgt rfl hq) (vk rfl)) ?_
  refine AOps.cons (op_all rfl rfl (vt rfl) (vt rfl)) rfl ?_
  refine AOps.cons (op_assign (A := rd kbool ((decide (f1 ≥ 0)) && (decide (f1 < 24)))) rfl rfl (vt rfl)) rfl ?_
  refine AOps.nil ?_
  refine AW.ret ?_
  obtain rfl := Option.some.inj h
  exact ret1 Tryz.results114 rfl (out_tmp rfl)
-- weirbox/field.rows
def F134 : Option (Vector field_row 24) :=
  some (Vector.set (Vector.set (Vector.set (Vector.set (Vector.set (Vector.set (Vector.set (Vector.set (Vector.set (Vector.set (Vector.set (Vector.set (Vector.set (Vector.set (Vector.set (Vector.set (Vector.set (Vector.set (Vector.set (Vector.set (Vector.set (Vector.set (Vector.set (Vector.set (Vector.replicate 24 zfield_row) 0 (⟨{ data := #[105, 110, 95, 112, 111, 114, 116] }, 0, 32, false⟩ : field_row) (by decide)) 1 (⟨{ data := #[109, 101, 116, 97, 100, 97, 116, 97] }, 2, 64, true⟩ : field_row) (by decide)) 2 (⟨{ data := #[101, 116, 104, 95, 100, 115, 116] }, 3, 48, true⟩ : field_row) (by decide)) 3 (⟨{ data := #[101, 116, 104, 95, 115, 114, 99] }, 4, 48, true⟩ : field_row) (by decide)) 4 (⟨{ data := #[101, 116, 104, 95, 116, 121, 112, 101] }, 5, 16, false⟩ : field_row) (by decide)) 5 (⟨{ data := #[118, 108, 97, 110, 95, 118, 105, 100] }, 6, 13, true⟩ : field_row) (by decide)) 6 (⟨{ data := #[118, 108, 97, 110, 95, 112, 99, 112] }, 7, 3, false⟩ : field_row) (by decide)) 7 (⟨{ data := #[105, 112, 95, 100, 115, 99, 112] }, 8, 6, false⟩ : field_row) (by decide)) 8 (⟨{ data := #[105, 112, 95, 101, 99, 110] }, 9, 2, false⟩ : field_row) (by decide)) 9 (⟨{ data := #[105, 112, 95, 112, 114, 111, 116, 111] }, 10, 8, false⟩ : field_row) (by decide)) 10 (⟨{ data := #[105, 112, 118, 52, 95, 115, 114, 99] }, 11, 32, true⟩ : field_row) (by decide)) 11 (⟨{ data := #[105, 112, 118, 52, 95, 100, 115, 116] }, 12, 32, true⟩ : field_row) (by decide)) 12 (⟨{ data := #[116, 99, 112, 95, 115, 114, 99] }, 13, 16, false⟩ : field_row) (by decide)) 13 (⟨{ data := #[116, 99, 112, 95, 100, 115, 116] }, 14, 16, false⟩ : field_row) (by decide)) 14 (⟨{ data := #[117, 100, 112, 95, 115, 114, 99] }, 15, 16, false⟩ : field_row) (by decide)) 15 (⟨{ data := #[117, 100, 112, 95, 100, 115, 116] }, 16, 16, false⟩ : field_row) (by decide)) 16 (⟨{ data := #[105, 99, 109, 112, 118, 52, 95, 116, 121, 112, 101] }, 19, 8, false⟩ : field_row) (by decide)) 17 (⟨{ data := #[105, 99, 109, 112, 118, 52, 95, 99, 111, 100, 101] }, 20, 8, false⟩ : field_row) (by decide)) 18 (⟨{ data := #[97, 114, 112, 95, 111, 112] }, 21, 16, false⟩ : field_row) (by decide)) 19 (⟨{ data := #[97, 114, 112, 95, 115, 112, 97] }, 22, 32, true⟩ : field_row) (by decide)) 20 (⟨{ data := #[97, 114, 112, 95, 116, 112, 97] }, 23, 32, true⟩ : field_row) (by decide)) 21 (⟨{ data := #[105, 112, 118, 54, 95, 115, 114, 99] }, 26, 128, true⟩ : field_row) (by decide)) 22 (⟨{ data := #[105, 112, 118, 54, 95, 100, 115, 116] }, 27, 128, true⟩ : field_row) (by decide)) 23 (⟨{ data := #[109, 112, 108, 115, 95, 108, 97, 98, 101, 108] }, 34, 20, false⟩ : field_row) (by decide))
theorem c134 (r : (Vector field_row 24)) (h : F134 = some r) : PCon Tryz.prog 134 [] (rd (karr 24 kfield_row) r) := by
  refine PCon.of (Con.intro0 Tryz.func134 rfl Tryz.ntmps134 rfl fun w H => ?_)
  unfold F134 at h
  refine AW.seq ?_
  refine AW.region ?_
  refine AOps.consT rfl (op_alloc 1 rfl rfl zr155) ?_
  rintro _ ⟨g1, rfl⟩
  refine AOps.nil ?_
  refine AW.seq ?_
  refine AW.region ?_
  refine AOps.cons (op_build (ps := [(0, .const (Value.string { data := #[105, 110, 95, 112, 111, 114, 116] })), (1, .const (Value.int IntKind.i64 0)), (2, .const (Value.int IntKind.i64 32)), (3, .const (Value.bool false))]) (x := (⟨{ data := #[105, 110, 95, 112, 111, 114, 116] }, 0, 32, false⟩ : field_row)) rfl rfl rfl (by kernel_rfl) zr148 ⟨_, _, lfield_row_0, _, by kernel_rfl, (vs (by decide)), _, _, lfield_row_1, _, by kernel_rfl, (vk rfl), _, _, lfield_row_2, _, by kernel_rfl, (vk rfl), _, _, lfield_row_3, _, by kernel_rfl, vb, rfl⟩) rfl ?_
  refine AOps.cons (op_build (ps := [(0, .const (Value.string { data := #[109, 101, 116, 97, 100, 97, 116, 97] })), (1, .const (Value.int IntKind.i64 2)), (2, .const (Value.int IntKind.i64 64)), (3, .const (Value.bool true))]) (x := (⟨{ data := #[109, 101, 116, 97, 100, 97, 116, 97] }, 2, 64, true⟩ : field_row)) rfl rfl rfl (by kernel_rfl) zr148 ⟨_, _, lfield_row_0, _, by kernel_rfl, (vs (by decide)), _, _, lfield_row_1, _, by kernel_rfl, (vk rfl), _, _, lfield_row_2, _, by kernel_rfl, (vk rfl), _, _, lfield_row_3, _, by kernel_rfl, vb, rfl⟩) rfl ?_
  refine AOps.cons (op_build (ps := [(0, .const (Value.string { data := #[101, 116, 104, 95, 100, 115, 116] })), (1, .const (Value.int IntKind.i64 3)), (2, .const (Value.int IntKind.i64 48)), (3, .const (Value.bool true))]) (x := (⟨{ data := #[101, 116, 104, 95, 100, 115, 116] }, 3, 48, true⟩ : field_row)) rfl rfl rfl (by kernel_rfl) zr148 ⟨_, _, lfield_row_0, _, by kernel_rfl, (vs (by decide)), _, _, lfield_row_1, _, by kernel_rfl, (vk rfl), _, _, lfield_row_2, _, by kernel_rfl, (vk rfl), _, _, lfield_row_3, _, by kernel_rfl, vb, rfl⟩) rfl ?_
  refine AOps.cons (op_build (ps := [(0, .const (Value.string { data := #[101, 116, 104, 95, 115, 114, 99] })), (1, .const (Value.int IntKind.i64 4)), (2, .const (Value.int IntKind.i64 48)), (3, .const (Value.bool true))]) (x := (⟨{ data := #[101, 116, 104, 95, 115, 114, 99] }, 4, 48, true⟩ : field_row)) rfl rfl rfl (by kernel_rfl) zr148 ⟨_, _, lfield_row_0, _, by kernel_rfl, (vs (by decide)), _, _, lfield_row_1, _, by kernel_rfl, (vk rfl), _, _, lfield_row_2, _, by kernel_rfl, (vk rfl), _, _, lfield_row_3, _, by kernel_rfl, vb, rfl⟩) rfl ?_
  refine AOps.cons (op_build (ps := [(0, .const (Value.string { data := #[101, 116, 104, 95, 116, 121, 112, 101] })), (1, .const (Value.int IntKind.i64 5)), (2, .const (Value.int IntKind.i64 16)), (3, .const (Value.bool false))]) (x := (⟨{ data := #[101, 116, 104, 95, 116, 121, 112, 101] }, 5, 16, false⟩ : field_row)) rfl rfl rfl (by kernel_rfl) zr148 ⟨_, _, lfield_row_0, _, by kernel_rfl, (vs (by decide)), _, _, lfield_row_1, _, by kernel_rfl, (vk rfl), _, _, lfield_row_2, _, by kernel_rfl, (vk rfl), _, _, lfield_row_3, _, by kernel_rfl, vb, rfl⟩) rfl ?_
  refine AOps.cons (op_build (ps := [(0, .const (Value.string { data := #[118, 108, 97, 110, 95, 118, 105, 100] })), (1, .const (Value.int IntKind.i64 6)), (2, .const (Value.int IntKind.i64 13)), (3, .const (Value.bool true))]) (x := (⟨{ data := #[118, 108, 97, 110, 95, 118, 105, 100] }, 6, 13, true⟩ : field_row)) rfl rfl rfl (by kernel_rfl) zr148 ⟨_, _, lfield_row_0, _, by kernel_rfl, (vs (by decide)), _, _, lfield_row_1, _, by kernel_rfl, (vk rfl), _, _, lfield_row_2, _, by kernel_rfl, (vk rfl), _, _, lfield_row_3, _, by kernel_rfl, vb, rfl⟩) rfl ?_
  refine AOps.cons (op_build (ps := [(0, .const (Value.string { data := #[118, 108, 97, 110, 95, 112, 99, 112] })), (1, .const (Value.int IntKind.i64 7)), (2, .const (Value.int IntKind.i64 3)), (3, .const (Value.bool false))]) (x := (⟨{ data := #[118, 108, 97, 110, 95, 112, 99, 112] }, 7, 3, false⟩ : field_row)) rfl rfl rfl (by kernel_rfl) zr148 ⟨_, _, lfield_row_0, _, by kernel_rfl, (vs (by decide)), _, _, lfield_row_1, _, by kernel_rfl, (vk rfl), _, _, lfield_row_2, _, by kernel_rfl, (vk rfl), _, _, lfield_row_3, _, by kernel_rfl, vb, rfl⟩) rfl ?_
  refine AOps.cons (op_build (ps := [(0, .const (Value.string { data := #[105, 112, 95, 100, 115, 99, 112] })), (1, .const (Value.int IntKind.i64 8)), (2, .const (Value.int IntKind.i64 6)), (3, .const (Value.bool false))]) (x := (⟨{ data := #[105, 112, 95, 100, 115, 99, 112] }, 8, 6, false⟩ : field_row)) rfl rfl rfl (by kernel_rfl) zr148 ⟨_, _, lfield_row_0, _, by kernel_rfl, (vs (by decide)), _, _, lfield_row_1, _, by kernel_rfl, (vk rfl), _, _, lfield_row_2, _, by kernel_rfl, (vk rfl), _, _, lfield_row_3, _, by kernel_rfl, vb, rfl⟩) rfl ?_
  refine AOps.cons (op_build (ps := [(0, .const (Value.string { data := #[105, 112, 95, 101, 99, 110] })), (1, .const (Value.int IntKind.i64 9)), (2, .const (Value.int IntKind.i64 2)), (3, .const (Value.bool false))]) (x := (⟨{ data := #[105, 112, 95, 101, 99, 110] }, 9, 2, false⟩ : field_row)) rfl rfl rfl (by kernel_rfl) zr148 ⟨_, _, lfield_row_0, _, by kernel_rfl, (vs (by decide)), _, _, lfield_row_1, _, by kernel_rfl, (vk rfl), _, _, lfield_row_2, _, by kernel_rfl, (vk rfl), _, _, lfield_row_3, _, by kernel_rfl, vb, rfl⟩) rfl ?_
  refine AOps.cons (op_build (ps := [(0, .const (Value.string { data := #[105, 112, 95, 112, 114, 111, 116, 111] })), (1, .const (Value.int IntKind.i64 10)), (2, .const (Value.int IntKind.i64 8)), (3, .const (Value.bool false))]) (x := (⟨{ data := #[105, 112, 95, 112, 114, 111, 116, 111] }, 10, 8, false⟩ : field_row)) rfl rfl rfl (by kernel_rfl) zr148 ⟨_, _, lfield_row_0, _, by kernel_rfl, (vs (by decide)), _, _, lfield_row_1, _, by kernel_rfl, (vk rfl), _, _, lfield_row_2, _, by kernel_rfl, (vk rfl), _, _, lfield_row_3, _, by kernel_rfl, vb, rfl⟩) rfl ?_
  refine AOps.cons (op_build (ps := [(0, .const (Value.string { data := #[105, 112, 118, 52, 95, 115, 114, 99] })), (1, .const (Value.int IntKind.i64 11)), (2, .const (Value.int IntKind.i64 32)), (3, .const (Value.bool true))]) (x := (⟨{ data := #[105, 112, 118, 52, 95, 115, 114, 99] }, 11, 32, true⟩ : field_row)) rfl rfl rfl (by kernel_rfl) zr148 ⟨_, _, lfield_row_0, _, by kernel_rfl, (vs (by decide)), _, _, lfield_row_1, _, by kernel_rfl, (vk rfl), _, _, lfield_row_2, _, by kernel_rfl, (vk rfl), _, _, lfield_row_3, _, by kernel_rfl, vb, rfl⟩) rfl ?_
  refine AOps.cons (op_build (ps := [(0, .const (Value.string { data := #[105, 112, 118, 52, 95, 100, 115, 116] })), (1, .const (Value.int IntKind.i64 12)), (2, .const (Value.int IntKind.i64 32)), (3, .const (Value.bool true))]) (x := (⟨{ data := #[105, 112, 118, 52, 95, 100, 115, 116] }, 12, 32, true⟩ : field_row)) rfl rfl rfl (by kernel_rfl) zr148 ⟨_, _, lfield_row_0, _, by kernel_rfl, (vs (by decide)), _, _, lfield_row_1, _, by kernel_rfl, (vk rfl), _, _, lfield_row_2, _, by kernel_rfl, (vk rfl), _, _, lfield_row_3, _, by kernel_rfl, vb, rfl⟩) rfl ?_
  refine AOps.cons (op_build (ps := [(0, .const (Value.string { data := #[116, 99, 112, 95, 115, 114, 99] })), (1, .const (Value.int IntKind.i64 13)), (2, .const (Value.int IntKind.i64 16)), (3, .const (Value.bool false))]) (x := (⟨{ data := #[116, 99, 112, 95, 115, 114, 99] }, 13, 16, false⟩ : field_row)) rfl rfl rfl (by kernel_rfl) zr148 ⟨_, _, lfield_row_0, _, by kernel_rfl, (vs (by decide)), _, _, lfield_row_1, _, by kernel_rfl, (vk rfl), _, _, lfield_row_2, _, by kernel_rfl, (vk rfl), _, _, lfield_row_3, _, by kernel_rfl, vb, rfl⟩) rfl ?_
  refine AOps.cons (op_build (ps := [(0, .const (Value.string { data := #[116, 99, 112, 95, 100, 115, 116] })), (1, .const (Value.int IntKind.i64 14)), (2, .const (Value.int IntKind.i64 16)), (3, .const (Value.bool false))]) (x := (⟨{ data := #[116, 99, 112, 95, 100, 115, 116] }, 14, 16, false⟩ : field_row)) rfl rfl rfl (by kernel_rfl) zr148 ⟨_, _, lfield_row_0, _, by kernel_rfl, (vs (by decide)), _, _, lfield_row_1, _, by kernel_rfl, (vk rfl), _, _, lfield_row_2, _, by kernel_rfl, (vk rfl), _, _, lfield_row_3, _, by kernel_rfl, vb, rfl⟩) rfl ?_
  refine AOps.cons (op_build (ps := [(0, .const (Value.string { data := #[117, 100, 112, 95, 115, 114, 99] })), (1, .const (Value.int IntKind.i64 15)), (2, .const (Value.int IntKind.i64 16)), (3, .const (Value.bool false))]) (x := (⟨{ data := #[117, 100, 112, 95, 115, 114, 99] }, 15, 16, false⟩ : field_row)) rfl rfl rfl (by kernel_rfl) zr148 ⟨_, _, lfield_row_0, _, by kernel_rfl, (vs (by decide)), _, _, lfield_row_1, _, by kernel_rfl, (vk rfl), _, _, lfield_row_2, _, by kernel_rfl, (vk rfl), _, _, lfield_row_3, _, by kernel_rfl, vb, rfl⟩) rfl ?_
  refine AOps.cons (op_build (ps := [(0, .const (Value.string { data := #[117, 100, 112, 95, 100, 115, 116] })), (1, .const (Value.int IntKind.i64 16)), (2, .const (Value.int IntKind.i64 16)), (3, .const (Value.bool false))]) (x := (⟨{ data := #[117, 100, 112, 95, 100, 115, 116] }, 16, 16, false⟩ : field_row)) rfl rfl rfl (by kernel_rfl) zr148 ⟨_, _, lfield_row_0, _, by kernel_rfl, (vs (by decide)), _, _, lfield_row_1, _, by kernel_rfl, (vk rfl), _, _, lfield_row_2, _, by kernel_rfl, (vk rfl), _, _, lfield_row_3, _, by kernel_rfl, vb, rfl⟩) rfl ?_
  refine AOps.cons (op_build (ps := [(0, .const (Value.string { data := #[105, 99, 109, 112, 118, 52, 95, 116, 121, 112, 101] })), (1, .const (Value.int IntKind.i64 19)), (2, .const (Value.int IntKind.i64 8)), (3, .const (Value.bool false))]) (x := (⟨{ data := #[105, 99, 109, 112, 118, 52, 95, 116, 121, 112, 101] }, 19, 8, false⟩ : field_row)) rfl rfl rfl (by kernel_rfl) zr148 ⟨_, _, lfield_row_0, _, by kernel_rfl, (vs (by decide)), _, _, lfield_row_1, _, by kernel_rfl, (vk rfl), _, _, lfield_row_2, _, by kernel_rfl, (vk rfl), _, _, lfield_row_3, _, by kernel_rfl, vb, rfl⟩) rfl ?_
  refine AOps.cons (op_build (ps := [(0, .const (Value.string { data := #[105, 99, 109, 112, 118, 52, 95, 99, 111, 100, 101] })), (1, .const (Value.int IntKind.i64 20)), (2, .const (Value.int IntKind.i64 8)), (3, .const (Value.bool false))]) (x := (⟨{ data := #[105, 99, 109, 112, 118, 52, 95, 99, 111, 100, 101] }, 20, 8, false⟩ : field_row)) rfl rfl rfl (by kernel_rfl) zr148 ⟨_, _, lfield_row_0, _, by kernel_rfl, (vs (by decide)), _, _, lfield_row_1, _, by kernel_rfl, (vk rfl), _, _, lfield_row_2, _, by kernel_rfl, (vk rfl), _, _, lfield_row_3, _, by kernel_rfl, vb, rfl⟩) rfl ?_
  refine AOps.cons (op_build (ps := [(0, .const (Value.string { data := #[97, 114, 112, 95, 111, 112] })), (1, .const (Value.int IntKind.i64 21)), (2, .const (Value.int IntKind.i64 16)), (3, .const (Value.bool false))]) (x := (⟨{ data := #[97, 114, 112, 95, 111, 112] }, 21, 16, false⟩ : field_row)) rfl rfl rfl (by kernel_rfl) zr148 ⟨_, _, lfield_row_0, _, by kernel_rfl, (vs (by decide)), _, _, lfield_row_1, _, by kernel_rfl, (vk rfl), _, _, lfield_row_2, _, by kernel_rfl, (vk rfl), _, _, lfield_row_3, _, by kernel_rfl, vb, rfl⟩) rfl ?_
  refine AOps.cons (op_build (ps := [(0, .const (Value.string { data := #[97, 114, 112, 95, 115, 112, 97] })), (1, .const (Value.int IntKind.i64 22)), (2, .const (Value.int IntKind.i64 32)), (3, .const (Value.bool true))]) (x := (⟨{ data := #[97, 114, 112, 95, 115, 112, 97] }, 22, 32, true⟩ : field_row)) rfl rfl rfl (by kernel_rfl) zr148 ⟨_, _, lfield_row_0, _, by kernel_rfl, (vs (by decide)), _, _, lfield_row_1, _, by kernel_rfl, (vk rfl), _, _, lfield_row_2, _, by kernel_rfl, (vk rfl), _, _, lfield_row_3, _, by kernel_rfl, vb, rfl⟩) rfl ?_
  refine AOps.cons (op_build (ps := [(0, .const (Value.string { data := #[97, 114, 112, 95, 116, 112, 97] })), (1, .const (Value.int IntKind.i64 23)), (2, .const (Value.int IntKind.i64 32)), (3, .const (Value.bool true))]) (x := (⟨{ data := #[97, 114, 112, 95, 116, 112, 97] }, 23, 32, true⟩ : field_row)) rfl rfl rfl (by kernel_rfl) zr148 ⟨_, _, lfield_row_0, _, by kernel_rfl, (vs (by decide)), _, _, lfield_row_1, _, by kernel_rfl, (vk rfl), _, _, lfield_row_2, _, by kernel_rfl, (vk rfl), _, _, lfield_row_3, _, by kernel_rfl, vb, rfl⟩) rfl ?_
  refine AOps.cons (op_build (ps := [(0, .const (Value.string { data := #[105, 112, 118, 54, 95, 115, 114, 99] })), (1, .const (Value.int IntKind.i64 26)), (2, .const (Value.int IntKind.i64 128)), (3, .const (Value.bool true))]) (x := (⟨{ data := #[105, 112, 118, 54, 95, 115, 114, 99] }, 26, 128, true⟩ : field_row)) rfl rfl rfl (by kernel_rfl) zr148 ⟨_, _, lfield_row_0, _, by kernel_rfl, (vs (by decide)), _, _, lfield_row_1, _, by kernel_rfl, (vk rfl), _, _, lfield_row_2, _, by kernel_rfl, (vk rfl), _, _, lfield_row_3, _, by kernel_rfl, vb, rfl⟩) rfl ?_
  refine AOps.cons (op_build (ps := [(0, .const (Value.string { data := #[105, 112, 118, 54, 95, 100, 115, 116] })), (1, .const (Value.int IntKind.i64 27)), (2, .const (Value.int IntKind.i64 128)), (3, .const (Value.bool true))]) (x := (⟨{ data := #[105, 112, 118, 54, 95, 100, 115, 116] }, 27, 128, true⟩ : field_row)) rfl rfl rfl (by kernel_rfl) zr148 ⟨_, _, lfield_row_0, _, by kernel_rfl, (vs (by decide)), _, _, lfield_row_1, _, by kernel_rfl, (vk rfl), _, _, lfield_row_2, _, by kernel_rfl, (vk rfl), _, _, lfield_row_3, _, by kernel_rfl, vb, rfl⟩) rfl ?_
  refine AOps.cons (op_build (ps := [(0, .const (Value.string { data := #[109, 112, 108, 115, 95, 108, 97, 98, 101, 108] })), (1, .const (Value.int IntKind.i64 34)), (2, .const (Value.int IntKind.i64 20)), (3, .const (Value.bool false))]) (x := (⟨{ data := #[109, 112, 108, 115, 95, 108, 97, 98, 101, 108] }, 34, 20, false⟩ : field_row)) rfl rfl rfl (by kernel_rfl) zr148 ⟨_, _, lfield_row_0, _, by kernel_rfl, (vs (by decide)), _, _, lfield_row_1, _, by kernel_rfl, (vk rfl), _, _, lfield_row_2, _, by kernel_rfl, (vk rfl), _, _, lfield_row_3, _, by kernel_rfl, vb, rfl⟩) rfl ?_
  refine AOps.cons (op_build (ps := [(0, .tmp 1), (1, .tmp 2), (2, .tmp 3), (3, .tmp 4), (4, .tmp 5), (5, .tmp 6), (6, .tmp 7), (7, .tmp 8), (8, .tmp 9), (9, .tmp 10), (10, .tmp 11), (11, .tmp 12), (12, .tmp 13), (13, .tmp 14), (14, .tmp 15), (15, .tmp 16), (16, .tmp 17), (17, .tmp 18), (18, .tmp 19), (19, .tmp 20), (20, .tmp 21), (21, .tmp 22), (22, .tmp 23), (23, .tmp 24)]) (x := (Vector.set (Vector.set (Vector.set (Vector.set (Vector.set (Vector.set (Vector.set (Vector.set (Vector.set (Vector.set (Vector.set (Vector.set (Vector.set (Vector.set (Vector.set (Vector.set (Vector.set (Vector.set (Vector.set (Vector.set (Vector.set (Vector.set (Vector.set (Vector.set (Vector.replicate 24 zfield_row) 0 (⟨{ data := #[105, 110, 95, 112, 111, 114, 116] }, 0, 32, false⟩ : field_row) (by decide)) 1 (⟨{ data := #[109, 101, 116, 97, 100, 97, 116, 97] }, 2, 64, true⟩ : field_row) (by decide)) 2 (⟨{ data := #[101, 116, 104, 95, 100, 115, 116] }, 3, 48, true⟩ : field_row) (by decide)) 3 (⟨{ data := #[101, 116, 104, 95, 115, 114, 99] }, 4, 48, true⟩ : field_row) (by decide)) 4 (⟨{ data := #[101, 116, 104, 95, 116, 121, 112, 101] }, 5, 16, false⟩ : field_row) (by decide)) 5 (⟨{ data := #[118, 108, 97, 110, 95, 118, 105, 100] }, 6, 13, true⟩ : field_row) (by decide)) 6 (⟨{ data := #[118, 108, 97, 110, 95, 112, 99, 112] }, 7, 3, false⟩ : field_row) (by decide)) 7 (⟨{ data := #[105, 112, 95, 100, 115, 99, 112] }, 8, 6, false⟩ : field_row) (by decide)) 8 (⟨{ data := #[105, 112, 95, 101, 99, 110] }, 9, 2, false⟩ : field_row) (by decide)) 9 (⟨{ data := #[105, 112, 95, 112, 114, 111, 116, 111] }, 10, 8, false⟩ : field_row) (by decide)) 10 (⟨{ data := #[105, 112, 118, 52, 95, 115, 114, 99] }, 11, 32, true⟩ : field_row) (by decide)) 11 (⟨{ data := #[105, 112, 118, 52, 95, 100, 115, 116] }, 12, 32, true⟩ : field_row) (by decide)) 12 (⟨{ data := #[116, 99, 112, 95, 115, 114, 99] }, 13, 16, false⟩ : field_row) (by decide)) 13 (⟨{ data := #[116, 99, 112, 95, 100, 115, 116] }, 14, 16, false⟩ : field_row) (by decide)) 14 (⟨{ data := #[117, 100, 112, 95, 115, 114, 99] }, 15, 16, false⟩ : field_row) (by decide)) 15 (⟨{ data := #[117, 100, 112, 95, 100, 115, 116] }, 16, 16, false⟩ : field_row) (by decide)) 16 (⟨{ data := #[105, 99, 109, 112, 118, 52, 95, 116, 121, 112, 101] }, 19, 8, false⟩ : field_row) (by decide)) 17 (⟨{ data := #[105, 99, 109, 112, 118, 52, 95, 99, 111, 100, 101] }, 20, 8, false⟩ : field_row) (by decide)) 18 (⟨{ data := #[97, 114, 112, 95, 111, 112] }, 21, 16, false⟩ : field_row) (by decide)) 19 (⟨{ data := #[97, 114, 112, 95, 115, 112, 97] }, 22, 32, true⟩ : field_row) (by decide)) 20 (⟨{ data := #[97, 114, 112, 95, 116, 112, 97] }, 23, 32, true⟩ : field_row) (by decide)) 21 (⟨{ data := #[105, 112, 118, 54, 95, 115, 114, 99] }, 26, 128, true⟩ : field_row) (by decide)) 22 (⟨{ data := #[105, 112, 118, 54, 95, 100, 115, 116] }, 27, 128, true⟩ : field_row) (by decide)) 23 (⟨{ data := #[109, 112, 108, 115, 95, 108, 97, 98, 101, 108] }, 34, 20, false⟩ : field_row) (by decide))) rfl rfl rfl (by kernel_rfl) zr155 ⟨_, _, Lens.idx 24 kfield_row 0 (by decide), _, by kernel_rfl, (vt rfl), _, _, Lens.idx 24 kfield_row 1 (by decide), _, by kernel_rfl, (vt rfl), _, _, Lens.idx 24 kfield_row 2 (by decide), _, by kernel_rfl, (vt rfl), _, _, Lens.idx 24 kfield_row 3 (by decide), _, by kernel_rfl, (vt rfl), _, _, Lens.idx 24 kfield_row 4 (by decide), _, by kernel_rfl, (vt rfl), _, _, Lens.idx 24 kfield_row 5 (by decide), _, by kernel_rfl, (vt rfl), _, _, Lens.idx 24 kfield_row 6 (by decide), _, by kernel_rfl, (vt rfl), _, _, Lens.idx 24 kfield_row 7 (by decide), _, by kernel_rfl, (vt rfl), _, _, Lens.idx 24 kfield_row 8 (by decide), _, by kernel_rfl, (vt rfl), _, _, Lens.idx 24 kfield_row 9 (by decide), _, by kernel_rfl, (vt rfl), _, _, Lens.idx 24 kfield_row 10 (by decide), _, by kernel_rfl, (vt rfl), _, _, Lens.idx 24 kfield_row 11 (by decide), _, by kernel_rfl, (vt rfl), _, _, Lens.idx 24 kfield_row 12 (by decide), _, by kernel_rfl, (vt rfl), _, _, Lens.idx 24 kfield_row 13 (by decide), _, by kernel_rfl, (vt rfl), _, _, Lens.idx 24 kfield_row 14 (by decide), _, by kernel_rfl, (vt rfl), _, _, Lens.idx 24 kfield_row 15 (by decide), _, by kernel_rfl, (vt rfl), _, _, Lens.idx 24 kfield_row 16 (by decide), _, by kernel_rfl, (vt rfl), _, _, Lens.idx 24 kfield_row 17 (by decide), _, by kernel_rfl, (vt rfl), _, _, Lens.idx 24 kfield_row 18 (by decide), _, by kernel_rfl, (vt rfl), _, _, Lens.idx 24 kfield_row 19 (by decide), _, by kernel_rfl, (vt rfl), _, _, Lens.idx 24 kfield_row 20 (by decide), _, by kernel_rfl, (vt rfl), _, _, Lens.idx 24 kfield_row 21 (by decide), _, by kernel_rfl, (vt rfl), _, _, Lens.idx 24 kfield_row 22 (by decide), _, by kernel_rfl, (vt rfl), _, _, Lens.idx 24 kfield_row 23 (by decide), _, by kernel_rfl, (vt rfl), rfl⟩) rfl ?_
  refine AOps.cons (op_store rfl rfl ty155 (vt rfl) (i := 1) rfl (vt rfl)) rfl ?_
  refine AOps.nil ?_
  refine AW.ret ?_
  obtain rfl := Option.some.inj h
  exact ret1 Tryz.results134 rfl (out_cell rfl (i := 1) rfl ty155)
-- weirbox/field.at
def F128 (f1 : Int) : Option field_row :=
  (F114 f1).bind fun x3 => (bif (!x3) then some (⟨(⟨#[]⟩ : ByteArray), (-1), 0, false⟩ : field_row) else (F134).bind fun x4 => (lget (Vector.toList x4) f1).bind fun e5 => some e5)
theorem c128 (f1 : Int) (r : field_row) (h : F128 f1 = some r) : PCon Tryz.prog 128 [rd (kint .i64) f1] (rd kfield_row r) := by
  refine PCon.of (Con.intro0 Tryz.func128 rfl Tryz.ntmps128 rfl fun w H => ?_)
  unfold F128 at h
  refine AW.seq ?_
  refine AW.region ?_
  refine AOps.consT rfl (op_alloc 3 rfl rfl zr148) ?_
  rintro _ ⟨g2, rfl⟩
  refine AOps.nil ?_
  refine AW.seq ?_
  refine AW.seq ?_
  obtain ⟨x3, hx3, h⟩ := bsome h
  refine AW.region ?_
  refine AOps.cons (op_move (A := rd (kint .i64) f1) rfl rfl (vt rfl)) rfl ?_
  refine AOps.cons (op_call (xs := [.tmp 3]) (c114 _ _ hx3) (Ent.mk Tryz.func114 rfl rfl) rfl rfl ⟨vt rfl, trivial⟩) rfl ?_
  refine AOps.cons (op_not rfl rfl (vt rfl)) rfl ?_
  refine AOps.nil ?_
  refine AW.cond (vt rfl) (fun hc => ?_) (fun hc => ?_)
  · have h := cond_t hc h
    refine AW.seq ?_
    refine AW.region ?_
    refine AOps.cons (op_build (ps := [(1, .const (Value.int IntKind.i64 (-1)))]) (x := (⟨(⟨#[]⟩ : ByteArray), (-1), 0, false⟩ : field_row)) rfl rfl rfl (by kernel_rfl) zr148 ⟨_, _, lfield_row_1, _, by kernel_rfl, (vk rfl), rfl⟩) rfl ?_
    refine AOps.cons (op_store rfl rfl ty148 (vt rfl) (i := 3) rfl (vt rfl)) rfl ?_
    refine AOps.nil ?_
    refine AW.ret ?_
    obtain rfl := Option.some.inj h
    exact ret1 Tryz.results128 rfl (out_cell rfl (i := 3) rfl ty148)
  · have h := cond_f hc h
    refine AW.skip ?_
    refine AW.seq ?_
    obtain ⟨x4, hx4, h⟩ := bsome h
    obtain ⟨e5, he5, h⟩ := bsome h
    refine AW.region ?_
    refine AOps.cons (op_call (xs := []) (c134 _ hx4) (Ent.mk Tryz.func134 rfl rfl) rfl rfl trivial) rfl ?_
    refine AOps.cons (op_move (A := rd (kint .i64) f1) rfl rfl (vt rfl)) rfl ?_
    refine AOps.cons (op_indexv rfl rfl ar155 ty148 (vt rfl) (vt rfl) he5) rfl ?_
    refine AOps.cons (op_store rfl rfl ty148 (vt rfl) (i := 3) rfl (vt rfl)) rfl ?_
    refine AOps.nil ?_
    refine AW.ret ?_
    obtain rfl := Option.some.inj h
    exact ret1 Tryz.results128 rfl (out_cell rfl (i := 3) rfl ty148)
-- weirbox/field.Bits
def F115 (f1 : Int) : Option Int :=
  (F128 f1).bind fun x2 => some x2.bits
theorem c115 (f1 : Int) (r : Int) (h : F115 f1 = some r) : PCon Tryz.prog 115 [rd (kint .i64) f1] (rd (kint .i64) r) := by
  refine PCon.of (Con.intro0 Tryz.func115 rfl Tryz.ntmps115 rfl fun w H => ?_)
  unfold F115 at h
  refine AW.seq ?_
  refine AW.region ?_
  refine AOps.cons (op_assign (A := rd (kint .i64) 0) rfl rfl (vk rfl)) rfl ?_
  refine AOps.nil ?_
  refine AW.seq ?_
  obtain ⟨x2, hx2, h⟩ := bsome h
  refine AW.region ?_
  refine AOps.cons (op_move (A := rd (kint .i64) f1) rfl rfl (vt rfl)) rfl ?_
  refine AOps.cons (op_call (xs := [.tmp 3]) (c128 _ _ hx2) (Ent.mk Tryz.func128 rfl rfl) rfl rfl ⟨vt rfl, trivial⟩) rfl ?_
  refine AOps.cons (op_fieldv lfield_row_2 rfl rfl fl148_2 ft148_2 ty3 rfl (vt rfl)) rfl ?_
  refine AOps.cons (op_assign (A := rd (kint .i64) x2.bits) rfl rfl (vt rfl)) rfl ?_
  refine AOps.nil ?_
  refine AW.ret ?_
  obtain rfl := Option.some.inj h
  exact ret1 Tryz.results115 rfl (out_tmp rfl)
-- weirbox/wide.low
def F117 (n1 : Int) : Option (BitVec 64) :=
  (bif (decide (n1 ≥ 64)) then some (18446744073709551615 : BitVec 64) else (oushl (1 : BitVec 64) (imax n1 0)).bind fun q2 => some (q2 - (1 : BitVec 64)))
theorem c117 (n1 : Int) (r : (BitVec 64)) (h : F117 n1 = some r) : PCon Tryz.prog 117 [rd (kint .i64) n1] (rd ku64 r) := by
  refine PCon.of (Con.intro0 Tryz.func117 rfl Tryz.ntmps117 rfl fun w H => ?_)
  unfold F117 at h
  refine AW.seq ?_
  refine AW.region ?_
  refine AOps.cons (op_assign (A := rd ku64 (0 : BitVec 64)) rfl rfl (vku (0 : BitVec 64) rfl)) rfl ?_
  refine AOps.nil ?_
  refine AW.seq ?_
  refine AW.seq ?_
  refine AW.region ?_
  refine AOps.cons (op_move (A := rd (kint .i64) n1) rfl rfl (vt rfl)) rfl ?_
  refine AOps.cons (op_geq rfl rfl (vt rfl) (vk rfl)) rfl ?_
  refine AOps.nil ?_
  refine AW.cond (vt rfl) (fun hc => ?_) (fun hc => ?_)
  · have h := cond_t hc h
    refine AW.seq ?_
    refine AW.region ?_
    refine AOps.cons (op_assign (A := rd ku64 (18446744073709551615 : BitVec 64)) rfl rfl (vku (18446744073709551615 : BitVec 64) rfl)) rfl ?_
    refine AOps.nil ?_
    refine AW.ret ?_
    obtain rfl := Option.some.inj h
    exact ret1 Tryz.results117 rfl (out_tmp rfl)
  · have h := cond_f hc h
    refine AW.skip ?_
    refine AW.seq ?_
    obtain ⟨q2, hq2, h⟩ := bsome h
    refine AW.region ?_
    refine AOps.cons (op_move (A := rd (kint .i64) n1) rfl rfl (vt rfl)) rfl ?_
    refine AOps.cons (op_max rfl rfl (vt rfl) (vk rfl)) rfl ?_
    refine AOps.cons (op_ushl rfl rfl (vku (1 : BitVec 64) rfl) (vt rfl) hq2) rfl ?_
    refine AOps.cons (op_usub rfl rfl (vt rfl) (vku (1 : BitVec 64) rfl)) rfl ?_
    refine AOps.cons (op_assign (A := rd ku64 (q2 - (1 : BitVec 64))) rfl rfl (vt rfl)) rfl ?_
    refine AOps.nil ?_
    refine AW.ret ?_
    obtain rfl := Option.some.inj h
    exact ret1 Tryz.results117 rfl (out_tmp rfl)
-- weirbox/wide.Low
def F81 (n1 : Int) : Option Wide :=
  (F117 (IntKind.i64.wrap ((imin (imax n1 0) 128) - 64))).bind fun x3 => (F117 (imin (imax n1 0) 128)).bind fun x4 => some (⟨x3, x4⟩ : Wide)
theorem c81 (n1 : Int) (r : Wide) (h : F81 n1 = some r) : PCon Tryz.prog 81 [rd (kint .i64) n1] (rd kWide r) := by
  refine PCon.of (Con.intro0 Tryz.func81 rfl Tryz.ntmps81 rfl fun w H => ?_)
  unfold F81 at h
  refine AW.seq ?_
  refine AW.region ?_
  refine AOps.consT rfl (op_alloc 3 rfl rfl zr29) ?_
  rintro _ ⟨g2, rfl⟩
  refine AOps.nil ?_
  refine AW.seq ?_
  refine AW.region ?_
  refine AOps.cons (op_move (A := rd (kint .i64) n1) rfl rfl (vt rfl)) rfl ?_
  refine AOps.cons (op_max rfl rfl (vt rfl) (vk rfl)) rfl ?_
  refine AOps.cons (op_min rfl rfl (vt rfl) (vk rfl)) rfl ?_
  refine AOps.cons (op_assign (A := rd (kint .i64) (imin (imax n1 0) 128)) rfl rfl (vt rfl)) rfl ?_
  refine AOps.nil ?_
  refine AW.seq ?_
  obtain ⟨x3, hx3, h⟩ := bsome h
  obtain ⟨x4, hx4, h⟩ := bsome h
  refine AW.region ?_
  refine AOps.cons (op_move (A := rd (kint .i64) (imin (imax n1 0) 128)) rfl rfl (vt rfl)) rfl ?_
  refine AOps.cons (op_sub rfl rfl (vt rfl) (vk rfl)) rfl ?_
  refine AOps.cons (op_call (xs := [.tmp 7]) (c117 _ _ hx3) (Ent.mk Tryz.func117 rfl rfl) rfl rfl ⟨vt rfl, trivial⟩) rfl ?_
  refine AOps.cons (op_move (A := rd (kint .i64) (imin (imax n1 0) 128)) rfl rfl (vt rfl)) rfl ?_
  refine AOps.cons (op_call (xs := [.tmp 9]) (c117 _ _ hx4) (Ent.mk Tryz.func117 rfl rfl) rfl rfl ⟨vt rfl, trivial⟩) rfl ?_
  refine AOps.cons (op_build (ps := [(0, .tmp 8), (1, .tmp 10)]) (x := (⟨x3, x4⟩ : Wide)) rfl rfl rfl (by kernel_rfl) zr29 ⟨_, _, lWide_0, _, by kernel_rfl, (vt rfl), _, _, lWide_1, _, by kernel_rfl, (vt rfl), rfl⟩) rfl ?_
  refine AOps.cons (op_store rfl rfl ty29 (vt rfl) (i := 3) rfl (vt rfl)) rfl ?_
  refine AOps.nil ?_
  refine AW.ret ?_
  obtain rfl := Option.some.inj h
  exact ret1 Tryz.results81 rfl (out_cell rfl (i := 3) rfl ty29)
-- weirbox/oxm.Tern
def F78 (o1 : Oxm) : Option Tern :=
  (F114 o1.Field).bind fun x4 => (bif (!x4) then some (⟨zWide, zWide⟩ : Tern) else (bif o1.Masked then some (⟨o1.Value, o1.Mask⟩ : Tern) else (F115 o1.Field).bind fun x5 => (F81 x5).bind fun x6 => some (⟨o1.Value, x6⟩ : Tern)))
theorem c78 (o1 : Oxm) (r : Tern) (h : F78 o1 = some r) : PCon Tryz.prog 78 [rd kOxm o1] (rd kTern r) := by
  refine PCon.of (Con.intro0 Tryz.func78 rfl Tryz.ntmps78 rfl fun w H => ?_)
  unfold F78 at h
  refine AW.seq ?_
  refine AW.region ?_
  refine AOps.consT rfl (op_box 2 rfl rfl (vt rfl)) ?_
  rintro _ ⟨g2, rfl⟩
  refine AOps.consT rfl (op_alloc 3 rfl rfl zr42) ?_
  rintro _ ⟨g3, rfl⟩
  refine AOps.nil ?_
  refine AW.seq ?_
  refine AW.block ?_
  refine AW.seq ?_
  obtain ⟨x4, hx4, h⟩ := bsome h
  refine AW.region ?_
  refine AOps.cons (op_field lOxm_0 rfl rfl fl60_0 (vt rfl)) rfl ?_
  refine AOps.cons (op_load rfl rfl ty3 (vt rfl) (i := 2) rfl) rfl ?_
  refine AOps.cons (op_call (xs := [.tmp 5]) (c114 _ _ hx4) (Ent.mk Tryz.func114 rfl rfl) rfl rfl ⟨vt rfl, trivial⟩) rfl ?_
  refine AOps.cons (op_not rfl rfl (vt rfl)) rfl ?_
  refine AOps.cons (op_assign (A := rd kbool (!x4)) rfl rfl (vt rfl)) rfl ?_
  refine AOps.nil ?_
  refine AW.cond (vt rfl) (fun hc => ?_) (fun hc => ?_)
  · have h := cond_t hc h
    refine AW.seq ?_
    refine AW.region ?_
    refine AOps.cons (op_build (ps := []) (x := (⟨zWide, zWide⟩ : Tern)) rfl rfl rfl (by kernel_rfl) zr42 rfl) rfl ?_
    refine AOps.cons (op_store rfl rfl ty42 (vt rfl) (i := 3) rfl (vt rfl)) rfl ?_
    refine AOps.nil ?_
    refine AW.ret ?_
    obtain rfl := Option.some.inj h
    exact ret1 Tryz.results78 rfl (out_cell rfl (i := 3) rfl ty42)
  · have h := cond_f hc h
    refine AW.seq ?_
    refine AW.region ?_
    refine AOps.cons (op_field lOxm_1 rfl rfl fl60_1 (vt rfl)) rfl ?_
    refine AOps.cons (op_load rfl rfl ty4 (vt rfl) (i := 2) rfl) rfl ?_
    refine AOps.cons (op_assign (A := rd kbool o1.Masked) rfl rfl (vt rfl)) rfl ?_
    refine AOps.nil ?_
    refine AW.cond (vt rfl) (fun hc => ?_) (fun hc => ?_)
    · have h := cond_t hc h
      refine AW.seq ?_
      refine AW.region ?_
      refine AOps.cons (op_field lOxm_2 rfl rfl fl60_2 (vt rfl)) rfl ?_
      refine AOps.cons (op_load rfl rfl ty29 (vt rfl) (i := 2) rfl) rfl ?_
      refine AOps.cons (op_field lOxm_3 rfl rfl fl60_3 (vt rfl)) rfl ?_
      refine AOps.cons (op_load rfl rfl ty29 (vt rfl) (i := 2) rfl) rfl ?_
      refine AOps.cons (op_build (ps := [(0, .tmp 13), (1, .tmp 15)]) (x := (⟨o1.Value, o1.Mask⟩ : Tern)) rfl rfl rfl (by kernel_rfl) zr42 ⟨_, _, lTern_0, _, by kernel_rfl, (vt rfl), _, _, lTern_1, _, by kernel_rfl, (vt rfl), rfl⟩) rfl ?_
      refine AOps.cons (op_store rfl rfl ty42 (vt rfl) (i := 3) rfl (vt rfl)) rfl ?_
      refine AOps.nil ?_
      refine AW.ret ?_
      obtain rfl := Option.some.inj h
      exact ret1 Tryz.results78 rfl (out_cell rfl (i := 3) rfl ty42)
    · have h := cond_f hc h
      refine AW.skip ?_
      refine AW.seq ?_
      obtain ⟨x5, hx5, h⟩ := bsome h
      obtain ⟨x6, hx6, h⟩ := bsome h
      refine AW.regionAny [⟨[1], [17], [], []⟩, ⟨[17], [18], [2], []⟩, ⟨[1], [19], [], []⟩, ⟨[19], [20], [2], []⟩, ⟨[20], [21], [], []⟩, ⟨[21], [22], [], []⟩, ⟨[18, 22], [23], [], []⟩, ⟨[2, 23], [], [3], [3]⟩] mixed (by kernel_rfl) ?_
      refine SeqA.cons (loc [1] [] rfl rfl fun S hs hr => op_field lOxm_2 rfl rfl fl60_2 (vt ((hs 1 rfl).trans rfl))) ⟨rfl, rfl, rfl, rfl⟩ ?_
      refine SeqA.cons (loc [17] [2] rfl rfl fun S hs hr => op_load rfl rfl ty29 (vt ((hs 17 rfl).trans rfl)) (i := 2) ((hr 2 rfl).trans rfl)) ⟨rfl, rfl, rfl, rfl⟩ ?_
      refine SeqA.cons (loc [1] [] rfl rfl fun S hs hr => op_field lOxm_0 rfl rfl fl60_0 (vt ((hs 1 rfl).trans rfl))) ⟨rfl, rfl, rfl, rfl⟩ ?_
      refine SeqA.cons (loc [19] [2] rfl rfl fun S hs hr => op_load rfl rfl ty3 (vt ((hs 19 rfl).trans rfl)) (i := 2) ((hr 2 rfl).trans rfl)) ⟨rfl, rfl, rfl, rfl⟩ ?_
      refine SeqA.cons (loc [20] [] rfl rfl fun S hs hr => op_call (xs := [.tmp 20]) (c115 _ _ hx5) (Ent.mk Tryz.func115 rfl rfl) rfl rfl ⟨vt ((hs 20 rfl).trans rfl), trivial⟩) ⟨rfl, rfl, rfl, rfl⟩ ?_
      refine SeqA.cons (loc [21] [] rfl rfl fun S hs hr => op_call (xs := [.tmp 21]) (c81 _ _ hx6) (Ent.mk Tryz.func81 rfl rfl) rfl rfl ⟨vt ((hs 21 rfl).trans rfl), trivial⟩) ⟨rfl, rfl, rfl, rfl⟩ ?_
      refine SeqA.cons (loc [18, 22] [] rfl rfl fun S hs hr => op_build (ps := [(0, .tmp 18), (1, .tmp 22)]) (x := (⟨o1.Value, x6⟩ : Tern)) rfl rfl rfl (by kernel_rfl) zr42 ⟨_, _, lTern_0, _, by kernel_rfl, (vt ((hs 18 rfl).trans rfl)), _, _, lTern_1, _, by kernel_rfl, (vt ((hs 22 rfl).trans rfl)), rfl⟩) ⟨rfl, rfl, rfl, rfl⟩ ?_
      refine SeqA.cons (locr [2, 23] [3] rfl fun S hs hr => op_store rfl rfl ty42 (vt ((hs 2 rfl).trans rfl)) (i := 3) ((hr 3 rfl).trans rfl) (vt ((hs 23 rfl).trans rfl))) ⟨rfl, rfl, rfl, rfl⟩ ?_
      refine AW.ret ?_
      obtain rfl := Option.some.inj h
      exact ret1 Tryz.results78 rfl (out_cell rfl (i := 3) rfl ty42)
end Go.Proofs.YtokmmcflinnfiaaGreat.W
