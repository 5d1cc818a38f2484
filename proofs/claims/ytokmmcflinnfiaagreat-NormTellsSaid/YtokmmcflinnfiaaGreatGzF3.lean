/- GzF3: a part of the proof. -/
import Derived.Test.YtokmmcflinnfiaaGreatGzF2
set_option linter.unusedVariables false
set_option maxRecDepth 4000
set_option linter.unusedSimpArgs false
namespace Go.Proofs.YtokmmcflinnfiaaGreat.W
open Go Go.Wb
-- (weirbox/env.world).up
def F90 (w1 : env_world) : Option Int :=
  (F112 w1.Group.Buckets (fun x => F123 x w1)).bind fun x3 => some x3
theorem c90 (w1 : env_world) (r : Int) (h : F90 w1 = some r) : PCon Tryz.prog 90 [rd kenv_world w1] (rd (kint .i64) r) := by
  refine PCon.of (Con.intro0 Tryz.func90 rfl Tryz.ntmps90 rfl fun w H => ?_)
  unfold F90 at h
  refine AW.seq ?_
  refine AW.region ?_
  refine AOps.consT rfl (op_box 2 rfl rfl (vt rfl)) ?_
  rintro _ ⟨g2, rfl⟩
  refine AOps.cons (op_assign (A := rd (kint .i64) 0) rfl rfl (vk rfl)) rfl ?_
  refine AOps.nil ?_
  refine AW.seq ?_
  refine AW.freezeB 1 2 rfl rfl rfl ?_
  obtain ⟨x3, hx3, h⟩ := bsome h
  refine AW.region ?_
  refine AOps.cons (op_fieldp lenv_world_1 rfl rfl fl119_1 (vt rfl)) rfl ?_
  refine AOps.cons (op_fieldp lGroup_2 rfl rfl fl67_2 (vt rfl)) rfl ?_
  refine AOps.cons (op_loadp rfl rfl ty65 (vt rfl)) rfl ?_
  refine AOps.cons (op_fn1 (cs := [.tmp 1]) (CAs := [rp kenv_world w1]) (fun x => F123 x w1) rfl rfl (Ent.mk Tryz.func123 rfl rfl) ⟨vt rfl, trivial⟩ (fun x y h => c123 _ _ y h)) rfl ?_
  refine AOps.cons (op_call (xs := [.tmp 5, .tmp 6]) (c112 _ _ _ hx3) (Ent.mk Tryz.func112 rfl rfl) rfl rfl ⟨vt rfl, vt rfl, trivial⟩) rfl ?_
  refine AOps.cons (op_assign (A := rd (kint .i64) x3) rfl rfl (vt rfl)) rfl ?_
  refine AOps.nil ?_
  refine AW.ret ?_
  obtain rfl := Option.some.inj h
  exact ret1 Tryz.results90 rfl (out_tmp rfl)
-- weirbox/env.Takes
def F54_l1 : Nat → Nat → (List Int) → Option (List Int)
  | 0, i10, l8 => some l8
  | m11 + 1, i10, l8 => (appd l8 [(i10 : Int)]).bind fun l12 => (F54_l1 m11) (i10 + 1) l12
def F54 (e1 : Env) (g2 : Group) : Option (List Int) :=
  (bif (decide (((((⟨e1, g2⟩ : env_world).Group).Buckets).length : Int) = 0)) then some [] else (bif (decide ((((⟨e1, g2⟩ : env_world).Group).Kind) = 0)) then F54_l1 (((((⟨e1, g2⟩ : env_world).Group).Buckets).length : Int) : Int).toNat 0 [] else (bif (decide ((((⟨e1, g2⟩ : env_world).Group).Kind) = 1)) then (F89 ((⟨e1, g2⟩ : env_world).Env) ((((⟨e1, g2⟩ : env_world).Group).Buckets).length : Int)).bind fun x14 => some [x14] else (bif (decide ((((⟨e1, g2⟩ : env_world).Group).Kind) = 2)) then some [0] else (bif (decide ((((⟨e1, g2⟩ : env_world).Group).Kind) = 3)) then (F90 (⟨e1, g2⟩ : env_world)).bind fun x15 => (bif (decide (x15 ≥ 0)) then some [x15] else some []) else some [])))))
theorem c54 (e1 : Env) (g2 : Group) (r : (List Int)) (h : F54 e1 g2 = some r) : PCon Tryz.prog 54 [rd kEnv e1, rd kGroup g2] (rd (ksl (kint .i64)) r) := by
  refine PCon.of (Con.intro0 Tryz.func54 rfl Tryz.ntmps54 rfl fun w H => ?_)
  unfold F54 at h
  refine AW.seq ?_
  refine AW.region ?_
  refine AOps.consT rfl (op_box 3 rfl rfl (vt rfl)) ?_
  rintro _ ⟨g3, rfl⟩
  refine AOps.consT rfl (op_box 4 rfl rfl (vt rfl)) ?_
  rintro _ ⟨g4, rfl⟩
  refine AOps.cons (op_assign (A := rd (ksl (kint .i64)) []) rfl rfl vnil) rfl ?_
  refine AOps.nil ?_
  refine AW.seq ?_
  refine AW.region ?_
  refine AOps.cons (op_load rfl rfl ty25 (vt rfl) (i := 3) rfl) rfl ?_
  refine AOps.cons (op_load rfl rfl ty67 (vt rfl) (i := 4) rfl) rfl ?_
  refine AOps.cons (op_build (ps := [(0, .tmp 9), (1, .tmp 10)]) (x := (⟨e1, g2⟩ : env_world)) rfl rfl rfl (by kernel_rfl) zr119 ⟨_, _, lenv_world_0, _, by kernel_rfl, (vt rfl), _, _, lenv_world_1, _, by kernel_rfl, (vt rfl), rfl⟩) rfl ?_
  refine AOps.consT rfl (op_alloc 6 rfl rfl zr119) ?_
  rintro _ ⟨g5, rfl⟩
  refine AOps.cons (op_store rfl rfl ty119 (vt rfl) (i := 6) rfl (vt rfl)) rfl ?_
  refine AOps.nil ?_
  refine AW.seq ?_
  refine AW.seq ?_
  refine AW.region ?_
  refine AOps.cons (op_field lenv_world_1 rfl rfl fl119_1 (vt rfl)) rfl ?_
  refine AOps.cons (op_field lGroup_2 rfl rfl fl67_2 (vt rfl)) rfl ?_
  refine AOps.cons (op_load rfl rfl ty65 (vt rfl) (i := 6) rfl) rfl ?_
  refine AOps.cons (op_len' rfl rfl sl65 (vt rfl)) rfl ?_
  refine AOps.cons (op_eql rfl rfl (vt rfl) (vk rfl)) rfl ?_
  refine AOps.nil ?_
  refine AW.cond (vt rfl) (fun hc => ?_) (fun hc => ?_)
  · have h := cond_t hc h
    refine AW.seq ?_
    refine AW.region ?_
    refine AOps.cons (op_assign (A := rd (ksl (kint .i64)) []) rfl rfl vnil) rfl ?_
    refine AOps.nil ?_
    refine AW.ret ?_
    obtain rfl := Option.some.inj h
    exact ret1 Tryz.results54 rfl (out_tmp rfl)
  · have h := cond_f hc h
    refine AW.skip ?_
    refine AW.seq ?_
    refine AW.seq ?_
    refine AW.region ?_
    refine AOps.cons (op_field lenv_world_1 rfl rfl fl119_1 (vt rfl)) rfl ?_
    refine AOps.cons (op_field lGroup_1 rfl rfl fl67_1 (vt rfl)) rfl ?_
    refine AOps.cons (op_load rfl rfl ty3 (vt rfl) (i := 6) rfl) rfl ?_
    refine AOps.nil ?_
    refine AW.block ?_
    refine AW.seq ?_
    refine AW.region ?_
    refine AOps.cons (op_eql rfl rfl (vt rfl) (vk rfl)) rfl ?_
    refine AOps.cons (op_assign (A := rd kbool (decide ((((⟨e1, g2⟩ : env_world).Group).Kind) = 0))) rfl rfl (vt rfl)) rfl ?_
    refine AOps.nil ?_
    refine AW.cond (vt rfl) (fun hc => ?_) (fun hc => ?_)
    · have h := cond_t hc h
      refine AW.seq ?_
      refine AW.newnil 1001 3 (kint .i64) ?_
      refine AW.region ?_
      refine AOps.cons (op_assign rfl rfl vc) rfl ?_
      refine AOps.nil ?_
      refine AW.seq ?_
      refine AW.seq ?_
      refine AW.region ?_
      refine AOps.cons (op_field lenv_world_1 rfl rfl fl119_1 (vt rfl)) rfl ?_
      refine AOps.cons (op_field lGroup_2 rfl rfl fl67_2 (vt rfl)) rfl ?_
      refine AOps.cons (op_load rfl rfl ty65 (vt rfl) (i := 6) rfl) rfl ?_
      refine AOps.cons (op_len' rfl rfl sl65 (vt rfl)) rfl ?_
      refine AOps.cons (op_move (A := rd (kint .i64) 0) rfl rfl (vk rfl)) rfl ?_
      refine AOps.nil ?_
      refine AW.block ?_
      refine AW.loopG (d := []) (ν := Nat × Nat × (List Int) × Value) (fun n => Cnt ((((⟨e1, g2⟩ : env_world).Group).Buckets).length : Int) n.2.1 n.1 ∧ F54_l1 n.1 n.2.1 n.2.2.1 = some r) (fun n => n.1) (fun n => [(6, raw n.2.2.2), (25, rd (kint .i64) ((((⟨e1, g2⟩ : env_world).Group).Buckets).length : Int)), (26, rd (kint .i64) (n.2.1 : Int))]) (fun n => [(1001, Row n.2.2.2 3 (kint .i64) n.2.2.1)]) ((((((⟨e1, g2⟩ : env_world).Group).Buckets).length : Int) : Int).toNat, 0, [], (.slice none 0 0)) ⟨Cnt.start _, h⟩ ⟨rfl, ⟨rfl, rfl, rfl, trivial⟩, ⟨rfl, trivial⟩⟩ ?_
      rintro ⟨m11, i10, l8, v9⟩ ⟨hsf1, h⟩
      change Cnt ((((⟨e1, g2⟩ : env_world).Group).Buckets).length : Int) i10 m11 at hsf1
      change F54_l1 m11 i10 l8 = some r at h
      change AW _ _ _ ⟨slots [(6, raw v9), (25, rd (kint .i64) ((((⟨e1, g2⟩ : env_world).Group).Buckets).length : Int)), (26, rd (kint .i64) (i10 : Int))], ress [(1001, Row v9 3 (kint .i64) l8)], _⟩
      cases m11 with
      | zero =>
        unfold F54_l1 at h
        refine AW.seq ?_
        refine AW.region ?_
        refine AOps.cons (op_lss rfl rfl (vt rfl) (vt rfl)) rfl ?_
        refine AOps.nil ?_
        refine AW.seq ?_
        refine AW.cond (vt rfl) (fun hc => absurd (of_decide_eq_true hc) hsf1.zero) (fun hc => ?_)
        refine AW.exit ?_
        refine AW.seq ?_
        refine AW.region ?_
        refine AOps.cons (op_move (A := raw v9) rfl rfl (vt rfl)) rfl ?_
        refine AOps.cons (op_assign (A := raw v9) rfl rfl (vt rfl)) rfl ?_
        refine AOps.nil ?_
        refine AW.freezes [4, 6, 34] 1001 rfl ⟨rfl, rfl, rfl, trivial⟩ rfl ?_
        refine AW.ret ?_
        obtain rfl := Option.some.inj h
        exact ret1 Tryz.results54 rfl (out_tmp rfl)
      | succ m11 =>
        unfold F54_l1 at h
        generalize hgo1 : F54_l1 m11 = go1 at h
        refine AW.seq ?_
        refine AW.region ?_
        refine AOps.cons (op_lss rfl rfl (vt rfl) (vt rfl)) rfl ?_
        refine AOps.nil ?_
        refine AW.seq ?_
        refine AW.cond (vt rfl) (fun hc => ?_) (fun hc => absurd hsf1.succ (of_decide_eq_false hc))
        have hlti10 := of_decide_eq_true hc
        refine AW.skip ?_
        refine AW.seq ?_
        refine AW.block ?_
        refine AW.seq ?_
        refine AW.region ?_
        refine AOps.cons (op_move (A := rd (kint .i64) (i10 : Int)) rfl rfl (vt rfl)) rfl ?_
        refine AOps.cons (op_assign (A := rd (kint .i64) (i10 : Int)) rfl rfl (vt rfl)) rfl ?_
        refine AOps.nil ?_
        obtain ⟨l12, hl12, h⟩ := bsome h
        refine AW.region ?_
        refine AOps.cons (op_move (A := raw v9) rfl rfl (vt rfl)) rfl ?_
        refine AOps.cons (op_move (A := rd (kint .i64) (i10 : Int)) rfl rfl (vt rfl)) rfl ?_
        refine AOps.cons (op_buildSliceR (ps := [(0, .tmp 30)]) (l := [(i10 : Int)]) rfl rfl sl23 zr3 rfl rfl ⟨_, _, Lens.idx 1 (kint .i64) 0 (by decide), _, rfl, (vt rfl), rfl⟩ rfl) rfl ?_
        refine AOps.consT rfl (op_append' 1001 hl12 rfl rfl el23 (vt rfl) rfl (vt rfl)) ?_
        rintro _ ⟨v13, rfl⟩
        refine AOps.cons (op_assign (A := raw v13) rfl rfl (vt rfl)) rfl ?_
        refine AOps.nil ?_
        refine AW.region ?_
        refine AOps.cons (op_incr (t := 25) rfl rfl (vt rfl) (vk rfl) (vt rfl) hlti10) rfl ?_
        refine AOps.cons (op_move (A := rd (kint .i64) ((i10 + 1 : Nat) : Int)) rfl rfl (vt rfl)) rfl ?_
        refine AOps.nil ?_
        subst hgo1
        exact ⟨(m11, i10 + 1, l12, v13), Nat.lt_succ_self _, ⟨hsf1.next, h⟩, ⟨rfl, ⟨rfl, rfl, rfl, trivial⟩, ⟨rfl, trivial⟩⟩⟩
    · have h := cond_f hc h
      refine AW.seq ?_
      refine AW.region ?_
      refine AOps.cons (op_eql rfl rfl (vt rfl) (vk rfl)) rfl ?_
      refine AOps.cons (op_assign (A := rd kbool (decide ((((⟨e1, g2⟩ : env_world).Group).Kind) = 1))) rfl rfl (vt rfl)) rfl ?_
      refine AOps.nil ?_
      refine AW.cond (vt rfl) (fun hc => ?_) (fun hc => ?_)
      · have h := cond_t hc h
        refine AW.seq ?_
        obtain ⟨x14, hx14, h⟩ := bsome h
        refine AW.region ?_
        refine AOps.cons (op_field lenv_world_0 rfl rfl fl119_0 (vt rfl)) rfl ?_
        refine AOps.cons (op_load rfl rfl ty25 (vt rfl) (i := 6) rfl) rfl ?_
        refine AOps.cons (op_field lenv_world_1 rfl rfl fl119_1 (vt rfl)) rfl ?_
        refine AOps.cons (op_field lGroup_2 rfl rfl fl67_2 (vt rfl)) rfl ?_
        refine AOps.cons (op_load rfl rfl ty65 (vt rfl) (i := 6) rfl) rfl ?_
        refine AOps.cons (op_len' rfl rfl sl65 (vt rfl)) rfl ?_
        refine AOps.cons (op_call (xs := [.tmp 38, .tmp 42]) (c89 _ _ _ hx14) (Ent.mk Tryz.func89 rfl rfl) rfl rfl ⟨vt rfl, vt rfl, trivial⟩) rfl ?_
        refine AOps.cons (op_buildSliceR (ps := [(0, .tmp 43)]) (l := [x14]) rfl rfl sl23 zr3 rfl rfl ⟨_, _, Lens.idx 1 (kint .i64) 0 (by decide), _, rfl, (vt rfl), rfl⟩ rfl) rfl ?_
        refine AOps.cons (op_assign (A := rd (ksl (kint .i64)) [x14]) rfl rfl (vt rfl)) rfl ?_
        refine AOps.nil ?_
        refine AW.ret ?_
        obtain rfl := Option.some.inj h
        exact ret1 Tryz.results54 rfl (out_tmp rfl)
      · have h := cond_f hc h
        refine AW.seq ?_
        refine AW.region ?_
        refine AOps.cons (op_eql rfl rfl (vt rfl) (vk rfl)) rfl ?_
        refine AOps.cons (op_assign (A := rd kbool (decide ((((⟨e1, g2⟩ : env_world).Group).Kind) = 2))) rfl rfl (vt rfl)) rfl ?_
        refine AOps.nil ?_
        refine AW.cond (vt rfl) (fun hc => ?_) (fun hc => ?_)
        · have h := cond_t hc h
          refine AW.seq ?_
          refine AW.region ?_
          refine AOps.cons (op_buildSliceR (ps := [(0, .const (Value.int IntKind.i64 0))]) (l := [0]) rfl rfl sl23 zr3 rfl rfl ⟨_, _, Lens.idx 1 (kint .i64) 0 (by decide), _, rfl, (vk rfl), rfl⟩ rfl) rfl ?_
          refine AOps.cons (op_assign (A := rd (ksl (kint .i64)) [0]) rfl rfl (vt rfl)) rfl ?_
          refine AOps.nil ?_
          refine AW.ret ?_
          obtain rfl := Option.some.inj h
          exact ret1 Tryz.results54 rfl (out_tmp rfl)
        · have h := cond_f hc h
          refine AW.seq ?_
          refine AW.region ?_
          refine AOps.cons (op_eql rfl rfl (vt rfl) (vk rfl)) rfl ?_
          refine AOps.cons (op_assign (A := rd kbool (decide ((((⟨e1, g2⟩ : env_world).Group).Kind) = 3))) rfl rfl (vt rfl)) rfl ?_
          refine AOps.nil ?_
          refine AW.cond (vt rfl) (fun hc => ?_) (fun hc => ?_)
          · have h := cond_t hc h
            refine AW.seq ?_
            obtain ⟨x15, hx15, h⟩ := bsome h
            refine AW.region ?_
            refine AOps.cons (op_load rfl rfl ty119 (vt rfl) (i := 6) rfl) rfl ?_
            refine AOps.cons (op_call (xs := [.tmp 50]) (c90 _ _ hx15) (Ent.mk Tryz.func90 rfl rfl) rfl rfl ⟨vt rfl, trivial⟩) rfl ?_
            refine AOps.cons (op_assign (A := rd (kint .i64) x15) rfl rfl (vt rfl)) rfl ?_
            refine AOps.nil ?_
            refine AW.seq ?_
            refine AW.region ?_
            refine AOps.cons (op_move (A := rd (kint .i64) x15) rfl rfl (vt rfl)) rfl ?_
            refine AOps.cons (op_geq rfl rfl (vt rfl) (vk rfl)) rfl ?_
            refine AOps.nil ?_
            refine AW.cond (vt rfl) (fun hc => ?_) (fun hc => ?_)
            · have h := cond_t hc h
              refine AW.seq ?_
              refine AW.region ?_
              refine AOps.cons (op_move (A := rd (kint .i64) x15) rfl rfl (vt rfl)) rfl ?_
              refine AOps.cons (op_buildSliceR (ps := [(0, .tmp 54)]) (l := [x15]) rfl rfl sl23 zr3 rfl rfl ⟨_, _, Lens.idx 1 (kint .i64) 0 (by decide), _, rfl, (vt rfl), rfl⟩ rfl) rfl ?_
              refine AOps.cons (op_assign (A := rd (ksl (kint .i64)) [x15]) rfl rfl (vt rfl)) rfl ?_
              refine AOps.nil ?_
              refine AW.ret ?_
              obtain rfl := Option.some.inj h
              exact ret1 Tryz.results54 rfl (out_tmp rfl)
            · have h := cond_f hc h
              refine AW.skip ?_
              refine AW.seq ?_
              refine AW.region ?_
              refine AOps.cons (op_assign (A := rd (ksl (kint .i64)) []) rfl rfl vnil) rfl ?_
              refine AOps.nil ?_
              refine AW.ret ?_
              obtain rfl := Option.some.inj h
              exact ret1 Tryz.results54 rfl (out_tmp rfl)
          · have h := cond_f hc h
            refine AW.skip ?_
            refine AW.seq ?_
            refine AW.region ?_
            refine AOps.cons (op_assign (A := rd (ksl (kint .i64)) []) rfl rfl vnil) rfl ?_
            refine AOps.nil ?_
            refine AW.ret ?_
            obtain rfl := Option.some.inj h
            exact ret1 Tryz.results54 rfl (out_tmp rfl)
-- weirbox/aset.at
def F99 (a1 : Action) : Option aset_spot :=
  (bif (decide (a1.Kind = 25)) then some (⟨a1.Kind, a1.Oxm.Field⟩ : aset_spot) else some (⟨a1.Kind, 0⟩ : aset_spot))
theorem c99 (a1 : Action) (r : aset_spot) (h : F99 a1 = some r) : PCon Tryz.prog 99 [rd kAction a1] (rd kaset_spot r) := by
  refine PCon.of (Con.intro0 Tryz.func99 rfl Tryz.ntmps99 rfl fun w H => ?_)
  unfold F99 at h
  refine AW.seq ?_
  refine AW.region ?_
  refine AOps.consT rfl (op_box 2 rfl rfl (vt rfl)) ?_
  rintro _ ⟨g2, rfl⟩
  refine AOps.consT rfl (op_alloc 3 rfl rfl zr128) ?_
  rintro _ ⟨g3, rfl⟩
  refine AOps.nil ?_
  refine AW.seq ?_
  refine AW.seq ?_
  refine AW.region ?_
  refine AOps.cons (op_field lAction_0 rfl rfl fl62_0 (vt rfl)) rfl ?_
  refine AOps.cons (op_load rfl rfl ty3 (vt rfl) (i := 2) rfl) rfl ?_
  refine AOps.cons (op_eql rfl rfl (vt rfl) (vk rfl)) rfl ?_
  refine AOps.nil ?_
  refine AW.cond (vt rfl) (fun hc => ?_) (fun hc => ?_)
  · have h := cond_t hc h
    refine AW.seq ?_
    refine AW.region ?_
    refine AOps.cons (op_field lAction_0 rfl rfl fl62_0 (vt rfl)) rfl ?_
    refine AOps.cons (op_load rfl rfl ty3 (vt rfl) (i := 2) rfl) rfl ?_
    refine AOps.cons (op_field lAction_5 rfl rfl fl62_5 (vt rfl)) rfl ?_
    refine AOps.cons (op_field lOxm_0 rfl rfl fl60_0 (vt rfl)) rfl ?_
    refine AOps.cons (op_load rfl rfl ty3 (vt rfl) (i := 2) rfl) rfl ?_
    refine AOps.cons (op_build (ps := [(0, .tmp 7), (1, .tmp 10)]) (x := (⟨a1.Kind, a1.Oxm.Field⟩ : aset_spot)) rfl rfl rfl (by kernel_rfl) zr128 ⟨_, _, laset_spot_0, _, by kernel_rfl, (vt rfl), _, _, laset_spot_1, _, by kernel_rfl, (vt rfl), rfl⟩) rfl ?_
    refine AOps.cons (op_store rfl rfl ty128 (vt rfl) (i := 3) rfl (vt rfl)) rfl ?_
    refine AOps.nil ?_
    refine AW.ret ?_
    obtain rfl := Option.some.inj h
    exact ret1 Tryz.results99 rfl (out_cell rfl (i := 3) rfl ty128)
  · have h := cond_f hc h
    refine AW.skip ?_
    refine AW.seq ?_
    refine AW.region ?_
    refine AOps.cons (op_field lAction_0 rfl rfl fl62_0 (vt rfl)) rfl ?_
    refine AOps.cons (op_load rfl rfl ty3 (vt rfl) (i := 2) rfl) rfl ?_
    refine AOps.cons (op_build (ps := [(0, .tmp 13)]) (x := (⟨a1.Kind, 0⟩ : aset_spot)) rfl rfl rfl (by kernel_rfl) zr128 ⟨_, _, laset_spot_0, _, by kernel_rfl, (vt rfl), rfl⟩) rfl ?_
    refine AOps.cons (op_store rfl rfl ty128 (vt rfl) (i := 3) rfl (vt rfl)) rfl ?_
    refine AOps.nil ?_
    refine AW.ret ?_
    obtain rfl := Option.some.inj h
    exact ret1 Tryz.results99 rfl (out_cell rfl (i := 3) rfl ty128)
-- weirbox/aset.Write$1
def F101 (b1 : Action) (c2 : Action) : Option Bool :=
  (F99 c2).bind fun x4 => (F99 b1).bind fun x5 => some (decide (x4 = x5))
theorem c101 (b1 : Action) (c2 : Action) (r : Bool) (h : F101 b1 c2 = some r) : PCon Tryz.prog 101 [rd kAction b1, rp kAction c2] (rd kbool r) := by
  refine PCon.of (Con.intro0 Tryz.func101 rfl Tryz.ntmps101 rfl fun w H => ?_)
  unfold F101 at h
  refine AW.seq ?_
  refine AW.region ?_
  refine AOps.consT rfl (op_box 3 rfl rfl (vt rfl)) ?_
  rintro _ ⟨g3, rfl⟩
  refine AOps.cons (op_assign (A := rd kbool false) rfl rfl vb) rfl ?_
  refine AOps.nil ?_
  refine AW.seq ?_
  obtain ⟨x4, hx4, h⟩ := bsome h
  obtain ⟨x5, hx5, h⟩ := bsome h
  refine AW.regionAny [⟨[1], [4], [], []⟩, ⟨[4], [5], [], []⟩, ⟨[2], [6], [3], []⟩, ⟨[6], [7], [], []⟩, ⟨[5, 7], [8], [], []⟩, ⟨[8], [3], [], []⟩] mixed (by kernel_rfl) ?_
  refine SeqA.cons (loc [1] [] rfl rfl fun S hs hr => op_loadp rfl rfl ty62 (vt ((hs 1 rfl).trans rfl))) ⟨rfl, rfl, rfl, rfl⟩ ?_
  refine SeqA.cons (loc [4] [] rfl rfl fun S hs hr => op_call (xs := [.tmp 4]) (c99 _ _ hx4) (Ent.mk Tryz.func99 rfl rfl) rfl rfl ⟨vt ((hs 4 rfl).trans rfl), trivial⟩) ⟨rfl, rfl, rfl, rfl⟩ ?_
  refine SeqA.cons (loc [2] [3] rfl rfl fun S hs hr => op_load rfl rfl ty62 (vt ((hs 2 rfl).trans rfl)) (i := 3) ((hr 3 rfl).trans rfl)) ⟨rfl, rfl, rfl, rfl⟩ ?_
  refine SeqA.cons (loc [6] [] rfl rfl fun S hs hr => op_call (xs := [.tmp 6]) (c99 _ _ hx5) (Ent.mk Tryz.func99 rfl rfl) rfl rfl ⟨vt ((hs 6 rfl).trans rfl), trivial⟩) ⟨rfl, rfl, rfl, rfl⟩ ?_
  refine SeqA.cons (loc [5, 7] [] rfl rfl fun S hs hr => op_eqlk rfl rfl eqk128 (by decide) rfl eg128 (vt ((hs 5 rfl).trans rfl)) (vt ((hs 7 rfl).trans rfl))) ⟨rfl, rfl, rfl, rfl⟩ ?_
  refine SeqA.cons (loc [8] [] rfl rfl fun S hs hr => op_assign (A := rd kbool (decide (x4 = x5))) rfl rfl (vt ((hs 8 rfl).trans rfl))) ⟨rfl, rfl, rfl, rfl⟩ ?_
  refine AW.ret ?_
  obtain rfl := Option.some.inj h
  exact ret1 Tryz.results101 rfl (out_tmp rfl)
-- slices.IndexFunc[[]weirbox/api.Action,weirbox/api.Action]
def F100_l1 (s1 : (List Action)) (f2 : (Action → Option Bool)) : Nat → Nat → Option Int
  | 0, i3 => some (-1)
  | m4 + 1, i3 => (lget s1 (i3 : Int)).bind fun e5 => (f2 e5).bind fun x6 => (bif x6 then some (i3 : Int) else (F100_l1 s1 f2 m4) (i3 + 1))
def F100 (s1 : (List Action)) (f2 : (Action → Option Bool)) : Option Int :=
  F100_l1 s1 f2 ((s1.length : Int) : Int).toNat 0
theorem c100 (s1 : (List Action)) (f2 : (Action → Option Bool)) (r : Int) (h : F100 s1 f2 = some r) : PCon Tryz.prog 100 [rd (ksl kAction) s1, fn1 Tryz.prog kAction kbool f2] (rd (kint .i64) r) := by
  refine PCon.of (Con.intro0 Tryz.func100 rfl Tryz.ntmps100 rfl fun w H => ?_)
  unfold F100 at h
  refine AW.seq ?_
  refine AW.region ?_
  refine AOps.cons (op_assign (A := rd (kint .i64) 0) rfl rfl (vk rfl)) rfl ?_
  refine AOps.nil ?_
  refine AW.seq ?_
  refine AW.seq ?_
  refine AW.region ?_
  refine AOps.cons (op_move (A := rd (ksl kAction) s1) rfl rfl (vt rfl)) rfl ?_
  refine AOps.cons (op_len' rfl rfl sl26 (vt rfl)) rfl ?_
  refine AOps.cons (op_move (A := rd (kint .i64) 0) rfl rfl (vk rfl)) rfl ?_
  refine AOps.nil ?_
  refine AW.block ?_
  refine AW.loopG (d := []) (ν := Nat × Nat) (fun n => Cnt (s1.length : Int) n.2 n.1 ∧ F100_l1 s1 f2 n.1 n.2 = some r) (fun n => n.1) (fun n => [(0, rd (ksl kAction) s1), (1, fn1 Tryz.prog kAction kbool f2), (7, rd (kint .i64) (s1.length : Int)), (8, rd (kint .i64) (n.2 : Int))]) (fun n => []) (((s1.length : Int) : Int).toNat, 0) ⟨Cnt.start _, h⟩ ⟨rfl, ⟨rfl, rfl, rfl, rfl, trivial⟩, trivial⟩ ?_
  rintro ⟨m4, i3⟩ ⟨hsf1, h⟩
  change Cnt (s1.length : Int) i3 m4 at hsf1
  change F100_l1 s1 f2 m4 i3 = some r at h
  change AW _ _ _ ⟨slots [(0, rd (ksl kAction) s1), (1, fn1 Tryz.prog kAction kbool f2), (7, rd (kint .i64) (s1.length : Int)), (8, rd (kint .i64) (i3 : Int))], ress [], _⟩
  cases m4 with
  | zero =>
    unfold F100_l1 at h
    refine AW.seq ?_
    refine AW.region ?_
    refine AOps.cons (op_lss rfl rfl (vt rfl) (vt rfl)) rfl ?_
    refine AOps.nil ?_
    refine AW.seq ?_
    refine AW.cond (vt rfl) (fun hc => absurd (of_decide_eq_true hc) hsf1.zero) (fun hc => ?_)
    refine AW.exit ?_
    refine AW.seq ?_
    refine AW.region ?_
    refine AOps.cons (op_assign (A := rd (kint .i64) (-1)) rfl rfl (vk rfl)) rfl ?_
    refine AOps.nil ?_
    refine AW.ret ?_
    obtain rfl := Option.some.inj h
    exact ret1 Tryz.results100 rfl (out_tmp rfl)
  | succ m4 =>
    unfold F100_l1 at h
    generalize hgo1 : F100_l1 s1 f2 m4 = go1 at h
    refine AW.seq ?_
    refine AW.region ?_
    refine AOps.cons (op_lss rfl rfl (vt rfl) (vt rfl)) rfl ?_
    refine AOps.nil ?_
    refine AW.seq ?_
    refine AW.cond (vt rfl) (fun hc => ?_) (fun hc => absurd hsf1.succ (of_decide_eq_false hc))
    have hlti3 := of_decide_eq_true hc
    refine AW.skip ?_
    refine AW.seq ?_
    refine AW.block ?_
    refine AW.seq ?_
    refine AW.region ?_
    refine AOps.cons (op_move (A := rd (kint .i64) (i3 : Int)) rfl rfl (vt rfl)) rfl ?_
    refine AOps.cons (op_assign (A := rd (kint .i64) (i3 : Int)) rfl rfl (vt rfl)) rfl ?_
    refine AOps.nil ?_
    refine AW.seq ?_
    obtain ⟨e5, he5, h⟩ := bsome h
    obtain ⟨x6, hx6, h⟩ := bsome h
    refine AW.region ?_
    refine AOps.cons (op_move (A := fn1 Tryz.prog kAction kbool f2) rfl rfl (vt rfl)) rfl ?_
    refine AOps.cons (op_move (A := rd (ksl kAction) s1) rfl rfl (vt rfl)) rfl ?_
    refine AOps.cons (op_move (A := rd (kint .i64) (i3 : Int)) rfl rfl (vt rfl)) rfl ?_
    refine AOps.cons (op_indexs' rfl rfl sl26 (vt rfl) (vt rfl) he5) rfl ?_
    refine AOps.cons (op_loadp rfl rfl ty62 (vt rfl)) rfl ?_
    refine AOps.cons (op_call1 hx6 rfl rfl (vt rfl) (vt rfl)) rfl ?_
    refine AOps.nil ?_
    refine AW.cond (vt rfl) (fun hc => ?_) (fun hc => ?_)
    · have h := cond_t hc h
      refine AW.seq ?_
      refine AW.region ?_
      refine AOps.cons (op_move (A := rd (kint .i64) (i3 : Int)) rfl rfl (vt rfl)) rfl ?_
      refine AOps.cons (op_assign (A := rd (kint .i64) (i3 : Int)) rfl rfl (vt rfl)) rfl ?_
      refine AOps.nil ?_
      refine AW.ret ?_
      obtain rfl := Option.some.inj h
      exact ret1 Tryz.results100 rfl (out_tmp rfl)
    · have h := cond_f hc h
      refine AW.skip ?_
      refine AW.region ?_
      refine AOps.cons (op_incr (t := 7) rfl rfl (vt rfl) (vk rfl) (vt rfl) hlti3) rfl ?_
      refine AOps.cons (op_move (A := rd (kint .i64) ((i3 + 1 : Nat) : Int)) rfl rfl (vt rfl)) rfl ?_
      refine AOps.nil ?_
      subst hgo1
      exact ⟨(m4, i3 + 1), Nat.lt_succ_self _, ⟨hsf1.next, h⟩, ⟨rfl, ⟨rfl, rfl, rfl, rfl, trivial⟩, trivial⟩⟩
-- weirbox/aset.Write
def F56_l1 : (List Action) → Nat → (List Action) → Option (List Action)
  | [], i9, l7 => some l7
  | x11 :: l10, i9, l7 => (F100 l7 (fun x => F101 x x11)).bind fun x13 => (bif (decide (x13 < 0)) then (appd l7 [x11]).bind fun l14 => (F56_l1 l10) (i9 + 1) l14 else (lget l7 x13).bind fun e16 => (F56_l1 l10) (i9 + 1) (List.set l7 x13.toNat x11))
def F56 (set1 : (List Action)) (l2 : (List Action)) : Option (List Action) :=
  (F94 set1).bind fun x3 => F56_l1 l2 0 x3
theorem c56 (set1 : (List Action)) (l2 : (List Action)) (r : (List Action)) (h : F56 set1 l2 = some r) : PCon Tryz.prog 56 [rd (ksl kAction) set1, rd (ksl kAction) l2] (rd (ksl kAction) r) := by
  refine PCon.of (Con.intro0 Tryz.func56 rfl Tryz.ntmps56 rfl fun w H => ?_)
  unfold F56 at h
  refine AW.seq ?_
  refine AW.region ?_
  refine AOps.cons (op_assign (A := rd (ksl kAction) []) rfl rfl vnil) rfl ?_
  refine AOps.nil ?_
  refine AW.seq ?_
  obtain ⟨x3, hx3, h⟩ := bsome h
  refine AW.region ?_
  refine AOps.cons (op_move (A := rd (ksl kAction) set1) rfl rfl (vt rfl)) rfl ?_
  refine AOps.consT rfl (op_callR 1001 (xs := [.tmp 9]) (c94o _ _ hx3) (Ent.mk Tryz.func94 rfl rfl) rfl rfl ⟨vt rfl, trivial⟩ rfl) ?_
  rintro _ ⟨v4, rfl⟩
  refine AOps.cons (op_assign (A := raw v4) rfl rfl (vt rfl)) rfl ?_
  refine AOps.nil ?_
  refine AW.seq ?_
  refine AW.seq ?_
  refine AW.region ?_
  refine AOps.cons (op_move (A := rd (ksl kAction) l2) rfl rfl (vt rfl)) rfl ?_
  refine AOps.cons (op_len' rfl rfl sl26 (vt rfl)) rfl ?_
  refine AOps.cons (op_move (A := rd (kint .i64) 0) rfl rfl (vk rfl)) rfl ?_
  refine AOps.nil ?_
  refine AW.block ?_
  refine AW.loopG (d := []) (ν := (List Action) × Nat × (List Action) × Value) (fun n => Sfx l2 n.2.1 n.1 ∧ F56_l1 n.1 n.2.1 n.2.2.1 = some r) (fun n => n.1.length) (fun n => [(5, raw n.2.2.2), (11, rd (ksl kAction) l2), (12, rd (kint .i64) (l2.length : Int)), (13, rd (kint .i64) (n.2.1 : Int))]) (fun n => [(1001, Row n.2.2.2 62 kAction n.2.2.1)]) (l2, 0, x3, v4) ⟨Sfx.start _, h⟩ ⟨rfl, ⟨rfl, rfl, rfl, rfl, trivial⟩, ⟨rfl, trivial⟩⟩ ?_
  rintro ⟨l10, i9, l7, v8⟩ ⟨hsf1, h⟩
  change Sfx l2 i9 l10 at hsf1
  change F56_l1 l10 i9 l7 = some r at h
  change AW _ _ _ ⟨slots [(5, raw v8), (11, rd (ksl kAction) l2), (12, rd (kint .i64) (l2.length : Int)), (13, rd (kint .i64) (i9 : Int))], ress [(1001, Row v8 62 kAction l7)], _⟩
  cases l10 with
  | nil =>
    unfold F56_l1 at h
    refine AW.seq ?_
    refine AW.region ?_
    refine AOps.cons (op_lss rfl rfl (vt rfl) (vt rfl)) rfl ?_
    refine AOps.nil ?_
    refine AW.seq ?_
    refine AW.cond (vt rfl) (fun hc => absurd (of_decide_eq_true hc) hsf1.nil) (fun hc => ?_)
    refine AW.exit ?_
    refine AW.seq ?_
    refine AW.region ?_
    refine AOps.cons (op_move (A := raw v8) rfl rfl (vt rfl)) rfl ?_
    refine AOps.cons (op_assign (A := raw v8) rfl rfl (vt rfl)) rfl ?_
    refine AOps.nil ?_
    refine AW.freezes [4, 5, 31] 1001 rfl ⟨rfl, rfl, rfl, trivial⟩ rfl ?_
    refine AW.ret ?_
    obtain rfl := Option.some.inj h
    exact ret1 Tryz.results56 rfl (out_tmp rfl)
  | cons x11 l10 =>
    unfold F56_l1 at h
    generalize hgo1 : F56_l1 l10 = go1 at h
    refine AW.seq ?_
    refine AW.region ?_
    refine AOps.cons (op_lss rfl rfl (vt rfl) (vt rfl)) rfl ?_
    refine AOps.nil ?_
    refine AW.seq ?_
    refine AW.cond (vt rfl) (fun hc => ?_) (fun hc => absurd hsf1.cons (of_decide_eq_false hc))
    have hlti9 := of_decide_eq_true hc
    refine AW.skip ?_
    refine AW.seq ?_
    refine AW.block ?_
    refine AW.seq ?_
    refine AW.region ?_
    refine AOps.cons (op_indexs' rfl rfl sl26 (vt rfl) (vt rfl) hsf1.lget) rfl ?_
    refine AOps.cons (op_loadp rfl rfl ty62 (vt rfl)) rfl ?_
    refine AOps.consT rfl (op_alloc 8 rfl rfl zr62) ?_
    rintro _ ⟨g12, rfl⟩
    refine AOps.cons (op_store rfl rfl ty62 (vt rfl) (i := 8) rfl (vt rfl)) rfl ?_
    refine AOps.nil ?_
    refine AW.seq ?_
    refine AW.freezeB 7 8 rfl rfl rfl ?_
    obtain ⟨x13, hx13, h⟩ := bsome h
    refine AW.region ?_
    refine AOps.cons (op_move (A := raw v8) rfl rfl (vt rfl)) rfl ?_
    refine AOps.cons (op_fn1 (cs := [.tmp 7]) (CAs := [rp kAction x11]) (fun x => F101 x x11) rfl rfl (Ent.mk Tryz.func101 rfl rfl) ⟨vt rfl, trivial⟩ (fun x y h => c101 _ _ y h)) rfl ?_
    refine AOps.cons (op_callB (xs := [.tmp 17, .tmp 18]) 1001 (c100 _ _ _ hx13) (Ent.mk Tryz.func100 rfl rfl) rfl rfl ⟨vL rfl rfl, vB (vt rfl), trivial⟩) rfl ?_
    refine AOps.cons (op_assign (A := rd (kint .i64) x13) rfl rfl (vt rfl)) rfl ?_
    refine AOps.nil ?_
    refine AW.seq ?_
    refine AW.region ?_
    refine AOps.cons (op_move (A := rd (kint .i64) x13) rfl rfl (vt rfl)) rfl ?_
    refine AOps.cons (op_lss rfl rfl (vt rfl) (vk rfl)) rfl ?_
    refine AOps.nil ?_
    refine AW.cond (vt rfl) (fun hc => ?_) (fun hc => ?_)
    · have h := cond_t hc h
      obtain ⟨l14, hl14, h⟩ := bsome h
      refine AW.region ?_
      refine AOps.cons (op_move (A := raw v8) rfl rfl (vt rfl)) rfl ?_
      refine AOps.cons (op_loadp rfl rfl ty62 (vt rfl)) rfl ?_
      refine AOps.cons (op_buildSliceR (ps := [(0, .tmp 23)]) (l := [x11]) rfl rfl sl26 zr62 rfl rfl ⟨_, _, Lens.idx 1 kAction 0 (by decide), _, rfl, (vt rfl), rfl⟩ rfl) rfl ?_
      refine AOps.consT rfl (op_append' 1001 hl14 rfl rfl el26 (vt rfl) rfl (vt rfl)) ?_
      rintro _ ⟨v15, rfl⟩
      refine AOps.cons (op_assign (A := raw v15) rfl rfl (vt rfl)) rfl ?_
      refine AOps.nil ?_
      refine AW.region ?_
      refine AOps.cons (op_incr (t := 12) rfl rfl (vt rfl) (vk rfl) (vt rfl) hlti9) rfl ?_
      refine AOps.cons (op_move (A := rd (kint .i64) ((i9 + 1 : Nat) : Int)) rfl rfl (vt rfl)) rfl ?_
      refine AOps.nil ?_
      subst hgo1
      exact ⟨(l10, i9 + 1, l14, v15), Nat.lt_succ_self _, ⟨hsf1.next, h⟩, ⟨rfl, ⟨rfl, rfl, rfl, rfl, trivial⟩, ⟨rfl, trivial⟩⟩⟩
    · have h := cond_f hc h
      obtain ⟨e16, he16, h⟩ := bsome h
      refine AW.region ?_
      refine AOps.cons (op_move (A := raw v8) rfl rfl (vt rfl)) rfl ?_
      refine AOps.cons (op_move (A := rd (kint .i64) x13) rfl rfl (vt rfl)) rfl ?_
      refine AOps.cons (op_loadp rfl rfl ty62 (vt rfl)) rfl ?_
      refine AOps.cons (op_indexo' 1001 rfl rfl sl26 (vt rfl) rfl (vt rfl) he16) rfl ?_
      refine AOps.cons (op_storeo' 1001 rfl rfl ty62 (vt rfl) rfl (lget_of he16).2 (vt rfl)) rfl ?_
      refine AOps.nil ?_
      refine AW.region ?_
      refine AOps.cons (op_incr (t := 12) rfl rfl (vt rfl) (vk rfl) (vt rfl) hlti9) rfl ?_
      refine AOps.cons (op_move (A := rd (kint .i64) ((i9 + 1 : Nat) : Int)) rfl rfl (vt rfl)) rfl ?_
      refine AOps.nil ?_
      subst hgo1
      exact ⟨(l10, i9 + 1, (List.set l7 x13.toNat x11), v8), Nat.lt_succ_self _, ⟨hsf1.next, h⟩, ⟨rfl, ⟨rfl, rfl, rfl, rfl, trivial⟩, ⟨rfl, trivial⟩⟩⟩
-- slices.ContainsFunc[[]weirbox/api.Action,weirbox/api.Action]
def F91 (s1 : (List Action)) (f2 : (Action → Option Bool)) : Option Bool :=
  (F100 s1 f2).bind fun x3 => some (decide (x3 ≥ 0))
theorem c91 (s1 : (List Action)) (f2 : (Action → Option Bool)) (r : Bool) (h : F91 s1 f2 = some r) : PCon Tryz.prog 91 [rd (ksl kAction) s1, fn1 Tryz.prog kAction kbool f2] (rd kbool r) := by
  refine PCon.of (Con.intro0 Tryz.func91 rfl Tryz.ntmps91 rfl fun w H => ?_)
  unfold F91 at h
  refine AW.seq ?_
  refine AW.region ?_
  refine AOps.cons (op_assign (A := rd kbool false) rfl rfl vb) rfl ?_
  refine AOps.nil ?_
  refine AW.seq ?_
  obtain ⟨x3, hx3, h⟩ := bsome h
  refine AW.region ?_
  refine AOps.cons (op_move (A := rd (ksl kAction) s1) rfl rfl (vt rfl)) rfl ?_
  refine AOps.cons (op_move (A := fn1 Tryz.prog kAction kbool f2) rfl rfl (vt rfl)) rfl ?_
  refine AOps.cons (op_call (xs := [.tmp 5, .tmp 6]) (c100 _ _ _ hx3) (Ent.mk Tryz.func100 rfl rfl) rfl rfl ⟨vt rfl, vt rfl, trivial⟩) rfl ?_
  refine AOps.cons (op_geq rfl rfl (vt rfl) (vk rfl)) rfl ?_
  refine AOps.cons (op_assign (A := rd kbool (decide (x3 ≥ 0))) rfl rfl (vt rfl)) rfl ?_
  refine AOps.nil ?_
  refine AW.ret ?_
  obtain rfl := Option.some.inj h
  exact ret1 Tryz.results91 rfl (out_tmp rfl)
-- weirbox/aset.List$1
def F92 (a1 : Action) : Option Bool :=
  some (decide (a1.Kind = 22))
theorem c92 (a1 : Action) (r : Bool) (h : F92 a1 = some r) : PCon Tryz.prog 92 [rd kAction a1] (rd kbool r) := by
  refine PCon.of (Con.intro0 Tryz.func92 rfl Tryz.ntmps92 rfl fun w H => ?_)
  unfold F92 at h
  refine AW.seq ?_
  refine AW.region ?_
  refine AOps.consT rfl (op_box 2 rfl rfl (vt rfl)) ?_
  rintro _ ⟨g2, rfl⟩
  refine AOps.cons (op_assign (A := rd kbool false) rfl rfl vb) rfl ?_
  refine AOps.nil ?_
  refine AW.seq ?_
  refine AW.region ?_
  refine AOps.cons (op_field lAction_0 rfl rfl fl62_0 (vt rfl)) rfl ?_
  refine AOps.cons (op_load rfl rfl ty3 (vt rfl) (i := 2) rfl) rfl ?_
  refine AOps.cons (op_eql rfl rfl (vt rfl) (vk rfl)) rfl ?_
  refine AOps.cons (op_assign (A := rd kbool (decide (a1.Kind = 22))) rfl rfl (vt rfl)) rfl ?_
  refine AOps.nil ?_
  refine AW.ret ?_
  obtain rfl := Option.some.inj h
  exact ret1 Tryz.results92 rfl (out_tmp rfl)
-- weirbox/aset.turn
def F96 (kind1 : Int) : Option Int :=
  (F125 [18, 17, 25, 22, 0] kind1).bind fun x2 => some x2
theorem c96 (kind1 : Int) (r : Int) (h : F96 kind1 = some r) : PCon Tryz.prog 96 [rd (kint .i64) kind1] (rd (kint .i64) r) := by
  refine PCon.of (Con.intro0 Tryz.func96 rfl Tryz.ntmps96 rfl fun w H => ?_)
  unfold F96 at h
  refine AW.seq ?_
  refine AW.region ?_
  refine AOps.cons (op_assign (A := rd (kint .i64) 0) rfl rfl (vk rfl)) rfl ?_
  refine AOps.nil ?_
  refine AW.seq ?_
  obtain ⟨x2, hx2, h⟩ := bsome h
  refine AW.region ?_
  refine AOps.cons (op_buildSliceR (ps := [(0, .const (Value.int IntKind.i64 18)), (1, .const (Value.int IntKind.i64 17)), (2, .const (Value.int IntKind.i64 25)), (3, .const (Value.int IntKind.i64 22)), (4, .const (Value.int IntKind.i64 0))]) (l := [18, 17, 25, 22, 0]) rfl rfl sl23 zr3 rfl rfl ⟨_, _, Lens.idx 5 (kint .i64) 0 (by decide), _, rfl, (vk rfl), _, _, Lens.idx 5 (kint .i64) 1 (by decide), _, rfl, (vk rfl), _, _, Lens.idx 5 (kint .i64) 2 (by decide), _, rfl, (vk rfl), _, _, Lens.idx 5 (kint .i64) 3 (by decide), _, rfl, (vk rfl), _, _, Lens.idx 5 (kint .i64) 4 (by decide), _, rfl, (vk rfl), rfl⟩ rfl) rfl ?_
  refine AOps.cons (op_move (A := rd (kint .i64) kind1) rfl rfl (vt rfl)) rfl ?_
  refine AOps.cons (op_call (xs := [.tmp 3, .tmp 4]) (c125 _ _ _ hx2) (Ent.mk Tryz.func125 rfl rfl) rfl rfl ⟨vt rfl, vt rfl, trivial⟩) rfl ?_
  refine AOps.cons (op_assign (A := rd (kint .i64) x2) rfl rfl (vt rfl)) rfl ?_
  refine AOps.nil ?_
  refine AW.ret ?_
  obtain rfl := Option.some.inj h
  exact ret1 Tryz.results96 rfl (out_tmp rfl)
end Go.Proofs.YtokmmcflinnfiaaGreat.W
