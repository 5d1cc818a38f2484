/- A part of the proof. -/
import Derived.Test.YtknpgojdkobgjaaGreatG1
set_option linter.unusedVariables false
set_option maxRecDepth 4000
set_option linter.unusedSimpArgs false
namespace Go.Proofs.YtknpgojdkobgjaaGreat.W
open Go Go.Wb
theorem e35 : Ent Tryz.prog 35 := Ent.mk Tryz.func35 rfl rfl
def F_l31_SemMiss (s1 : Switch) (e2 : Env) (h3 : (Vector Wide 24)) : Option Bool :=
  (F_pl_Switch s1 8).bind fun x7 => (bif ((!x7) || (decide ((e2.Down.length : Int) > 20))) then (F_l31_awake).bind fun x8 => some x8 else (F_first_Find (Vector.get s1.Tables (⟨0, by decide⟩ : _root_.Fin 4)) h3).bind fun x9 => (bif x9.2 then (F_l31_awake).bind fun x10 => some x10 else (F_slices_Clone_Flow (Vector.get s1.Tables (⟨0, by decide⟩ : _root_.Fin 4))).bind fun x12 => (appd x12 [(⟨0, (-1), 0, 0, 0, [], []⟩ : Flow)]).bind fun l14 => (F_sem_Out s1 e2 h3).bind fun x16 => (opt (decide ((x16.length : Int) = 0)) (F_sem_Out { s1 with Tables := (Vector.set s1.Tables (⟨0, by decide⟩ : _root_.Fin 4).1 l14 (⟨0, by decide⟩ : _root_.Fin 4).2) } e2 h3)).bind fun x17 => (opt ((decide ((x16.length : Int) = 0)) && (decide ((x17.length : Int) = 0))) (F_l31_awake)).bind fun x18 => some (((decide ((x16.length : Int) = 0)) && (decide ((x17.length : Int) = 0))) && x18)))
theorem c_l31_SemMiss (s1 : Switch) (e2 : Env) (h3 : (Vector Wide 24)) (r : Bool) (h : F_l31_SemMiss s1 e2 h3 = some r) : PCon Tryz.prog 6 [rd kSwitch s1, rd kEnv e2, rd (karr 24 kWide) h3] (rd kbool r) := by
  refine PCon.of (Con.intro0 Tryz.func6 rfl Tryz.ntmps6 rfl fun w H => ?_)
  unfold F_l31_SemMiss at h
  refine SR <| Ct rfl (op_box 4 rfl rfl (vt rfl)) ?_
  rintro _ ⟨g4, rfl⟩
  refine Ct rfl (op_box 5 rfl rfl (vt rfl)) ?_
  rintro _ ⟨g5, rfl⟩
  refine Ct rfl (op_box 6 rfl rfl (vt rfl)) ?_
  rintro _ ⟨g6, rfl⟩
  refine Ab rfl <| Nl <| AW.seq <| AW.seq ?_
  obtain ⟨x7, hx7, h⟩ := bsome h
  refine Rg <| Ld ty26 4 rfl <| Ac (op_call (xs := [.tmp 10, .const (Value.int IntKind.i64 8)]) (c_pl_Switch _ _ _ hx7) e21 rfl rfl ⟨vt rfl, vk rfl, trivial⟩) rfl <| Ac (op_not rfl rfl (vt rfl)) rfl <| Md rfl <| Gd rfl (fun hq => op_field lEnv_1 rfl rfl fl39_1 (vt rfl)) <| Gd rfl (fun hq => op_load rfl rfl ty37 (vgt rfl hq) (i := 5) rfl) <| Gd rfl (fun hq => op_len' rfl rfl sl37 (vgt rfl hq)) <| Gd rfl (fun hq => op_gtr rfl rfl (vgt rfl hq) (vk rfl)) <| Ac (op_any rfl rfl (vt rfl) (vt rfl)) rfl <| Nl <| Cn rfl (fun hc => ?_) (fun hc => ?_)
  · have h := cond_t hc h
    refine AW.seq ?_
    obtain ⟨x8, hx8, h⟩ := bsome h
    refine Rg <| Cl [] (c_l31_awake _ hx8) e27 rfl <| As rfl <| Nl <| AW.ret ?_
    obtain rfl := si h
    exact ret1 Tryz.results6 rfl (out_tmp rfl)
  · have h := cond_f hc h
    refine AW.skip <| AW.seq <| AW.seq ?_
    obtain ⟨x9, hx9, h⟩ := bsome h
    refine Rg <| FdA lSwitch_0 fl26_0 rfl <| Ac (op_index' rfl rfl ar23 (vt rfl) (vk rfl) rfl) rfl <| Ld ty22 4 rfl <| Ld ty44 6 rfl <| Cl [23, 24] (c_first_Find _ _ _ hx9) e34 rfl <| Mt2 rfl <| Ac (op_fst rfl rfl (vt rfl)) rfl <| Ac (op_snd rfl rfl (vt rfl)) rfl <| As rfl <| As rfl <| Nl <| SR <| Md rfl <| Nl <| Cn rfl (fun hc => ?_) (fun hc => ?_)
    · have h := cond_t hc h
      refine AW.seq ?_
      obtain ⟨x10, hx10, h⟩ := bsome h
      refine Rg <| Cl [] (c_l31_awake _ hx10) e27 rfl <| As rfl <| Nl <| AW.ret ?_
      obtain rfl := si h
      exact ret1 Tryz.results6 rfl (out_tmp rfl)
    · have h := cond_f hc h
      refine AW.skip <| SR <| Ld ty26 4 rfl <| Ct rfl (op_alloc 10 rfl rfl zr26) ?_
      rintro _ ⟨g11, rfl⟩
      refine Sto ty26 10 rfl <| Nl <| AW.seq ?_
      obtain ⟨x12, hx12, h⟩ := bsome h
      obtain ⟨l14, hl14, h⟩ := bsome h
      refine Rg <| FdA lSwitch_0 fl26_0 rfl <| Ac (op_index' rfl rfl ar23 (vt rfl) (vk rfl) rfl) rfl <| Ld ty22 4 rfl <| Ct rfl (op_callR 1001 (xs := [.tmp 33]) (c_slices_Clone_Flow_o _ _ hx12) e35 rfl rfl ⟨vt rfl, trivial⟩ rfl) ?_
      rintro _ ⟨v13, rfl⟩
      refine Ac (op_build (ps := [(1, .const (Value.int IntKind.i64 (-1)))]) (x := (⟨0, (-1), 0, 0, 0, [], []⟩ : Flow)) rfl rfl rfl (by kernel_rfl) zr61 ⟨_, _, lFlow_1, _, by kernel_rfl, (vk rfl), rfl⟩) rfl <| Ac (op_buildSliceR (ps := [(0, .tmp 35)]) (l := [(⟨0, (-1), 0, 0, 0, [], []⟩ : Flow)]) rfl rfl sl22 zr61 rfl rfl ⟨_, _, Lens.idx 1 kFlow 0 (by decide), _, rfl, (vt rfl), rfl⟩ rfl) rfl <| Ct rfl (op_append' 1001 hl14 rfl rfl el22 (vt rfl) rfl (vt rfl)) ?_
      rintro _ ⟨v15, rfl⟩
      refine FdA lSwitch_0 fl26_0 rfl <| Ac (op_index' rfl rfl ar23 (vt rfl) (vk rfl) rfl) rfl <| AOps.freezes [37] 1001 rfl ⟨rfl, trivial⟩ rfl <| Sto ty22 10 rfl <| Nl <| AW.seq ?_
      obtain ⟨x16, hx16, h⟩ := bsome h
      obtain ⟨x17, hx17, h⟩ := bsome h
      obtain ⟨x18, hx18, h⟩ := bsome h
      refine Rg <| Ld ty26 4 rfl <| Ld ty39 5 rfl <| Ld ty44 6 rfl <| Cl [40, 41, 42] (c_sem_Out _ _ _ _ hx16) e29 rfl <| Ac (op_len' rfl rfl sl46 (vt rfl)) rfl <| Ac (op_eql rfl rfl (vt rfl) (vk rfl)) rfl <| Md rfl <| Gd rfl (fun hq => op_load rfl rfl ty26 (vt rfl) (i := 10) rfl) <| Gd rfl (fun hq => op_load rfl rfl ty39 (vt rfl) (i := 5) rfl) <| Gd rfl (fun hq => op_load rfl rfl ty44 (vt rfl) (i := 6) rfl) <| Gd rfl (fun hq => op_call (xs := [.tmp 47, .tmp 48, .tmp 49]) (c_sem_Out _ _ _ _ (opt_t hx17 hq)) e29 rfl rfl ⟨vgt rfl hq, vgt rfl hq, vgt rfl hq, trivial⟩) <| Gd rfl (fun hq => op_len' rfl rfl sl46 (vgt rfl hq)) <| Gd rfl (fun hq => op_eql rfl rfl (vgt rfl hq) (vk rfl)) <| Ac (op_all rfl rfl (vt rfl) (vt rfl)) rfl <| Md rfl <| Gd rfl (fun hq => op_call (xs := []) (c_l31_awake _ (opt_t hx18 hq)) e27 rfl rfl trivial) <| Ac (op_all rfl rfl (vt rfl) (vt rfl)) rfl <| As rfl <| Nl <| AW.ret ?_
      obtain rfl := si h
      exact ret1 Tryz.results6 rfl (out_tmp rfl)
end Go.Proofs.YtknpgojdkobgjaaGreat.W
set_option linter.unusedVariables false
set_option maxRecDepth 4000
set_option linter.unusedSimpArgs false
namespace Go.Proofs.YtknpgojdkobgjaaGreat.W
open Go Go.Wb
end Go.Proofs.YtknpgojdkobgjaaGreat.W
set_option linter.unusedVariables false
set_option maxRecDepth 4000
set_option linter.unusedSimpArgs false
namespace Go.Proofs.YtknpgojdkobgjaaGreat.W
open Go Go.Wb
theorem e22 : Ent Tryz.prog 22 := Ent.mk Tryz.func22 rfl rfl
end Go.Proofs.YtknpgojdkobgjaaGreat.W
set_option linter.unusedVariables false
set_option maxRecDepth 4000
set_option linter.unusedSimpArgs false
namespace Go.Proofs.YtknpgojdkobgjaaGreat.W
open Go Go.Wb
theorem e20 : Ent Tryz.prog 20 := Ent.mk Tryz.func20 rfl rfl
end Go.Proofs.YtknpgojdkobgjaaGreat.W
