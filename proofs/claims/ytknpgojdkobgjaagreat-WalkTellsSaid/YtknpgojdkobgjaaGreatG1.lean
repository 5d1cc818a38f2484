/- A part of the proof. -/
import Derived.Test.YtknpgojdkobgjaaGreatG0
set_option linter.unusedVariables false
set_option maxRecDepth 4000
set_option linter.unusedSimpArgs false
namespace Go.Proofs.YtknpgojdkobgjaaGreat.W
open Go Go.Wb
theorem e268 : Ent Tryz.prog 268 := Ent.mk Tryz.func268 rfl rfl
theorem e270 : Ent Tryz.prog 270 := Ent.mk Tryz.func270 rfl rfl
theorem e77 : Ent Tryz.prog 77 := Ent.mk Tryz.func77 rfl rfl
theorem e207 : Ent Tryz.prog 207 := Ent.mk Tryz.func207 rfl rfl
theorem e327 : Ent Tryz.prog 327 := Ent.mk Tryz.func327 rfl rfl
theorem e332 : Ent Tryz.prog 332 := Ent.mk Tryz.func332 rfl rfl
theorem e287 : Ent Tryz.prog 287 := Ent.mk Tryz.func287 rfl rfl
theorem e298 : Ent Tryz.prog 298 := Ent.mk Tryz.func298 rfl rfl
theorem e304 : Ent Tryz.prog 304 := Ent.mk Tryz.func304 rfl rfl
theorem e303 : Ent Tryz.prog 303 := Ent.mk Tryz.func303 rfl rfl
theorem e265 : Ent Tryz.prog 265 := Ent.mk Tryz.func265 rfl rfl
def F_rewrite_Set (r1 : (Vector Tern 24)) (f2 : Int) (value3 : Wide) (mask4 : Wide) : Option (Vector Tern 24) :=
  (F_rewrite_Clean r1).bind fun x9 => (F_field_Right f2).bind fun x10 => (bif x10 then (chk 24 f2).bind fun j11 => (F_rewrite_over (Vector.get x9 j11) (⟨value3, mask4⟩ : Tern)).bind fun x12 => (chk 24 f2).bind fun j13 => some (Vector.set x9 j13.1 x12 j13.2) else some x9)
theorem c_rewrite_Set (r1 : (Vector Tern 24)) (f2 : Int) (value3 : Wide) (mask4 : Wide) (r : (Vector Tern 24)) (h : F_rewrite_Set r1 f2 value3 mask4 = some r) : PCon Tryz.prog 207 [rd (karr 24 kTern) r1, rd (kint .i64) f2, rd kWide value3, rd kWide mask4] (rd (karr 24 kTern) r) := by
  refine PCon.of (Con.intro0 Tryz.func207 rfl Tryz.ntmps207 rfl fun w H => ?_)
  unfold F_rewrite_Set at h
  refine SR <| Ct rfl (op_box 5 rfl rfl (vt rfl)) ?_
  rintro _ ⟨g5, rfl⟩
  refine Ct rfl (op_box 7 rfl rfl (vt rfl)) ?_
  rintro _ ⟨g6, rfl⟩
  refine Ct rfl (op_box 8 rfl rfl (vt rfl)) ?_
  rintro _ ⟨g7, rfl⟩
  refine Ct rfl (op_alloc 9 rfl rfl zr101) ?_
  rintro _ ⟨g8, rfl⟩
  refine Nl <| AW.seq ?_
  obtain ⟨x9, hx9, h⟩ := bsome h
  refine Rg <| Ld ty101 5 rfl <| Cl [9] (c_rewrite_Clean _ _ hx9) e268 rfl <| Sto ty101 5 rfl <| Nl <| AW.seq <| AW.seq ?_
  obtain ⟨x10, hx10, h⟩ := bsome h
  refine Rg <| Md rfl <| Cl [11] (c_field_Right _ _ hx10) e269 rfl <| Nl <| Cn rfl (fun hc => ?_) (fun hc => ?_)
  · have h := cond_t hc h
    obtain ⟨j11, hj11, h⟩ := bsome h
    obtain ⟨x12, hx12, h⟩ := bsome h
    obtain ⟨j13, hj13, h⟩ := bsome h
    refine AW.regionAny [⟨[1], [13], [], []⟩, ⟨[1], [14], [], []⟩, ⟨[4, 14], [15], [], []⟩, ⟨[15], [16], [5], []⟩, ⟨[6], [17], [7], []⟩, ⟨[7], [18], [8], []⟩, ⟨[17, 18], [19], [], []⟩, ⟨[16, 19], [20], [], []⟩, ⟨[4, 13], [21], [], []⟩, ⟨[21, 20], [], [5], [5]⟩] mixed (by kernel_rfl) <| SMd rfl <| SMd rfl <| Sc (lo [4, 14] [] rfl fun S hs hr => op_index' rfl rfl ar101 (vh hs 4 rfl rfl) (vh hs 14 rfl rfl) hj11) rfl <| SLd ty85 5 rfl <| SLd ty42 7 rfl <| SLd ty42 8 rfl <| Sc (lo [17, 18] [] rfl fun S hs hr => op_build (ps := [(0, .tmp 17), (1, .tmp 18)]) (x := (⟨value3, mask4⟩ : Tern)) rfl rfl rfl (by kernel_rfl) zr85 ⟨_, _, lTern_0, _, by kernel_rfl, (vh hs 17 rfl rfl), _, _, lTern_1, _, by kernel_rfl, (vh hs 18 rfl rfl), rfl⟩) rfl <| SCl [16, 19] (c_rewrite_over _ _ _ hx12) e270 rfl <| Sc (lo [4, 13] [] rfl fun S hs hr => op_index' rfl rfl ar101 (vh hs 4 rfl rfl) (vh hs 13 rfl rfl) hj13) rfl <| SSt ty85 5 rfl <| SR <| Ld ty101 5 rfl <| Sto ty101 9 rfl <| Nl <| AW.ret ?_
    obtain rfl := si h
    exact ret1 Tryz.results207 rfl (out_cell rfl (i := 9) rfl ty101)
  · have h := cond_f hc h
    refine AW.skip <| SR <| Ld ty101 5 rfl <| Sto ty101 9 rfl <| Nl <| AW.ret ?_
    obtain rfl := si h
    exact ret1 Tryz.results207 rfl (out_cell rfl (i := 9) rfl ty101)
def F_wide_Bit (i1 : Int) : Option Wide :=
  (bif ((decide (i1 < 0)) || (decide (i1 > 127))) then some (⟨0, 0⟩ : Wide) else (oquo .i64 i1 64).bind fun q4 => (omod i1 64).bind fun q5 => (oushl (1 : BitVec 64) q5).bind fun q6 => (chk 2 q4).bind fun j7 => some (⟨(Vector.get (Vector.set (Vector.replicate 2 0) j7.1 q6 j7.2) (⟨1, by decide⟩ : _root_.Fin 2)), (Vector.get (Vector.set (Vector.replicate 2 0) j7.1 q6 j7.2) (⟨0, by decide⟩ : _root_.Fin 2))⟩ : Wide))
theorem c_wide_Bit (i1 : Int) (r : Wide) (h : F_wide_Bit i1 = some r) : PCon Tryz.prog 327 [rd (kint .i64) i1] (rd kWide r) := by
  refine PCon.of (Con.intro0 Tryz.func327 rfl Tryz.ntmps327 rfl fun w H => ?_)
  unfold F_wide_Bit at h
  refine SR <| Ct rfl (op_alloc 3 rfl rfl zr42) ?_
  rintro _ ⟨g2, rfl⟩
  refine Nl <| SR <| Ct rfl (op_alloc 4 rfl rfl zr367) ?_
  rintro _ ⟨g3, rfl⟩
  refine Nl <| AW.seq <| SR <| Md rfl <| Ac (op_lss rfl rfl (vt rfl) (vk rfl)) rfl <| Md rfl <| Gd rfl (fun hq => op_move (A := rd (kint .i64) i1) rfl rfl (vt rfl)) <| Gd rfl (fun hq => op_gtr rfl rfl (vgt rfl hq) (vk rfl)) <| Ac (op_any rfl rfl (vt rfl) (vt rfl)) rfl <| Nl <| Cn rfl (fun hc => ?_) (fun hc => ?_)
  · have h := cond_t hc h
    refine SR <| Ac (op_build (ps := []) (x := (⟨0, 0⟩ : Wide)) rfl rfl rfl (by kernel_rfl) zr42 rfl) rfl <| Sto ty42 3 rfl <| Nl <| AW.ret ?_
    obtain rfl := si h
    exact ret1 Tryz.results327 rfl (out_cell rfl (i := 3) rfl ty42)
  · have h := cond_f hc h
    refine AW.skip <| AW.seq ?_
    obtain ⟨q4, hq4, h⟩ := bsome h
    obtain ⟨q5, hq5, h⟩ := bsome h
    obtain ⟨q6, hq6, h⟩ := bsome h
    obtain ⟨j7, hj7, h⟩ := bsome h
    refine Rg <| Md rfl <| Ac (op_quo rfl rfl (vt rfl) (vk rfl) hq4) rfl <| Md rfl <| Ac (op_rem rfl rfl (vt rfl) (vk rfl) hq5) rfl <| Ac (op_ushl rfl rfl (vku (1 : BitVec 64) rfl) (vt rfl) hq6) rfl <| Ac (op_index' rfl rfl ar367 (vt rfl) (vt rfl) hj7) rfl <| Sto ty40 4 rfl <| Nl <| SR <| Ac (op_index' rfl rfl ar367 (vt rfl) (vk rfl) rfl) rfl <| Ld ty40 4 rfl <| Ac (op_index' rfl rfl ar367 (vt rfl) (vk rfl) rfl) rfl <| Ld ty40 4 rfl <| Ac (op_build (ps := [(0, .tmp 18), (1, .tmp 20)]) (x := (⟨(Vector.get (Vector.set (Vector.replicate 2 0) j7.1 q6 j7.2) (⟨1, by decide⟩ : _root_.Fin 2)), (Vector.get (Vector.set (Vector.replicate 2 0) j7.1 q6 j7.2) (⟨0, by decide⟩ : _root_.Fin 2))⟩ : Wide)) rfl rfl rfl (by kernel_rfl) zr42 ⟨_, _, lWide_0, _, by kernel_rfl, (vt rfl), _, _, lWide_1, _, by kernel_rfl, (vt rfl), rfl⟩) rfl <| Sto ty42 3 rfl <| Nl <| AW.ret ?_
    obtain rfl := si h
    exact ret1 Tryz.results327 rfl (out_cell rfl (i := 3) rfl ty42)
def F_aset_Rewrite (a1 : Action) : Option (Vector Tern 24) :=
  (F_rewrite_None).bind fun x4 => (bif (decide (a1.Kind = 25)) then (F_oxm_Tern a1.Oxm).bind fun x6 => (F_rewrite_Set x4 a1.Oxm.Field x6.Value x6.Mask).bind fun x8 => some x8 else (bif (decide (a1.Kind = 17)) then (F_wide_Bit 12).bind fun x9 => (F_wide_Bit 12).bind fun x10 => (F_rewrite_Set x4 5 x9 x10).bind fun x11 => some x11 else (bif (decide (a1.Kind = 18)) then (F_wide_Low 13).bind fun x12 => (F_rewrite_Set x4 5 (⟨0, 0⟩ : Wide) x12).bind fun x13 => (F_wide_Low 3).bind fun x14 => (F_rewrite_Set x13 6 (⟨0, 0⟩ : Wide) x14).bind fun x15 => some x15 else some x4)))
theorem c_aset_Rewrite (a1 : Action) (r : (Vector Tern 24)) (h : F_aset_Rewrite a1 = some r) : PCon Tryz.prog 287 [rd kAction a1] (rd (karr 24 kTern) r) := by
  refine PCon.of (Con.intro0 Tryz.func287 rfl Tryz.ntmps287 rfl fun w H => ?_)
  unfold F_aset_Rewrite at h
  refine SR <| Ct rfl (op_box 2 rfl rfl (vt rfl)) ?_
  rintro _ ⟨g2, rfl⟩
  refine Ct rfl (op_alloc 3 rfl rfl zr101) ?_
  rintro _ ⟨g3, rfl⟩
  refine Nl <| AW.seq ?_
  obtain ⟨x4, hx4, h⟩ := bsome h
  refine Rg <| Cl [] (c_rewrite_None _ hx4) e77 rfl <| Ct rfl (op_alloc 4 rfl rfl zr101) ?_
  rintro _ ⟨g5, rfl⟩
  refine Sto ty101 4 rfl <| Nl <| AW.seq <| SR <| FdA lAction_0 fl121_0 rfl <| Ld ty3 2 rfl <| Nl <| AW.block <| SR <| Ac (op_eql rfl rfl (vt rfl) (vk rfl)) rfl <| As rfl <| Nl <| Cn rfl (fun hc => ?_) (fun hc => ?_)
  · have h := cond_t hc h
    refine AW.seq ?_
    obtain ⟨x6, hx6, h⟩ := bsome h
    refine Rg <| FdA lAction_5 fl121_5 rfl <| Ld ty119 2 rfl <| Cl [11] (c_oxm_Tern _ _ hx6) e275 rfl <| Ct rfl (op_alloc 5 rfl rfl zr85) ?_
    rintro _ ⟨g7, rfl⟩
    refine Sto ty85 5 rfl <| Nl ?_
    obtain ⟨x8, hx8, h⟩ := bsome h
    refine Rg <| Ld ty101 4 rfl <| FdA lAction_5 fl121_5 rfl <| FdA lOxm_0 fl119_0 rfl <| Ld ty3 2 rfl <| FdA lTern_0 fl85_0 rfl <| Ld ty42 5 rfl <| FdA lTern_1 fl85_1 rfl <| Ld ty42 5 rfl <| Cl [13, 16, 18, 20] (c_rewrite_Set _ _ _ _ _ hx8) e207 rfl <| Sto ty101 4 rfl <| Nl <| SR <| Ld ty101 4 rfl <| Sto ty101 3 rfl <| Nl <| AW.ret ?_
    obtain rfl := si h
    exact ret1 Tryz.results287 rfl (out_cell rfl (i := 3) rfl ty101)
  · have h := cond_f hc h
    refine SR <| Ac (op_eql rfl rfl (vt rfl) (vk rfl)) rfl <| As rfl <| Nl <| Cn rfl (fun hc => ?_) (fun hc => ?_)
    · have h := cond_t hc h
      obtain ⟨x9, hx9, h⟩ := bsome h
      obtain ⟨x10, hx10, h⟩ := bsome h
      obtain ⟨x11, hx11, h⟩ := bsome h
      refine AW.regionAny [⟨[3], [24], [4], []⟩, ⟨[], [25], [], []⟩, ⟨[], [26], [], []⟩, ⟨[24, 25, 26], [27], [], []⟩, ⟨[3, 27], [], [4], [4]⟩] mixed (by kernel_rfl) <| SLd ty101 4 rfl <| Sc (lo [] [] rfl fun S hs hr => op_call (xs := [.const (Value.int IntKind.i64 12)]) (c_wide_Bit _ _ hx9) e327 rfl rfl ⟨vk rfl, trivial⟩) rfl <| Sc (lo [] [] rfl fun S hs hr => op_call (xs := [.const (Value.int IntKind.i64 12)]) (c_wide_Bit _ _ hx10) e327 rfl rfl ⟨vk rfl, trivial⟩) rfl <| Sc (lo [24, 25, 26] [] rfl fun S hs hr => op_call (xs := [.tmp 24, .const (Value.int IntKind.i64 5), .tmp 25, .tmp 26]) (c_rewrite_Set _ _ _ _ _ hx11) e207 rfl rfl ⟨vt ((hs 24 rfl).trans rfl), vk rfl, vt ((hs 25 rfl).trans rfl), vt ((hs 26 rfl).trans rfl), trivial⟩) rfl <| SSt ty101 4 rfl <| SR <| Ld ty101 4 rfl <| Sto ty101 3 rfl <| Nl <| AW.ret ?_
      obtain rfl := si h
      exact ret1 Tryz.results287 rfl (out_cell rfl (i := 3) rfl ty101)
    · have h := cond_f hc h
      refine SR <| Ac (op_eql rfl rfl (vt rfl) (vk rfl)) rfl <| As rfl <| Nl <| Cn rfl (fun hc => ?_) (fun hc => ?_)
      · have h := cond_t hc h
        refine AW.seq ?_
        obtain ⟨x12, hx12, h⟩ := bsome h
        obtain ⟨x13, hx13, h⟩ := bsome h
        refine AW.regionAny [⟨[3], [30], [4], []⟩, ⟨[], [31], [], []⟩, ⟨[], [32], [], []⟩, ⟨[30, 31, 32], [33], [], []⟩, ⟨[3, 33], [], [4], [4]⟩] mixed (by kernel_rfl) <| SLd ty101 4 rfl <| Sc (lo [] [] rfl fun S hs hr => op_build (ps := []) (x := (⟨0, 0⟩ : Wide)) rfl rfl rfl (by kernel_rfl) zr42 rfl) rfl <| Sc (lo [] [] rfl fun S hs hr => op_call (xs := [.const (Value.int IntKind.i64 13)]) (c_wide_Low _ _ hx12) e254 rfl rfl ⟨vk rfl, trivial⟩) rfl <| Sc (lo [30, 31, 32] [] rfl fun S hs hr => op_call (xs := [.tmp 30, .const (Value.int IntKind.i64 5), .tmp 31, .tmp 32]) (c_rewrite_Set _ _ _ _ _ hx13) e207 rfl rfl ⟨vt ((hs 30 rfl).trans rfl), vk rfl, vt ((hs 31 rfl).trans rfl), vt ((hs 32 rfl).trans rfl), trivial⟩) rfl <| SSt ty101 4 rfl ?_
        obtain ⟨x14, hx14, h⟩ := bsome h
        obtain ⟨x15, hx15, h⟩ := bsome h
        refine AW.regionAny [⟨[3], [34], [4], []⟩, ⟨[], [35], [], []⟩, ⟨[], [36], [], []⟩, ⟨[34, 35, 36], [37], [], []⟩, ⟨[3, 37], [], [4], [4]⟩] mixed (by kernel_rfl) <| SLd ty101 4 rfl <| Sc (lo [] [] rfl fun S hs hr => op_build (ps := []) (x := (⟨0, 0⟩ : Wide)) rfl rfl rfl (by kernel_rfl) zr42 rfl) rfl <| Sc (lo [] [] rfl fun S hs hr => op_call (xs := [.const (Value.int IntKind.i64 3)]) (c_wide_Low _ _ hx14) e254 rfl rfl ⟨vk rfl, trivial⟩) rfl <| Sc (lo [34, 35, 36] [] rfl fun S hs hr => op_call (xs := [.tmp 34, .const (Value.int IntKind.i64 6), .tmp 35, .tmp 36]) (c_rewrite_Set _ _ _ _ _ hx15) e207 rfl rfl ⟨vt ((hs 34 rfl).trans rfl), vk rfl, vt ((hs 35 rfl).trans rfl), vt ((hs 36 rfl).trans rfl), trivial⟩) rfl <| SSt ty101 4 rfl <| SR <| Ld ty101 4 rfl <| Sto ty101 3 rfl <| Nl <| AW.ret ?_
        obtain rfl := si h
        exact ret1 Tryz.results287 rfl (out_cell rfl (i := 3) rfl ty101)
      · have h := cond_f hc h
        refine AW.skip <| SR <| Ld ty101 4 rfl <| Sto ty101 3 rfl <| Nl <| AW.ret ?_
        obtain rfl := si h
        exact ret1 Tryz.results287 rfl (out_cell rfl (i := 3) rfl ty101)
def F_rewrite_Then_1 (i1 : Int) (cp2 : (Vector Tern 24)) (cp3 : (Vector Tern 24)) : Option Tern :=
  (chk 24 i1).bind fun j5 => (chk 24 i1).bind fun j6 => (F_rewrite_over (Vector.get cp2 j5) (Vector.get cp3 j6)).bind fun x7 => some x7
theorem c_rewrite_Then_1 (i1 : Int) (cp2 : (Vector Tern 24)) (cp3 : (Vector Tern 24)) (r : Tern) (h : F_rewrite_Then_1 i1 cp2 cp3 = some r) : PCon Tryz.prog 332 [rd (kint .i64) i1, rp (karr 24 kTern) cp2, rp (karr 24 kTern) cp3] (rd kTern r) := by
  refine PCon.of (Con.intro0 Tryz.func332 rfl Tryz.ntmps332 rfl fun w H => ?_)
  unfold F_rewrite_Then_1 at h
  refine SR <| Ct rfl (op_alloc 5 rfl rfl zr85) ?_
  rintro _ ⟨g4, rfl⟩
  refine Nl <| AW.seq ?_
  obtain ⟨j5, hj5, h⟩ := bsome h
  obtain ⟨j6, hj6, h⟩ := bsome h
  obtain ⟨x7, hx7, h⟩ := bsome h
  refine AW.regionAny [⟨[0], [5], [], []⟩, ⟨[1, 5], [6], [], []⟩, ⟨[6], [7], [], []⟩, ⟨[0], [8], [], []⟩, ⟨[2, 8], [9], [], []⟩, ⟨[9], [10], [], []⟩, ⟨[7, 10], [11], [], []⟩, ⟨[4, 11], [], [5], [5]⟩] mixed (by kernel_rfl) <| SMd rfl <| Sc (lo [1, 5] [] rfl fun S hs hr => op_indexp' rfl rfl ar101 (vh hs 1 rfl rfl) (vh hs 5 rfl rfl) hj5) rfl <| SLp ty85 rfl <| SMd rfl <| Sc (lo [2, 8] [] rfl fun S hs hr => op_indexp' rfl rfl ar101 (vh hs 2 rfl rfl) (vh hs 8 rfl rfl) hj6) rfl <| SLp ty85 rfl <| SCl [7, 10] (c_rewrite_over _ _ _ hx7) e270 rfl <| SSt ty85 5 rfl <| AW.ret ?_
  obtain rfl := si h
  exact ret1 Tryz.results332 rfl (out_cell rfl (i := 5) rfl ty85)
def F_rewrite_Then (a1 : (Vector Tern 24)) (b2 : (Vector Tern 24)) : Option (Vector Tern 24) :=
  (F_rewrite_each_Rewrite (fun x => F_rewrite_Then_1 x a1 b2)).bind fun x6 => some x6
theorem c_rewrite_Then (a1 : (Vector Tern 24)) (b2 : (Vector Tern 24)) (r : (Vector Tern 24)) (h : F_rewrite_Then a1 b2 = some r) : PCon Tryz.prog 298 [rd (karr 24 kTern) a1, rd (karr 24 kTern) b2] (rd (karr 24 kTern) r) := by
  refine PCon.of (Con.intro0 Tryz.func298 rfl Tryz.ntmps298 rfl fun w H => ?_)
  unfold F_rewrite_Then at h
  refine SR <| Ct rfl (op_box 3 rfl rfl (vt rfl)) ?_
  rintro _ ⟨g3, rfl⟩
  refine Ct rfl (op_box 4 rfl rfl (vt rfl)) ?_
  rintro _ ⟨g4, rfl⟩
  refine Ct rfl (op_alloc 5 rfl rfl zr101) ?_
  rintro _ ⟨g5, rfl⟩
  refine Nl <| AW.seq <| AW.freezeB 2 3 rfl rfl rfl <| AW.freezeB 3 4 rfl rfl rfl ?_
  obtain ⟨x6, hx6, h⟩ := bsome h
  refine Rg <| Ac (op_fn1 (cs := [.tmp 2, .tmp 3]) (CAs := [rp (karr 24 kTern) a1, rp (karr 24 kTern) b2]) (fun x => F_rewrite_Then_1 x a1 b2) rfl rfl e332 ⟨vt rfl, vt rfl, trivial⟩ (fun x y h => c_rewrite_Then_1 _ _ _ y h)) rfl <| Cl [5] (c_rewrite_each_Rewrite _ _ hx6) e305 rfl <| Sto ty101 5 rfl <| Nl <| AW.ret ?_
  obtain rfl := si h
  exact ret1 Tryz.results298 rfl (out_cell rfl (i := 5) rfl ty101)
def F_atom_trace_do_j1 (t1 : atom_trace) (b7 : Atom) : Option atom_trace :=
  (appd t1.atoms [b7]).bind fun l8 => some (⟨t1.got, l8⟩ : atom_trace)
def F_atom_trace_do (t1 : atom_trace) (a4 : Action) : Option atom_trace :=
  (bif (decide (a4.Kind = 0)) then (bif (decide (a4.Port = 4294967293)) then F_atom_trace_do_j1 t1 { { (⟨t1.got, false, 0, 0⟩ : Atom) with Port := a4.Port } with Max := a4.Max } else F_atom_trace_do_j1 t1 { (⟨t1.got, false, 0, 0⟩ : Atom) with Port := a4.Port }) else (bif (decide (a4.Kind = 22)) then F_atom_trace_do_j1 t1 { { (⟨t1.got, false, 0, 0⟩ : Atom) with Group := true } with Port := a4.Group } else (F_aset_Rewrite a4).bind fun x10 => (F_rewrite_Then t1.got x10).bind fun x11 => some (⟨x11, t1.atoms⟩ : atom_trace)))
theorem c_atom_trace_do (g2 gT : Nat) (t1 : atom_trace) (a4 : Action) (r : atom_trace) (h : F_atom_trace_do t1 a4 = some r) : Con Tryz.prog 304 [ptrL g2 (Lens.id katom_trace_o1), rd kAction a4] (BoxF g2 gT katom_trace_o1 (fun v => (⟨t1.got, v⟩ : atom_trace_o1)) 126 kAtom t1.atoms) (fun _ : Unit => top) (fun _ => BoxF g2 gT katom_trace_o1 (fun v => (⟨r.got, v⟩ : atom_trace_o1)) 126 kAtom r.atoms) := by
  refine Con.intro Tryz.func304 rfl Tryz.ntmps304 rfl fun w H X => ?_
  unfold F_atom_trace_do at h
  refine AW.unboxF 0 2001 (by decide) rfl rfl fun v3 => SR <| Ct rfl (op_box 4 rfl rfl (vt rfl)) ?_
  rintro _ ⟨g5, rfl⟩
  refine Nl <| SR <| Mp rfl <| Nc rfl <| FdA latom_trace_o1_0 flv346_0_1 rfl <| Ld ty101 0 rfl <| Ac (op_build (ps := [(0, .tmp 8)]) (x := (⟨t1.got, false, 0, 0⟩ : Atom)) rfl rfl rfl (by kernel_rfl) zr126 ⟨_, _, lAtom_0, _, by kernel_rfl, (vt rfl), rfl⟩) rfl <| Ct rfl (op_alloc 5 rfl rfl zr126) ?_
  rintro _ ⟨g6, rfl⟩
  refine Sto ty126 5 rfl <| Nl ?_
  refine AW.join (d := []) (ν := Atom) (fun n => F_atom_trace_do_j1 t1 n = some r) (fun n => [(0, ptrL g2 (Lens.id katom_trace_o1)), (4, ptrL g6 (Lens.id kAtom))]) (fun n => [(0, Blk g2 gT katom_trace_o1 (⟨t1.got, v3⟩ : atom_trace_o1)), (5, Blk g6 126 kAtom n), (2001, Row v3 126 kAtom t1.atoms)]) ?hx1 ?hy1
  case hy1 =>
    intro b7 h
    unfold F_atom_trace_do_j1 at h
    change AW _ _ _ ⟨slots [(0, ptrL g2 (Lens.id katom_trace_o1)), (4, ptrL g6 (Lens.id kAtom))], ress [(0, Blk g2 gT katom_trace_o1 (⟨t1.got, v3⟩ : atom_trace_o1)), (5, Blk g6 126 kAtom b7), (2001, Row v3 126 kAtom t1.atoms)], _⟩
    obtain ⟨l8, hl8, h⟩ := bsome h
    refine AW.endT <| AW.regionAny [⟨[0], [39], [], []⟩, ⟨[0], [40], [], []⟩, ⟨[40], [41], [], []⟩, ⟨[41], [42], [], []⟩, ⟨[42], [43], [0], []⟩, ⟨[4], [44], [5], []⟩, ⟨[44], [45], [], []⟩, ⟨[43, 45], [46], [2001], [2001]⟩, ⟨[39], [47], [], []⟩, ⟨[47], [48], [], []⟩, ⟨[48, 46], [46], [0], [0]⟩] mixed (by kernel_rfl) <| SMp rfl <| SMp rfl <| SNc rfl <| SFd latom_trace_o1_1 flv346_1_1 rfl <| Sc (lo [42] [0] rfl fun S hs hr => op_loadv v3 rfl rfl tyr88 (vh hs 42 rfl rfl) (i := 0) ((hr 0 rfl).trans rfl) rfl) rfl <| SLd ty126 5 rfl <| Sc (lo [44] [] rfl fun S hs hr => op_buildSliceR (ps := [(0, .tmp 44)]) (l := [b7]) rfl rfl sl88 zr126 rfl rfl ⟨_, _, Lens.idx 1 kAtom 0 (by decide), _, rfl, (vh hs 44 rfl rfl), rfl⟩ rfl) rfl <| Sc (locs (us := [(46, ownR 126 kAtom l8)]) (ur := [(2001, emp)]) [43, 45] [2001] rfl fun S hs hr => op_appendO 2001 hl8 rfl rfl rfl el88 (vh hs 43 rfl rfl) ((hr 2001 rfl).trans rfl) (vh hs 45 rfl rfl)) rfl <| SNc rfl <| SFd latom_trace_o1_1 flv346_1_1 rfl <| Sc (locs (us := [(46, top)]) (ur := [(0, BoxF g2 gT katom_trace_o1 (fun v => ((Lens.comp (Lens.id katom_trace_o1) latom_trace_o1_1)).set (⟨t1.got, v3⟩ : atom_trace_o1) v) 126 kAtom l8)]) [48, 46] [0] rfl fun S hs hr => op_storeR rfl rfl tyr88 (vh hs 48 rfl rfl) ((hr 0 rfl).trans rfl) ((hs 46 rfl).trans rfl)) rfl <| EndT.unboxF 0 2001 (by decide) rfl rfl fun v9 => EndT.done ?_
    obtain rfl := si h
    exact RetOK.turn (Turn.packF 0 2001 (fun v => (⟨t1.got, v⟩ : atom_trace_o1)) (by decide) rfl rfl) (ret0Y (i := 0) Tryz.results304 rfl rfl)
  case hx1 =>
    refine SR <| FdA lAction_0 fl121_0 rfl <| Ld ty3 4 rfl <| Nl <| AW.block <| SR <| Ac (op_eql rfl rfl (vt rfl) (vk rfl)) rfl <| As rfl <| Nl <| Cn rfl (fun hc => ?_) (fun hc => ?_)
    · have h := cond_t hc h
      refine SR <| FdA lAction_1 fl121_1 rfl <| Ld ty3 4 rfl <| FdA lAtom_2 fl126_2 rfl <| Sto ty3 5 rfl <| Nl <| SR <| FdA lAction_1 fl121_1 rfl <| Ld ty3 4 rfl <| Ac (op_eql rfl rfl (vt rfl) (vk rfl)) rfl <| Nl <| Cn rfl (fun hc => ?_) (fun hc => ?_)
      · have h := cond_t hc h
        refine Rg <| FdA lAction_2 fl121_2 rfl <| Ld ty3 4 rfl <| FdA lAtom_3 fl126_3 rfl <| Sto ty3 5 rfl <| Nl ?_
        exact ⟨{ { (⟨t1.got, false, 0, 0⟩ : Atom) with Port := a4.Port } with Max := a4.Max }, h, ⟨rfl, ⟨rfl, rfl, trivial⟩, ⟨rfl, rfl, rfl, trivial⟩⟩⟩
      · have h := cond_f hc h
        refine AW.skip ?_
        exact ⟨{ (⟨t1.got, false, 0, 0⟩ : Atom) with Port := a4.Port }, h, ⟨rfl, ⟨rfl, rfl, trivial⟩, ⟨rfl, rfl, rfl, trivial⟩⟩⟩
    · have h := cond_f hc h
      refine SR <| Ac (op_eql rfl rfl (vt rfl) (vk rfl)) rfl <| As rfl <| Nl <| Cn rfl (fun hc => ?_) (fun hc => ?_)
      · have h := cond_t hc h
        refine AW.regionAny [⟨[3], [35], [], []⟩, ⟨[35], [36], [4], []⟩, ⟨[4], [37], [], []⟩, ⟨[37], [], [5], [5]⟩, ⟨[4], [38], [], []⟩, ⟨[38, 36], [], [5], [5]⟩] mixed (by kernel_rfl) <| SFd lAction_3 fl121_3 rfl <| SLd ty3 4 rfl <| SFd lAtom_1 fl126_1 rfl <| Sc (locr [37] [5] rfl fun S hs hr => op_store rfl rfl ty4 (vh hs 37 rfl rfl) (i := 5) ((hr 5 rfl).trans rfl) vb) rfl <| SFd lAtom_2 fl126_2 rfl <| SSt ty3 5 rfl ?_
        exact ⟨{ { (⟨t1.got, false, 0, 0⟩ : Atom) with Group := true } with Port := a4.Group }, h, ⟨rfl, ⟨rfl, rfl, trivial⟩, ⟨rfl, rfl, rfl, trivial⟩⟩⟩
      · have h := cond_f hc h
        refine AW.seq ?_
        obtain ⟨x10, hx10, h⟩ := bsome h
        obtain ⟨x11, hx11, h⟩ := bsome h
        refine AW.regionAny [⟨[0], [12], [], []⟩, ⟨[0], [13], [], []⟩, ⟨[13], [14], [], []⟩, ⟨[14], [15], [], []⟩, ⟨[15], [16], [0], []⟩, ⟨[3], [17], [4], []⟩, ⟨[17], [18], [], []⟩, ⟨[16, 18], [19], [], []⟩, ⟨[12], [20], [], []⟩, ⟨[20], [21], [], []⟩, ⟨[21, 19], [], [0], [0]⟩] mixed (by kernel_rfl) <| SMp rfl <| SMp rfl <| SNc rfl <| SFd latom_trace_o1_0 flv346_0_1 rfl <| SLd ty101 0 rfl <| SLd ty121 4 rfl <| SCl [17] (c_aset_Rewrite _ _ hx10) e287 rfl <| SCl [16, 18] (c_rewrite_Then _ _ _ hx11) e298 rfl <| SNc rfl <| SFd latom_trace_o1_0 flv346_0_1 rfl <| SSt ty101 0 rfl <| AW.ret ?_
        obtain rfl := si h
        exact RetOK.turn (Turn.packF 0 2001 (fun v => (⟨x11, v⟩ : atom_trace_o1)) (by decide) rfl rfl) (ret0Y (i := 0) Tryz.results304 rfl rfl)
def F_atom_each_Action_l1 (sg : Type) (do2 : (sg → Action → Option sg)) : (List Action) → Nat → sg → Option sg
  | [], i6, s5 => some s5
  | x8 :: l7, i6, s5 => (do2 s5 x8).bind fun s10 => (F_atom_each_Action_l1 sg do2 l7) (i6 + 1) s10
def F_atom_each_Action (l1 : (List Action)) (sg : Type) (do2 : (sg → Action → Option sg)) (s3 : sg) : Option sg :=
  F_atom_each_Action_l1 sg do2 l1 0 s3
theorem c_atom_each_Action (l1 : (List Action)) (sg : Type) (do2 : (sg → Action → Option sg)) (L : sg → Res) (s3 : sg) (r : sg) (h : F_atom_each_Action l1 sg do2 s3 = some r) : Con Tryz.prog 303 [rd (ksl kAction) l1, stA Tryz.prog kAction do2 L] (L s3) (fun _ : Unit => top) (fun _ => L r) := by
  refine Con.intro Tryz.func303 rfl Tryz.ntmps303 rfl fun w H X => ?_
  unfold F_atom_each_Action at h
  refine SR <| Md rfl <| Ac (op_len' rfl rfl sl122 (vt rfl)) rfl <| Mk rfl <| Nl <| AW.block <| AW.loopG (d := []) (ν := (List Action) × Nat × sg) (fun n => Sfx l1 n.2.1 n.1 ∧ F_atom_each_Action_l1 sg do2 n.1 n.2.1 n.2.2 = some r) (fun n => n.1.length) (fun n => [(1, stA Tryz.prog kAction do2 L), (6, rd (ksl kAction) l1), (7, rd (kint .i64) (l1.length : Int)), (8, rd (kint .i64) (n.2.1 : Int))]) (fun n => [(0, L n.2.2)]) (l1, 0, s3) ⟨Sfx.start _, h⟩ ⟨rfl, ⟨rfl, rfl, rfl, rfl, trivial⟩, ⟨rfl, trivial⟩⟩ ?_
  rintro ⟨l7, i6, s5⟩ ⟨hsf1, h⟩
  change Sfx l1 i6 l7 at hsf1
  change F_atom_each_Action_l1 sg do2 l7 i6 s5 = some r at h
  change AW _ _ _ ⟨slots [(1, stA Tryz.prog kAction do2 L), (6, rd (ksl kAction) l1), (7, rd (kint .i64) (l1.length : Int)), (8, rd (kint .i64) (i6 : Int))], ress [(0, L s5)], _⟩
  cases l7 with
  | nil =>
    unfold F_atom_each_Action_l1 at h
    refine SR <| Ac (op_lss rfl rfl (vt rfl) (vt rfl)) rfl <| Nl <| AW.seq <| Cn rfl (fun hc => absurd (of_decide_eq_true hc) hsf1.nil) (fun hc => ?_)
    refine AW.exit ?_
    obtain rfl := si h
    exact ret0Y (i := 0) Tryz.results303 rfl rfl
  | cons x8 l7 =>
    unfold F_atom_each_Action_l1 at h
    generalize hgo1 : F_atom_each_Action_l1 sg do2 l7 = go1 at h
    refine SR <| Ac (op_lss rfl rfl (vt rfl) (vt rfl)) rfl <| Nl <| AW.seq <| Cn rfl (fun hc => ?_) (fun hc => absurd hsf1.cons (of_decide_eq_false hc))
    have hlti6 := of_decide_eq_true hc
    refine AW.skip <| AW.seq <| AW.block <| SR <| Ac (op_indexs' rfl rfl sl122 (vt rfl) (vt rfl) hsf1.lget) rfl <| Lp1 ty121 rfl <| Ct rfl (op_alloc 6 rfl rfl zr121) ?_
    rintro _ ⟨g9, rfl⟩
    refine Sto ty121 6 rfl <| Nl ?_
    obtain ⟨s10, hs10, h⟩ := bsome h
    refine Rg <| Ac (op_move (A := stA Tryz.prog kAction do2 L) rfl rfl (vt rfl)) rfl <| Ld ty121 6 rfl <| Ac (op_callst 0 hs10 rfl rfl (vt rfl) (vt rfl) rfl) rfl <| Nl <| Rg <| Ac (op_incr (t := 7) rfl rfl (vt rfl) (vk rfl) (vt rfl) hlti6) rfl <| Md rfl <| Nl ?_
    subst hgo1
    exact ⟨(l7, i6 + 1, s10), Nat.lt_succ_self _, ⟨hsf1.next, h⟩, ⟨rfl, ⟨rfl, rfl, rfl, rfl, trivial⟩, ⟨rfl, trivial⟩⟩⟩
def F_atom_Do (acts1 : (List Action)) (r2 : (Vector Tern 24)) : Option ((List Atom) × (Vector Tern 24)) :=
  (F_rewrite_Clean r2).bind fun x5 => (F_atom_each_Action acts1 atom_trace (fun s x => F_atom_trace_do s x) (⟨x5, []⟩ : atom_trace)).bind fun b7 => some (b7.atoms, b7.got)
theorem c_atom_Do (acts1 : (List Action)) (r2 : (Vector Tern 24)) (r : ((List Atom) × (Vector Tern 24))) (h : F_atom_Do acts1 r2 = some r) : PCon Tryz.prog 265 [rd (ksl kAction) acts1, rd (karr 24 kTern) r2] (tup2 (rd (ksl kAtom) r.1) (rd (karr 24 kTern) r.2)) := by
  refine PCon.of (Con.intro0 Tryz.func265 rfl Tryz.ntmps265 rfl fun w H => ?_)
  unfold F_atom_Do at h
  refine SR <| Ct rfl (op_box 4 rfl rfl (vt rfl)) ?_
  rintro _ ⟨g3, rfl⟩
  refine Ac (op_assign (A := rd (ksl kAtom) []) rfl rfl vnil) rfl <| Ct rfl (op_alloc 6 rfl rfl zr101) ?_
  rintro _ ⟨g4, rfl⟩
  refine Nl <| AW.seq <| AW.newnil 2221 126 kAtom ?_
  obtain ⟨x5, hx5, h⟩ := bsome h
  refine Rg <| Ld ty101 4 rfl <| Cl [7] (c_rewrite_Clean _ _ hx5) e268 rfl <| Ac (op_build (ps := [(0, .tmp 8)]) (x := (⟨x5, (.slice none 0 0)⟩ : atom_trace_o1)) rfl rfl rfl (by kernel_rfl) zrv346_1 ⟨_, _, latom_trace_o1_0, _, by kernel_rfl, (vt rfl), rfl⟩) rfl <| Ct rfl (op_box 11 rfl rfl (vt rfl)) ?_
  rintro _ ⟨g6, rfl⟩
  refine Ac (op_assign (A := ptrL g6 (Lens.id katom_trace_o1)) rfl rfl (vt rfl)) rfl <| Nl <| AW.seq ?_
  obtain ⟨b7, hb7, h⟩ := bsome h
  refine Rg <| Md rfl <| Mp rfl <| Ac (op_st (fs := [.tmp 12]) (cs := []) (FAs := [ptrL g6 (Lens.id katom_trace_o1)]) (CAs := []) (k := kAction) (fun s x => F_atom_trace_do s x) (fun (s : atom_trace) => BoxF g6 346 katom_trace_o1 (fun v => (⟨s.got, v⟩ : atom_trace_o1)) 126 kAtom s.atoms) rfl rfl e304 ⟨vt rfl, trivial⟩ trivial (fun s x s2 h => c_atom_trace_do _ _ s x s2 h)) rfl <| AOps.packF 11 2221 (fun v => (⟨x5, v⟩ : atom_trace_o1)) (by decide) rfl rfl <| Ct rfl (op_callR 11 (xs := [.tmp 11, .tmp 13]) (c_atom_each_Action _ atom_trace _ (fun (s : atom_trace) => BoxF g6 346 katom_trace_o1 (fun v => (⟨s.got, v⟩ : atom_trace_o1)) 126 kAtom s.atoms) _ _ hb7) e303 rfl rfl ⟨vt rfl, vt rfl, trivial⟩ rfl) ?_
  rintro _ ⟨_u, rfl⟩
  refine AOps.unboxF 11 2221 (by decide) rfl rfl fun v8 => Nl <| AW.seq <| AW.regionAny [⟨[6], [15], [], []⟩, ⟨[15], [16], [], []⟩, ⟨[16], [17], [], []⟩, ⟨[17], [18], [11], []⟩, ⟨[6], [19], [], []⟩, ⟨[19], [20], [], []⟩, ⟨[20], [21], [], []⟩, ⟨[21], [22], [11], []⟩, ⟨[18], [4], [], []⟩, ⟨[5, 22], [], [6], [6]⟩] mixed (by kernel_rfl) <| SMp rfl <| SNc rfl <| SFd latom_trace_o1_1 flv346_1_1 rfl <| Sc (lo [17] [11] rfl fun S hs hr => op_loadv v8 rfl rfl tyr88 (vh hs 17 rfl rfl) (i := 11) ((hr 11 rfl).trans rfl) rfl) rfl <| SMp rfl <| SNc rfl <| SFd latom_trace_o1_0 flv346_0_1 rfl <| SLd ty101 11 rfl <| Sc (lo [18] [] rfl fun S hs hr => op_assign (A := raw v8) rfl rfl (vh hs 18 rfl rfl)) rfl <| SSt ty101 6 rfl <| AW.freezes [4, 18] 2221 rfl ⟨rfl, rfl, trivial⟩ rfl <| AW.ret ?_
  obtain rfl := si h
  exact ret2 Tryz.results265 rfl (out_tmp rfl) (out_cell rfl (i := 6) rfl ty101)
def F_walk_way_act (w1 : walk_way) (l2 : (List Action)) : Option walk_way :=
  (F_atom_Do l2 w1.got).bind fun x5 => (otake w1.atoms (w1.atoms.length : Int)).bind fun s7 => (appd s7 x5.1).bind fun l8 => some { { w1 with atoms := l8 } with got := x5.2 }
theorem c_walk_way_act (w1 : walk_way) (l2 : (List Action)) (r : walk_way) (h : F_walk_way_act w1 l2 = some r) : PCon Tryz.prog 205 [rd kwalk_way w1, rd (ksl kAction) l2] (rd kwalk_way r) := by
  refine PCon.of (Con.intro0 Tryz.func205 rfl Tryz.ntmps205 rfl fun w H => ?_)
  unfold F_walk_way_act at h
  refine SR <| Ct rfl (op_box 3 rfl rfl (vt rfl)) ?_
  rintro _ ⟨g3, rfl⟩
  refine Ct rfl (op_alloc 5 rfl rfl zr135) ?_
  rintro _ ⟨g4, rfl⟩
  refine Nl <| AW.seq ?_
  obtain ⟨x5, hx5, h⟩ := bsome h
  refine Rg <| Md rfl <| FdA lwalk_way_1 fl135_1 rfl <| Ld ty101 3 rfl <| Cl [8, 10] (c_atom_Do _ _ _ hx5) e265 rfl <| Mt2 rfl <| Ac (op_fst rfl rfl (vt rfl)) rfl <| Ac (op_snd rfl rfl (vt rfl)) rfl <| Ct rfl (op_alloc 7 rfl rfl zr101) ?_
  rintro _ ⟨g6, rfl⟩
  refine As rfl <| Sto ty101 7 rfl <| Nl <| AW.seq ?_
  obtain ⟨s7, hs7, h⟩ := bsome h
  obtain ⟨l8, hl8, h⟩ := bsome h
  refine AW.regionAny [⟨[2], [14], [], []⟩, ⟨[14], [15], [3], []⟩, ⟨[2], [16], [], []⟩, ⟨[16], [17], [3], []⟩, ⟨[17], [18], [], []⟩, ⟨[2], [19], [], []⟩, ⟨[19], [20], [3], []⟩, ⟨[20], [21], [], []⟩, ⟨[15, 18, 21], [22], [], []⟩, ⟨[5], [23], [], []⟩, ⟨[22, 23], [24], [], []⟩, ⟨[6], [25], [7], []⟩, ⟨[2], [26], [], []⟩, ⟨[26, 24], [], [3], [3]⟩, ⟨[2], [27], [], []⟩, ⟨[27, 25], [], [3], [3]⟩] mixed (by kernel_rfl) <| SFd lwalk_way_2 fl135_2 rfl <| SLd ty88 3 rfl <| SFd lwalk_way_2 fl135_2 rfl <| SLd ty88 3 rfl <| Sc (lo [17] [] rfl fun S hs hr => op_len' rfl rfl sl88 (vh hs 17 rfl rfl)) rfl <| SFd lwalk_way_2 fl135_2 rfl <| SLd ty88 3 rfl <| Sc (lo [20] [] rfl fun S hs hr => op_len' rfl rfl sl88 (vh hs 20 rfl rfl)) rfl <| Sc (lo [15, 18, 21] [] rfl fun S hs hr => op_slice_full' hs7 rfl rfl sl88 (vh hs 15 rfl rfl) (vh hs 18 rfl rfl) (vh hs 21 rfl rfl)) rfl <| SMd rfl <| Sc (lo [22, 23] [] rfl fun S hs hr => op_appendP hl8 rfl rfl el88 (vh hs 22 rfl rfl) (vh hs 23 rfl rfl)) rfl <| SLd ty101 7 rfl <| SFd lwalk_way_2 fl135_2 rfl <| SSt ty88 3 rfl <| SFd lwalk_way_1 fl135_1 rfl <| SSt ty101 3 rfl <| SR <| Ld ty135 3 rfl <| Sto ty135 5 rfl <| Nl <| AW.ret ?_
  obtain rfl := si h
  exact ret1 Tryz.results205 rfl (out_cell rfl (i := 5) rfl ty135)
end Go.Proofs.YtknpgojdkobgjaaGreat.W
set_option linter.unusedVariables false
set_option maxRecDepth 4000
set_option linter.unusedSimpArgs false
namespace Go.Proofs.YtknpgojdkobgjaaGreat.W
open Go Go.Wb
theorem e221 : Ent Tryz.prog 221 := Ent.mk Tryz.func221 rfl rfl
theorem e267 : Ent Tryz.prog 267 := Ent.mk Tryz.func267 rfl rfl
theorem e266 : Ent Tryz.prog 266 := Ent.mk Tryz.func266 rfl rfl
theorem e273 : Ent Tryz.prog 273 := Ent.mk Tryz.func273 rfl rfl
theorem e218 : Ent Tryz.prog 218 := Ent.mk Tryz.func218 rfl rfl
def F_aset_at (a1 : Action) : Option aset_spot :=
  (bif (decide (a1.Kind = 25)) then some (⟨a1.Kind, a1.Oxm.Field⟩ : aset_spot) else some (⟨a1.Kind, 0⟩ : aset_spot))
theorem c_aset_at (a1 : Action) (r : aset_spot) (h : F_aset_at a1 = some r) : PCon Tryz.prog 221 [rd kAction a1] (rd kaset_spot r) := by
  refine PCon.of (Con.intro0 Tryz.func221 rfl Tryz.ntmps221 rfl fun w H => ?_)
  unfold F_aset_at at h
  refine SR <| Ct rfl (op_box 2 rfl rfl (vt rfl)) ?_
  rintro _ ⟨g2, rfl⟩
  refine Ct rfl (op_alloc 3 rfl rfl zr275) ?_
  rintro _ ⟨g3, rfl⟩
  refine Nl <| AW.seq <| SR <| FdA lAction_0 fl121_0 rfl <| Ld ty3 2 rfl <| Ac (op_eql rfl rfl (vt rfl) (vk rfl)) rfl <| Nl <| Cn rfl (fun hc => ?_) (fun hc => ?_)
  · have h := cond_t hc h
    refine SR <| FdA lAction_0 fl121_0 rfl <| Ld ty3 2 rfl <| FdA lAction_5 fl121_5 rfl <| FdA lOxm_0 fl119_0 rfl <| Ld ty3 2 rfl <| Ac (op_build (ps := [(0, .tmp 7), (1, .tmp 10)]) (x := (⟨a1.Kind, a1.Oxm.Field⟩ : aset_spot)) rfl rfl rfl (by kernel_rfl) zr275 ⟨_, _, laset_spot_0, _, by kernel_rfl, (vt rfl), _, _, laset_spot_1, _, by kernel_rfl, (vt rfl), rfl⟩) rfl <| Sto ty275 3 rfl <| Nl <| AW.ret ?_
    obtain rfl := si h
    exact ret1 Tryz.results221 rfl (out_cell rfl (i := 3) rfl ty275)
  · have h := cond_f hc h
    refine AW.skip <| SR <| FdA lAction_0 fl121_0 rfl <| Ld ty3 2 rfl <| Ac (op_build (ps := [(0, .tmp 13)]) (x := (⟨a1.Kind, 0⟩ : aset_spot)) rfl rfl rfl (by kernel_rfl) zr275 ⟨_, _, laset_spot_0, _, by kernel_rfl, (vt rfl), rfl⟩) rfl <| Sto ty275 3 rfl <| Nl <| AW.ret ?_
    obtain rfl := si h
    exact ret1 Tryz.results221 rfl (out_cell rfl (i := 3) rfl ty275)
def F_aset_Write_1 (b1 : Action) (cp2 : Action) : Option Bool :=
  (F_aset_at cp2).bind fun x4 => (F_aset_at b1).bind fun x5 => some (decide (x4 = x5))
theorem c_aset_Write_1 (b1 : Action) (cp2 : Action) (r : Bool) (h : F_aset_Write_1 b1 cp2 = some r) : PCon Tryz.prog 267 [rd kAction b1, rp kAction cp2] (rd kbool r) := by
  refine PCon.of (Con.intro0 Tryz.func267 rfl Tryz.ntmps267 rfl fun w H => ?_)
  unfold F_aset_Write_1 at h
  refine SR <| Ct rfl (op_box 3 rfl rfl (vt rfl)) ?_
  rintro _ ⟨g3, rfl⟩
  refine Ab rfl <| Nl <| AW.seq ?_
  obtain ⟨x4, hx4, h⟩ := bsome h
  obtain ⟨x5, hx5, h⟩ := bsome h
  refine AW.regionAny [⟨[1], [4], [], []⟩, ⟨[4], [5], [], []⟩, ⟨[2], [6], [3], []⟩, ⟨[6], [7], [], []⟩, ⟨[5, 7], [8], [], []⟩, ⟨[8], [3], [], []⟩] mixed (by kernel_rfl) <| SLp ty121 rfl <| SCl [4] (c_aset_at _ _ hx4) e221 rfl <| SLd ty121 3 rfl <| SCl [6] (c_aset_at _ _ hx5) e221 rfl <| Sc (lo [5, 7] [] rfl fun S hs hr => op_eqlk rfl rfl eqk275 (by decide) rfl eg275 (vh hs 5 rfl rfl) (vh hs 7 rfl rfl)) rfl <| SAs rfl <| AW.ret ?_
  obtain rfl := si h
  exact ret1 Tryz.results267 rfl (out_tmp rfl)
def F_slices_IndexFunc_Action_l1 (s1 : (List Action)) (f2 : (Action → Option Bool)) : Nat → Nat → Option Int
  | 0, i3 => some (-1)
  | m4 + 1, i3 => (lget s1 (i3 : Int)).bind fun e5 => (f2 e5).bind fun x6 => (bif x6 then some (i3 : Int) else (F_slices_IndexFunc_Action_l1 s1 f2 m4) (i3 + 1))
def F_slices_IndexFunc_Action (s1 : (List Action)) (f2 : (Action → Option Bool)) : Option Int :=
  F_slices_IndexFunc_Action_l1 s1 f2 ((s1.length : Int) : Int).toNat 0
theorem c_slices_IndexFunc_Action (s1 : (List Action)) (f2 : (Action → Option Bool)) (r : Int) (h : F_slices_IndexFunc_Action s1 f2 = some r) : PCon Tryz.prog 266 [rd (ksl kAction) s1, fn1 Tryz.prog kAction kbool f2] (rd (kint .i64) r) := by
  refine PCon.of (Con.intro0 Tryz.func266 rfl Tryz.ntmps266 rfl fun w H => ?_)
  unfold F_slices_IndexFunc_Action at h
  refine SR <| Ak rfl <| Nl <| AW.seq <| SR <| Md rfl <| Ac (op_len' rfl rfl sl122 (vt rfl)) rfl <| Mk rfl <| Nl <| AW.block <| AW.loopG (d := []) (ν := Nat × Nat) (fun n => Cnt (s1.length : Int) n.2 n.1 ∧ F_slices_IndexFunc_Action_l1 s1 f2 n.1 n.2 = some r) (fun n => n.1) (fun n => [(0, rd (ksl kAction) s1), (1, fn1 Tryz.prog kAction kbool f2), (7, rd (kint .i64) (s1.length : Int)), (8, rd (kint .i64) (n.2 : Int))]) (fun n => []) (((s1.length : Int) : Int).toNat, 0) ⟨Cnt.start _, h⟩ ⟨rfl, ⟨rfl, rfl, rfl, rfl, trivial⟩, trivial⟩ ?_
  rintro ⟨m4, i3⟩ ⟨hsf1, h⟩
  change Cnt (s1.length : Int) i3 m4 at hsf1
  change F_slices_IndexFunc_Action_l1 s1 f2 m4 i3 = some r at h
  change AW _ _ _ ⟨slots [(0, rd (ksl kAction) s1), (1, fn1 Tryz.prog kAction kbool f2), (7, rd (kint .i64) (s1.length : Int)), (8, rd (kint .i64) (i3 : Int))], ress [], _⟩
  cases m4 with
  | zero =>
    unfold F_slices_IndexFunc_Action_l1 at h
    refine SR <| Ac (op_lss rfl rfl (vt rfl) (vt rfl)) rfl <| Nl <| AW.seq <| Cn rfl (fun hc => absurd (of_decide_eq_true hc) hsf1.zero) (fun hc => ?_)
    refine AW.exit <| SR <| Ak rfl <| Nl <| AW.ret ?_
    obtain rfl := si h
    exact ret1 Tryz.results266 rfl (out_tmp rfl)
  | succ m4 =>
    unfold F_slices_IndexFunc_Action_l1 at h
    generalize hgo1 : F_slices_IndexFunc_Action_l1 s1 f2 m4 = go1 at h
    refine SR <| Ac (op_lss rfl rfl (vt rfl) (vt rfl)) rfl <| Nl <| AW.seq <| Cn rfl (fun hc => ?_) (fun hc => absurd hsf1.succ (of_decide_eq_false hc))
    have hlti3 := of_decide_eq_true hc
    refine AW.skip <| AW.seq <| AW.block <| SR <| Md rfl <| As rfl <| Nl <| AW.seq ?_
    obtain ⟨e5, he5, h⟩ := bsome h
    obtain ⟨x6, hx6, h⟩ := bsome h
    refine Rg <| Ac (op_move (A := fn1 Tryz.prog kAction kbool f2) rfl rfl (vt rfl)) rfl <| Md rfl <| Md rfl <| Ac (op_indexs' rfl rfl sl122 (vt rfl) (vt rfl) he5) rfl <| Lp1 ty121 rfl <| Ac (op_call1 hx6 rfl rfl (vt rfl) (vt rfl)) rfl <| Nl <| Cn rfl (fun hc => ?_) (fun hc => ?_)
    · have h := cond_t hc h
      refine SR <| Md rfl <| As rfl <| Nl <| AW.ret ?_
      obtain rfl := si h
      exact ret1 Tryz.results266 rfl (out_tmp rfl)
    · have h := cond_f hc h
      refine AW.skip <| Rg <| Ac (op_incr (t := 7) rfl rfl (vt rfl) (vk rfl) (vt rfl) hlti3) rfl <| Md rfl <| Nl ?_
      subst hgo1
      exact ⟨(m4, i3 + 1), Nat.lt_succ_self _, ⟨hsf1.next, h⟩, ⟨rfl, ⟨rfl, rfl, rfl, rfl, trivial⟩, trivial⟩⟩
def F_aset_Write_l1 : (List Action) → Nat → (List Action) → Option (List Action)
  | [], i9, l7 => some l7
  | x11 :: l10, i9, l7 => (F_slices_IndexFunc_Action l7 (fun x => F_aset_Write_1 x x11)).bind fun x13 => (bif (decide (x13 < 0)) then (appd l7 [x11]).bind fun l14 => (F_aset_Write_l1 l10) (i9 + 1) l14 else (lget l7 x13).bind fun e16 => (F_aset_Write_l1 l10) (i9 + 1) (List.set l7 x13.toNat x11))
def F_aset_Write (set1 : (List Action)) (l2 : (List Action)) : Option (List Action) :=
  (F_slices_Clone_Action set1).bind fun x3 => F_aset_Write_l1 l2 0 x3
theorem c_aset_Write (set1 : (List Action)) (l2 : (List Action)) (r : (List Action)) (h : F_aset_Write set1 l2 = some r) : PCon Tryz.prog 206 [rd (ksl kAction) set1, rd (ksl kAction) l2] (rd (ksl kAction) r) := by
  refine PCon.of (Con.intro0 Tryz.func206 rfl Tryz.ntmps206 rfl fun w H => ?_)
  unfold F_aset_Write at h
  refine SR <| Ac (op_assign (A := rd (ksl kAction) []) rfl rfl vnil) rfl <| Nl <| AW.seq ?_
  obtain ⟨x3, hx3, h⟩ := bsome h
  refine Rg <| Md rfl <| Ct rfl (op_callR 1001 (xs := [.tmp 9]) (c_slices_Clone_Action_o _ _ hx3) e216 rfl rfl ⟨vt rfl, trivial⟩ rfl) ?_
  rintro _ ⟨v4, rfl⟩
  refine Aw rfl <| Nl <| AW.seq <| SR <| Md rfl <| Ac (op_len' rfl rfl sl122 (vt rfl)) rfl <| Mk rfl <| Nl <| AW.block <| AW.loopG (d := []) (ν := (List Action) × Nat × (List Action) × Value) (fun n => Sfx l2 n.2.1 n.1 ∧ F_aset_Write_l1 n.1 n.2.1 n.2.2.1 = some r) (fun n => n.1.length) (fun n => [(5, raw n.2.2.2), (11, rd (ksl kAction) l2), (12, rd (kint .i64) (l2.length : Int)), (13, rd (kint .i64) (n.2.1 : Int))]) (fun n => [(1001, Row n.2.2.2 121 kAction n.2.2.1)]) (l2, 0, x3, v4) ⟨Sfx.start _, h⟩ ⟨rfl, ⟨rfl, rfl, rfl, rfl, trivial⟩, ⟨rfl, trivial⟩⟩ ?_
  rintro ⟨l10, i9, l7, v8⟩ ⟨hsf1, h⟩
  change Sfx l2 i9 l10 at hsf1
  change F_aset_Write_l1 l10 i9 l7 = some r at h
  change AW _ _ _ ⟨slots [(5, raw v8), (11, rd (ksl kAction) l2), (12, rd (kint .i64) (l2.length : Int)), (13, rd (kint .i64) (i9 : Int))], ress [(1001, Row v8 121 kAction l7)], _⟩
  cases l10 with
  | nil =>
    unfold F_aset_Write_l1 at h
    refine SR <| Ac (op_lss rfl rfl (vt rfl) (vt rfl)) rfl <| Nl <| AW.seq <| Cn rfl (fun hc => absurd (of_decide_eq_true hc) hsf1.nil) (fun hc => ?_)
    refine AW.exit <| SR <| Mw rfl <| Aw rfl <| Nl <| AW.freezes [4, 5, 31] 1001 rfl ⟨rfl, rfl, rfl, trivial⟩ rfl <| AW.ret ?_
    obtain rfl := si h
    exact ret1 Tryz.results206 rfl (out_tmp rfl)
  | cons x11 l10 =>
    unfold F_aset_Write_l1 at h
    generalize hgo1 : F_aset_Write_l1 l10 = go1 at h
    refine SR <| Ac (op_lss rfl rfl (vt rfl) (vt rfl)) rfl <| Nl <| AW.seq <| Cn rfl (fun hc => ?_) (fun hc => absurd hsf1.cons (of_decide_eq_false hc))
    have hlti9 := of_decide_eq_true hc
    refine AW.skip <| AW.seq <| AW.block <| SR <| Ac (op_indexs' rfl rfl sl122 (vt rfl) (vt rfl) hsf1.lget) rfl <| Lp1 ty121 rfl <| Ct rfl (op_alloc 8 rfl rfl zr121) ?_
    rintro _ ⟨g12, rfl⟩
    refine Sto ty121 8 rfl <| Nl <| AW.seq <| AW.freezeB 7 8 rfl rfl rfl ?_
    obtain ⟨x13, hx13, h⟩ := bsome h
    refine Rg <| Mw rfl <| Ac (op_fn1 (cs := [.tmp 7]) (CAs := [rp kAction x11]) (fun x => F_aset_Write_1 x x11) rfl rfl e267 ⟨vt rfl, trivial⟩ (fun x y h => c_aset_Write_1 _ _ y h)) rfl <| Ac (op_callB (xs := [.tmp 17, .tmp 18]) 1001 (c_slices_IndexFunc_Action _ _ _ hx13) e266 rfl rfl ⟨vL rfl rfl, vB (vt rfl), trivial⟩) rfl <| As rfl <| Nl <| SR <| Md rfl <| Ac (op_lss rfl rfl (vt rfl) (vk rfl)) rfl <| Nl <| Cn rfl (fun hc => ?_) (fun hc => ?_)
    · have h := cond_t hc h
      obtain ⟨l14, hl14, h⟩ := bsome h
      refine Rg <| Mw rfl <| Lp1 ty121 rfl <| Ac (op_buildSliceR (ps := [(0, .tmp 23)]) (l := [x11]) rfl rfl sl122 zr121 rfl rfl ⟨_, _, Lens.idx 1 kAction 0 (by decide), _, rfl, (vt rfl), rfl⟩ rfl) rfl <| Ct rfl (op_append' 1001 hl14 rfl rfl el122 (vt rfl) rfl (vt rfl)) ?_
      rintro _ ⟨v15, rfl⟩
      refine Aw rfl <| Nl <| Rg <| Ac (op_incr (t := 12) rfl rfl (vt rfl) (vk rfl) (vt rfl) hlti9) rfl <| Md rfl <| Nl ?_
      subst hgo1
      exact ⟨(l10, i9 + 1, l14, v15), Nat.lt_succ_self _, ⟨hsf1.next, h⟩, ⟨rfl, ⟨rfl, rfl, rfl, rfl, trivial⟩, ⟨rfl, trivial⟩⟩⟩
    · have h := cond_f hc h
      obtain ⟨e16, he16, h⟩ := bsome h
      refine Rg <| Mw rfl <| Md rfl <| Lp1 ty121 rfl <| Ac (op_indexo' 1001 rfl rfl sl122 (vt rfl) rfl (vt rfl) he16) rfl <| Ac (op_storeo' 1001 rfl rfl ty121 (vt rfl) rfl (lget_of he16).2 (vt rfl)) rfl <| Nl <| Rg <| Ac (op_incr (t := 12) rfl rfl (vt rfl) (vk rfl) (vt rfl) hlti9) rfl <| Md rfl <| Nl ?_
      subst hgo1
      exact ⟨(l10, i9 + 1, (List.set l7 x13.toNat x11), v8), Nat.lt_succ_self _, ⟨hsf1.next, h⟩, ⟨rfl, ⟨rfl, rfl, rfl, rfl, trivial⟩, ⟨rfl, trivial⟩⟩⟩
def F_slices_ContainsFunc_Action (s1 : (List Action)) (f2 : (Action → Option Bool)) : Option Bool :=
  (F_slices_IndexFunc_Action s1 f2).bind fun x3 => some (decide (x3 ≥ 0))
theorem c_slices_ContainsFunc_Action (s1 : (List Action)) (f2 : (Action → Option Bool)) (r : Bool) (h : F_slices_ContainsFunc_Action s1 f2 = some r) : PCon Tryz.prog 213 [rd (ksl kAction) s1, fn1 Tryz.prog kAction kbool f2] (rd kbool r) := by
  refine PCon.of (Con.intro0 Tryz.func213 rfl Tryz.ntmps213 rfl fun w H => ?_)
  unfold F_slices_ContainsFunc_Action at h
  refine SR <| Ab rfl <| Nl <| AW.seq ?_
  obtain ⟨x3, hx3, h⟩ := bsome h
  refine Rg <| Md rfl <| Ac (op_move (A := fn1 Tryz.prog kAction kbool f2) rfl rfl (vt rfl)) rfl <| Cl [5, 6] (c_slices_IndexFunc_Action _ _ _ hx3) e266 rfl <| Ac (op_geq rfl rfl (vt rfl) (vk rfl)) rfl <| As rfl <| Nl <| AW.ret ?_
  obtain rfl := si h
  exact ret1 Tryz.results213 rfl (out_tmp rfl)
def F_aset_List_1 (a1 : Action) : Option Bool :=
  some (decide (a1.Kind = 22))
theorem c_aset_List_1 (a1 : Action) (r : Bool) (h : F_aset_List_1 a1 = some r) : PCon Tryz.prog 214 [rd kAction a1] (rd kbool r) := by
  refine PCon.of (Con.intro0 Tryz.func214 rfl Tryz.ntmps214 rfl fun w H => ?_)
  unfold F_aset_List_1 at h
  refine SR <| Ct rfl (op_box 2 rfl rfl (vt rfl)) ?_
  rintro _ ⟨g2, rfl⟩
  refine Ab rfl <| Nl <| SR <| FdA lAction_0 fl121_0 rfl <| Ld ty3 2 rfl <| Ac (op_eql rfl rfl (vt rfl) (vk rfl)) rfl <| As rfl <| Nl <| AW.ret ?_
  obtain rfl := si h
  exact ret1 Tryz.results214 rfl (out_tmp rfl)
def F_slices_Index_int_l1 (s1 : (List Int)) (v2 : Int) : Nat → Nat → Option Int
  | 0, i3 => some (-1)
  | m4 + 1, i3 => (lget s1 (i3 : Int)).bind fun e5 => (bif (decide (v2 = e5)) then some (i3 : Int) else (F_slices_Index_int_l1 s1 v2 m4) (i3 + 1))
def F_slices_Index_int (s1 : (List Int)) (v2 : Int) : Option Int :=
  F_slices_Index_int_l1 s1 v2 ((s1.length : Int) : Int).toNat 0
theorem c_slices_Index_int (s1 : (List Int)) (v2 : Int) (r : Int) (h : F_slices_Index_int s1 v2 = some r) : PCon Tryz.prog 273 [rd (ksl (kint .i64)) s1, rd (kint .i64) v2] (rd (kint .i64) r) := by
  refine PCon.of (Con.intro0 Tryz.func273 rfl Tryz.ntmps273 rfl fun w H => ?_)
  unfold F_slices_Index_int at h
  refine SR <| Ak rfl <| Nl <| AW.seq <| SR <| Md rfl <| Ac (op_len' rfl rfl sl37 (vt rfl)) rfl <| Mk rfl <| Nl <| AW.block <| AW.loopG (d := []) (ν := Nat × Nat) (fun n => Cnt (s1.length : Int) n.2 n.1 ∧ F_slices_Index_int_l1 s1 v2 n.1 n.2 = some r) (fun n => n.1) (fun n => [(0, rd (ksl (kint .i64)) s1), (1, rd (kint .i64) v2), (7, rd (kint .i64) (s1.length : Int)), (8, rd (kint .i64) (n.2 : Int))]) (fun n => []) (((s1.length : Int) : Int).toNat, 0) ⟨Cnt.start _, h⟩ ⟨rfl, ⟨rfl, rfl, rfl, rfl, trivial⟩, trivial⟩ ?_
  rintro ⟨m4, i3⟩ ⟨hsf1, h⟩
  change Cnt (s1.length : Int) i3 m4 at hsf1
  change F_slices_Index_int_l1 s1 v2 m4 i3 = some r at h
  change AW _ _ _ ⟨slots [(0, rd (ksl (kint .i64)) s1), (1, rd (kint .i64) v2), (7, rd (kint .i64) (s1.length : Int)), (8, rd (kint .i64) (i3 : Int))], ress [], _⟩
  cases m4 with
  | zero =>
    unfold F_slices_Index_int_l1 at h
    refine SR <| Ac (op_lss rfl rfl (vt rfl) (vt rfl)) rfl <| Nl <| AW.seq <| Cn rfl (fun hc => absurd (of_decide_eq_true hc) hsf1.zero) (fun hc => ?_)
    refine AW.exit <| SR <| Ak rfl <| Nl <| AW.ret ?_
    obtain rfl := si h
    exact ret1 Tryz.results273 rfl (out_tmp rfl)
  | succ m4 =>
    unfold F_slices_Index_int_l1 at h
    generalize hgo1 : F_slices_Index_int_l1 s1 v2 m4 = go1 at h
    refine SR <| Ac (op_lss rfl rfl (vt rfl) (vt rfl)) rfl <| Nl <| AW.seq <| Cn rfl (fun hc => ?_) (fun hc => absurd hsf1.succ (of_decide_eq_false hc))
    have hlti3 := of_decide_eq_true hc
    refine AW.skip <| AW.seq <| AW.block <| SR <| Md rfl <| As rfl <| Nl <| AW.seq ?_
    obtain ⟨e5, he5, h⟩ := bsome h
    refine Rg <| Md rfl <| Md rfl <| Md rfl <| Ac (op_indexs' rfl rfl sl37 (vt rfl) (vt rfl) he5) rfl <| Lp1 ty3 rfl <| Ac (op_eql rfl rfl (vt rfl) (vt rfl)) rfl <| Nl <| Cn rfl (fun hc => ?_) (fun hc => ?_)
    · have h := cond_t hc h
      refine SR <| Md rfl <| As rfl <| Nl <| AW.ret ?_
      obtain rfl := si h
      exact ret1 Tryz.results273 rfl (out_tmp rfl)
    · have h := cond_f hc h
      refine AW.skip <| Rg <| Ac (op_incr (t := 7) rfl rfl (vt rfl) (vk rfl) (vt rfl) hlti3) rfl <| Md rfl <| Nl ?_
      subst hgo1
      exact ⟨(m4, i3 + 1), Nat.lt_succ_self _, ⟨hsf1.next, h⟩, ⟨rfl, ⟨rfl, rfl, rfl, rfl, trivial⟩, trivial⟩⟩
def F_aset_turn (kind1 : Int) : Option Int :=
  (F_slices_Index_int [18, 17, 25, 22, 0] kind1).bind fun x2 => some x2
theorem c_aset_turn (kind1 : Int) (r : Int) (h : F_aset_turn kind1 = some r) : PCon Tryz.prog 218 [rd (kint .i64) kind1] (rd (kint .i64) r) := by
  refine PCon.of (Con.intro0 Tryz.func218 rfl Tryz.ntmps218 rfl fun w H => ?_)
  unfold F_aset_turn at h
  refine SR <| Ak rfl <| Nl <| AW.seq ?_
  obtain ⟨x2, hx2, h⟩ := bsome h
  refine Rg <| Ac (op_buildSliceR (ps := [(0, .const (Value.int IntKind.i64 18)), (1, .const (Value.int IntKind.i64 17)), (2, .const (Value.int IntKind.i64 25)), (3, .const (Value.int IntKind.i64 22)), (4, .const (Value.int IntKind.i64 0))]) (l := [18, 17, 25, 22, 0]) rfl rfl sl37 zr3 rfl rfl ⟨_, _, Lens.idx 5 (kint .i64) 0 (by decide), _, rfl, (vk rfl), _, _, Lens.idx 5 (kint .i64) 1 (by decide), _, rfl, (vk rfl), _, _, Lens.idx 5 (kint .i64) 2 (by decide), _, rfl, (vk rfl), _, _, Lens.idx 5 (kint .i64) 3 (by decide), _, rfl, (vk rfl), _, _, Lens.idx 5 (kint .i64) 4 (by decide), _, rfl, (vk rfl), rfl⟩ rfl) rfl <| Md rfl <| Cl [3, 4] (c_slices_Index_int _ _ _ hx2) e273 rfl <| As rfl <| Nl <| AW.ret ?_
  obtain rfl := si h
  exact ret1 Tryz.results218 rfl (out_tmp rfl)
def F_aset_List_2 (a1 : Action) (cp2 : Bool) : Option Bool :=
  (F_aset_turn a1.Kind).bind fun x4 => some ((decide (x4 < 0)) || (cp2 && (decide (a1.Kind = 0))))
theorem c_aset_List_2 (a1 : Action) (cp2 : Bool) (r : Bool) (h : F_aset_List_2 a1 cp2 = some r) : PCon Tryz.prog 217 [rd kAction a1, rp kbool cp2] (rd kbool r) := by
  refine PCon.of (Con.intro0 Tryz.func217 rfl Tryz.ntmps217 rfl fun w H => ?_)
  unfold F_aset_List_2 at h
  refine SR <| Ct rfl (op_box 3 rfl rfl (vt rfl)) ?_
  rintro _ ⟨g3, rfl⟩
  refine Ab rfl <| Nl <| AW.seq ?_
  obtain ⟨x4, hx4, h⟩ := bsome h
  refine Rg <| FdA lAction_0 fl121_0 rfl <| Ld ty3 3 rfl <| Cl [5] (c_aset_turn _ _ hx4) e218 rfl <| Ac (op_lss rfl rfl (vt rfl) (vk rfl)) rfl <| Md rfl <| Gd rfl (fun hq => op_loadp rfl rfl ty4 (vt rfl)) <| AOps.consG (OpG.guardX rfl rfl rfl rfl rfl fun hq => op_move (A := rd kbool cp2) rfl rfl (vgt rfl hq)) <| AOps.consG (OpG.guardN rfl rfl rfl rfl rfl fun hq => op_field lAction_0 rfl rfl fl121_0 (vt rfl)) <| AOps.consG (OpG.guardN rfl rfl rfl rfl rfl fun hq => op_load rfl rfl ty3 (vgt rfl hq) (i := 3) rfl) <| AOps.consG (OpG.guardN rfl rfl rfl rfl rfl fun hq => op_eql rfl rfl (vgt rfl hq) (vk rfl)) <| Gd rfl (fun hq => op_all rfl rfl (vgx rfl hq) (vgw rfl hq)) <| Ac (op_any rfl rfl (vt rfl) (vt rfl)) rfl <| As rfl <| Nl <| AW.ret ?_
  obtain rfl := si h
  exact ret1 Tryz.results217 rfl (out_tmp rfl)
end Go.Proofs.YtknpgojdkobgjaaGreat.W
set_option linter.unusedVariables false
set_option maxRecDepth 4000
set_option linter.unusedSimpArgs false
namespace Go.Proofs.YtknpgojdkobgjaaGreat.W
open Go Go.Wb
theorem e343 : Ent Tryz.prog 343 := Ent.mk Tryz.func343 rfl rfl
theorem e311 : Ent Tryz.prog 311 := Ent.mk Tryz.func311 rfl rfl
theorem e335 : Ent Tryz.prog 335 := Ent.mk Tryz.func335 rfl rfl
theorem e310 : Ent Tryz.prog 310 := Ent.mk Tryz.func310 rfl rfl
theorem e274 : Ent Tryz.prog 274 := Ent.mk Tryz.func274 rfl rfl
theorem e213 : Ent Tryz.prog 213 := Ent.mk Tryz.func213 rfl rfl
theorem e214 : Ent Tryz.prog 214 := Ent.mk Tryz.func214 rfl rfl
theorem e217 : Ent Tryz.prog 217 := Ent.mk Tryz.func217 rfl rfl
theorem e215 : Ent Tryz.prog 215 := Ent.mk Tryz.func215 rfl rfl
theorem e219 : Ent Tryz.prog 219 := Ent.mk Tryz.func219 rfl rfl
theorem e220 : Ent Tryz.prog 220 := Ent.mk Tryz.func220 rfl rfl
def F_slices_DeleteFunc_Action_l1 (del3 : (Action → Option Bool)) : Nat → (List Action) → Int → Int → Option (List Action)
  | 0, _, _, _ => none
  | m11 + 1, l8, i9, j10 => (bif (decide (j10 < (l8.length : Int))) then (lget l8 j10).bind fun e12 => (del3 e12).bind fun x14 => (bif (!x14) then (lget l8 i9).bind fun e15 => (F_slices_DeleteFunc_Action_l1 del3 m11) (List.set l8 i9.toNat e12) (IntKind.i64.wrap (i9 + 1)) (IntKind.i64.wrap (j10 + 1)) else (F_slices_DeleteFunc_Action_l1 del3 m11) l8 i9 (IntKind.i64.wrap (j10 + 1))) else (odrop l8 i9).bind fun s16 => (otake (List.take i9.toNat l8 ++ List.replicate (l8.length - i9.toNat) zAction) i9).bind fun s17 => some s17)
def F_slices_DeleteFunc_Action (s1 : (List Action)) (del3 : (Action → Option Bool)) : Option (List Action) :=
  (F_slices_IndexFunc_Action s1 del3).bind fun x4 => (bif (decide (x4 = (-1))) then some s1 else F_slices_DeleteFunc_Action_l1 del3 ((((s1.length : Int) : Int) - (IntKind.i64.wrap (x4 + 1))).toNat + 1) s1 x4 (IntKind.i64.wrap (x4 + 1)))
theorem c_slices_DeleteFunc_Action_o (v2 : Value) (s1 : (List Action)) (del3 : (Action → Option Bool)) (r : (List Action)) (h : F_slices_DeleteFunc_Action s1 del3 = some r) : Con Tryz.prog 215 [raw v2, fn1 Tryz.prog kAction kbool del3] (Row v2 121 kAction s1) (fun v => raw v) (fun v => Row v 121 kAction r) := by
  refine Con.intro Tryz.func215 rfl Tryz.ntmps215 rfl fun w H X => ?_
  unfold F_slices_DeleteFunc_Action at h
  refine AW.seq <| AW.newnil 1001 121 kAction <| Rg <| Ac (op_assign rfl rfl vc) rfl <| Nl <| AW.seq ?_
  obtain ⟨x4, hx4, h⟩ := bsome h
  refine Rg <| Mw rfl <| Ac (op_move (A := fn1 Tryz.prog kAction kbool del3) rfl rfl (vt rfl)) rfl <| Ac (op_callB (xs := [.tmp 8, .tmp 9]) 0 (c_slices_IndexFunc_Action _ _ _ hx4) e266 rfl rfl ⟨vL rfl rfl, vB (vt rfl), trivial⟩) rfl <| As rfl <| Nl <| AW.seq <| SR <| Md rfl <| Ac (op_eql rfl rfl (vt rfl) (vk rfl)) rfl <| Nl <| Cn rfl (fun hc => ?_) (fun hc => ?_)
  · have h := cond_t hc h
    refine SR <| Mw rfl <| Aw rfl <| Nl <| AW.ret ?_
    obtain rfl := si h
    exact ret1R (i := 0) Tryz.results215 rfl rfl rfl
  · have h := cond_f hc h
    refine AW.skip <| AW.seq <| SR <| Md rfl <| Ac (op_add rfl rfl (vt rfl) (vk rfl)) rfl <| As rfl <| Nl <| AW.block <| AW.loopG (d := []) (ν := Nat × (List Action) × Int × Int) (fun n => True ∧ F_slices_DeleteFunc_Action_l1 del3 n.1 n.2.1 n.2.2.1 n.2.2.2 = some r) (fun n => n.1) (fun n => [(0, raw v2), (1, fn1 Tryz.prog kAction kbool del3), (5, rd (kint .i64) n.2.2.1), (6, rd (kint .i64) n.2.2.2)]) (fun n => [(0, Row v2 121 kAction n.2.1)]) (((((s1.length : Int) : Int) - (IntKind.i64.wrap (x4 + 1))).toNat + 1), s1, x4, (IntKind.i64.wrap (x4 + 1))) ⟨trivial, h⟩ ⟨rfl, ⟨rfl, rfl, rfl, rfl, trivial⟩, ⟨rfl, trivial⟩⟩ ?_
    rintro ⟨m11, l8, i9, j10⟩ ⟨hsf1, h⟩
    change True at hsf1
    change F_slices_DeleteFunc_Action_l1 del3 m11 l8 i9 j10 = some r at h
    change AW _ _ _ ⟨slots [(0, raw v2), (1, fn1 Tryz.prog kAction kbool del3), (5, rd (kint .i64) i9), (6, rd (kint .i64) j10)], ress [(0, Row v2 121 kAction l8)], _⟩
    cases m11 with
    | zero => cases h
    | succ m11 =>
      unfold F_slices_DeleteFunc_Action_l1 at h
      generalize hgo1 : F_slices_DeleteFunc_Action_l1 del3 m11 = go1 at h
      refine AW.seq <| SR <| Md rfl <| Mw rfl <| Ac (op_leno 0 rfl rfl sl122 (vt rfl) rfl) rfl <| Ac (op_lss rfl rfl (vt rfl) (vt rfl)) rfl <| Nl <| Cn rfl (fun hc => ?_) (fun hc => ?_)
      · have h := cond_t hc h
        refine AW.skip <| AW.seq <| AW.block <| AW.seq ?_
        obtain ⟨e12, he12, h⟩ := bsome h
        refine Rg <| Mw rfl <| Md rfl <| Ac (op_indexo' 0 rfl rfl sl122 (vt rfl) rfl (vt rfl) he12) rfl <| Ac (op_loado' 0 rfl rfl ty121 (vt rfl) rfl (lget_of he12).2) rfl <| Ct rfl (op_alloc 8 rfl rfl zr121) ?_
        rintro _ ⟨g13, rfl⟩
        refine Sto ty121 8 rfl <| Nl <| AW.seq ?_
        obtain ⟨x14, hx14, h⟩ := bsome h
        refine Rg <| Ac (op_move (A := fn1 Tryz.prog kAction kbool del3) rfl rfl (vt rfl)) rfl <| Ld ty121 8 rfl <| Ac (op_call1 hx14 rfl rfl (vt rfl) (vt rfl)) rfl <| Ac (op_not rfl rfl (vt rfl)) rfl <| Nl <| Cn rfl (fun hc => ?_) (fun hc => ?_)
        · have h := cond_t hc h
          refine AW.seq ?_
          obtain ⟨e15, he15, h⟩ := bsome h
          refine Rg <| Mw rfl <| Md rfl <| Ld ty121 8 rfl <| Ac (op_indexo' 0 rfl rfl sl122 (vt rfl) rfl (vt rfl) he15) rfl <| Ac (op_storeo' 0 rfl rfl ty121 (vt rfl) rfl (lget_of he15).2 (vt rfl)) rfl <| Nl <| Rg <| Md rfl <| Ac (op_add rfl rfl (vt rfl) (vk rfl)) rfl <| As rfl <| Nl <| Rg <| Md rfl <| Ac (op_add rfl rfl (vt rfl) (vk rfl)) rfl <| As rfl <| Nl ?_
          subst hgo1
          exact ⟨(m11, (List.set l8 i9.toNat e12), (IntKind.i64.wrap (i9 + 1)), (IntKind.i64.wrap (j10 + 1))), Nat.lt_succ_self _, ⟨trivial, h⟩, ⟨rfl, ⟨rfl, rfl, rfl, rfl, trivial⟩, ⟨rfl, trivial⟩⟩⟩
        · have h := cond_f hc h
          refine AW.skip <| Rg <| Md rfl <| Ac (op_add rfl rfl (vt rfl) (vk rfl)) rfl <| As rfl <| Nl ?_
          subst hgo1
          exact ⟨(m11, l8, i9, (IntKind.i64.wrap (j10 + 1))), Nat.lt_succ_self _, ⟨trivial, h⟩, ⟨rfl, ⟨rfl, rfl, rfl, rfl, trivial⟩, ⟨rfl, trivial⟩⟩⟩
      · have h := cond_f hc h
        refine AW.exit <| AW.seq ?_
        obtain ⟨s16, hs16, h⟩ := bsome h
        refine Rg <| Mw rfl <| Md rfl <| Ac (op_sliceo_l 0 hs16 rfl rfl sl122 (vt rfl) rfl (vt rfl)) rfl <| Ac (op_clearo 0 rfl rfl sl122 zr121 rfl (vt rfl) rfl (odrop_of hs16).2.1) rfl <| Nl <| AW.seq ?_
        obtain ⟨s17, hs17, h⟩ := bsome h
        refine Rg <| Mw rfl <| Md rfl <| Ct rfl (op_sliceo_h 0 hs17 rfl rfl sl122 (vt rfl) rfl (vt rfl)) ?_
        rintro _ ⟨v18, rfl⟩
        refine Aw rfl <| Nl <| AW.ret ?_
        obtain rfl := si h
        exact ret1R (i := 0) Tryz.results215 rfl rfl rfl
def F_slices_insertionSortCmpFunc_Action_l2 (a3 : Int) (cmp5 : (Action → Action → Option Int)) (go1 : (List Action) → Int → Option (List Action)) (i9 : Int) : Nat → (List Action) → Int → Option (List Action)
  | 0, _, _ => none
  | m15 + 1, l13, j14 => (opt (decide (j14 > a3)) (lget l13 j14)).bind fun e16 => (opt (decide (j14 > a3)) (lget l13 (IntKind.i64.wrap (j14 - 1)))).bind fun e17 => (opt (decide (j14 > a3)) (cmp5 e16 e17)).bind fun x18 => (bif ((decide (j14 > a3)) && (decide (x18 < 0))) then (lget l13 (IntKind.i64.wrap (j14 - 1))).bind fun e19 => (lget l13 j14).bind fun e20 => (lget l13 j14).bind fun e21 => (lget (List.set l13 j14.toNat e19) (IntKind.i64.wrap (j14 - 1))).bind fun e22 => (F_slices_insertionSortCmpFunc_Action_l2 a3 cmp5 go1 i9 m15) (List.set (List.set l13 j14.toNat e19) (IntKind.i64.wrap (j14 - 1)).toNat e20) (IntKind.i64.wrap (j14 - 1)) else go1 l13 (IntKind.i64.wrap (i9 + 1)))
def F_slices_insertionSortCmpFunc_Action_l1 (b4 : Int) (a3 : Int) (cmp5 : (Action → Action → Option Int)) : Nat → (List Action) → Int → Option (List Action)
  | 0, _, _ => none
  | m10 + 1, l8, i9 => (bif (decide (i9 < b4)) then F_slices_insertionSortCmpFunc_Action_l2 a3 cmp5 (F_slices_insertionSortCmpFunc_Action_l1 b4 a3 cmp5 m10) i9 fuel0 l8 i9 else some l8)
def F_slices_insertionSortCmpFunc_Action (data1 : (List Action)) (a3 : Int) (b4 : Int) (cmp5 : (Action → Action → Option Int)) : Option (List Action) :=
  F_slices_insertionSortCmpFunc_Action_l1 b4 a3 cmp5 (((b4 : Int) - (IntKind.i64.wrap (a3 + 1))).toNat + 1) data1 (IntKind.i64.wrap (a3 + 1))
theorem c_slices_insertionSortCmpFunc_Action_o (v2 : Value) (data1 : (List Action)) (a3 : Int) (b4 : Int) (cmp5 : (Action → Action → Option Int)) (r : (List Action)) (h : F_slices_insertionSortCmpFunc_Action data1 a3 b4 cmp5 = some r) : Con Tryz.prog 310 [raw v2, rd (kint .i64) a3, rd (kint .i64) b4, fn2 Tryz.prog kAction kAction (kint .i64) cmp5] (Row v2 121 kAction data1) (fun _ : Unit => top) (fun _ => Row v2 121 kAction r) := by
  refine Con.intro Tryz.func310 rfl Tryz.ntmps310 rfl fun w H X => ?_
  unfold F_slices_insertionSortCmpFunc_Action at h
  refine SR <| Md rfl <| Ac (op_add rfl rfl (vt rfl) (vk rfl)) rfl <| As rfl <| Nl <| AW.block <| AW.loopG (d := []) (ν := Nat × (List Action) × Int) (fun n => True ∧ F_slices_insertionSortCmpFunc_Action_l1 b4 a3 cmp5 n.1 n.2.1 n.2.2 = some r) (fun n => n.1) (fun n => [(0, raw v2), (1, rd (kint .i64) a3), (2, rd (kint .i64) b4), (3, fn2 Tryz.prog kAction kAction (kint .i64) cmp5), (8, rd (kint .i64) n.2.2)]) (fun n => [(0, Row v2 121 kAction n.2.1)]) ((((b4 : Int) - (IntKind.i64.wrap (a3 + 1))).toNat + 1), data1, (IntKind.i64.wrap (a3 + 1))) ⟨trivial, h⟩ ⟨rfl, ⟨rfl, rfl, rfl, rfl, rfl, trivial⟩, ⟨rfl, trivial⟩⟩ ?_
  rintro ⟨m10, l8, i9⟩ ⟨hsf1, h⟩
  change True at hsf1
  change F_slices_insertionSortCmpFunc_Action_l1 b4 a3 cmp5 m10 l8 i9 = some r at h
  change AW _ _ _ ⟨slots [(0, raw v2), (1, rd (kint .i64) a3), (2, rd (kint .i64) b4), (3, fn2 Tryz.prog kAction kAction (kint .i64) cmp5), (8, rd (kint .i64) i9)], ress [(0, Row v2 121 kAction l8)], _⟩
  cases m10 with
  | zero => cases h
  | succ m10 =>
    unfold F_slices_insertionSortCmpFunc_Action_l1 at h
    generalize hgo1 : F_slices_insertionSortCmpFunc_Action_l1 b4 a3 cmp5 m10 = go1 at h
    refine AW.seq <| SR <| Md rfl <| Md rfl <| Ac (op_lss rfl rfl (vt rfl) (vt rfl)) rfl <| Nl <| Cn rfl (fun hc => ?_) (fun hc => ?_)
    · have h := cond_t hc h
      refine AW.skip <| AW.seq <| AW.block <| SR <| Md rfl <| As rfl <| Nl <| AW.block <| AW.loopG (d := []) (ν := Nat × (List Action) × Int) (fun n => True ∧ F_slices_insertionSortCmpFunc_Action_l2 a3 cmp5 go1 i9 n.1 n.2.1 n.2.2 = some r) (fun n => n.1) (fun n => [(0, raw v2), (1, rd (kint .i64) a3), (2, rd (kint .i64) b4), (3, fn2 Tryz.prog kAction kAction (kint .i64) cmp5), (8, rd (kint .i64) i9), (9, rd (kint .i64) n.2.2)]) (fun n => [(0, Row v2 121 kAction n.2.1)]) (fuel0, l8, i9) ⟨trivial, h⟩ ⟨rfl, ⟨rfl, rfl, rfl, rfl, rfl, rfl, trivial⟩, ⟨rfl, trivial⟩⟩ ?_
      rintro ⟨m15, l13, j14⟩ ⟨hsf2, h⟩
      change True at hsf2
      change F_slices_insertionSortCmpFunc_Action_l2 a3 cmp5 go1 i9 m15 l13 j14 = some r at h
      change AW _ _ _ ⟨slots [(0, raw v2), (1, rd (kint .i64) a3), (2, rd (kint .i64) b4), (3, fn2 Tryz.prog kAction kAction (kint .i64) cmp5), (8, rd (kint .i64) i9), (9, rd (kint .i64) j14)], ress [(0, Row v2 121 kAction l13)], _⟩
      cases m15 with
      | zero => cases h
      | succ m15 =>
        unfold F_slices_insertionSortCmpFunc_Action_l2 at h
        generalize hgo2 : F_slices_insertionSortCmpFunc_Action_l2 a3 cmp5 go1 i9 m15 = go2 at h
        refine AW.seq <| AW.seq ?_
        obtain ⟨e16, he16, h⟩ := bsome h
        obtain ⟨e17, he17, h⟩ := bsome h
        obtain ⟨x18, hx18, h⟩ := bsome h
        refine AW.regionAny [⟨[9], [18], [], []⟩, ⟨[1], [19], [], []⟩, ⟨[18, 19], [20], [], []⟩, ⟨[20], [21], [], []⟩, ⟨[3, 21], [22], [], []⟩, ⟨[0, 21], [23], [], []⟩, ⟨[9, 21], [24], [], []⟩, ⟨[23, 24, 21], [25], [0], []⟩, ⟨[25, 21], [26], [0], []⟩, ⟨[0, 21], [27], [], []⟩, ⟨[9, 21], [28], [], []⟩, ⟨[28, 21], [29], [], []⟩, ⟨[27, 29, 21], [30], [0], []⟩, ⟨[30, 21], [31], [0], []⟩, ⟨[22, 26, 31, 21], [32], [], []⟩, ⟨[32, 21], [33], [], []⟩, ⟨[33, 21], [34], [], []⟩] mixed (by kernel_rfl) <| SMd rfl <| SMd rfl <| Sc (lo [18, 19] [] rfl fun S hs hr => op_gtr rfl rfl (vh hs 18 rfl rfl) (vh hs 19 rfl rfl)) rfl <| SMd rfl <| Sc (lg [3, 21] [] rfl fun hq S hs hr => op_move (A := fn2 Tryz.prog kAction kAction (kint .i64) cmp5) rfl rfl (vh hs 3 rfl rfl)) rfl <| Sc (lg [0, 21] [] rfl fun hq S hs hr => op_move (A := raw v2) rfl rfl (vh hs 0 rfl rfl)) rfl <| Sc (lg [9, 21] [] rfl fun hq S hs hr => op_move (A := rd (kint .i64) j14) rfl rfl (vh hs 9 rfl rfl)) rfl <| Sc (lg [23, 24, 21] [0] rfl fun hq S hs hr => op_indexo' 0 rfl rfl sl122 (vgt ((hs 23 rfl).trans rfl) hq) ((hr 0 rfl).trans rfl) (vgt ((hs 24 rfl).trans rfl) hq) (opt_t he16 hq)) rfl <| Sc (lg [25, 21] [0] rfl fun hq S hs hr => op_loado' 0 rfl rfl ty121 (vgt ((hs 25 rfl).trans rfl) hq) ((hr 0 rfl).trans rfl) (lget_of (opt_t he16 hq)).2) rfl <| Sc (lg [0, 21] [] rfl fun hq S hs hr => op_move (A := raw v2) rfl rfl (vh hs 0 rfl rfl)) rfl <| Sc (lg [9, 21] [] rfl fun hq S hs hr => op_move (A := rd (kint .i64) j14) rfl rfl (vh hs 9 rfl rfl)) rfl <| Sc (lg [28, 21] [] rfl fun hq S hs hr => op_sub rfl rfl (vgt ((hs 28 rfl).trans rfl) hq) (vk rfl)) rfl <| Sc (lg [27, 29, 21] [0] rfl fun hq S hs hr => op_indexo' 0 rfl rfl sl122 (vgt ((hs 27 rfl).trans rfl) hq) ((hr 0 rfl).trans rfl) (vgt ((hs 29 rfl).trans rfl) hq) (opt_t he17 hq)) rfl <| Sc (lg [30, 21] [0] rfl fun hq S hs hr => op_loado' 0 rfl rfl ty121 (vgt ((hs 30 rfl).trans rfl) hq) ((hr 0 rfl).trans rfl) (lget_of (opt_t he17 hq)).2) rfl <| Sc (lg [22, 26, 31, 21] [] rfl fun hq S hs hr => op_call2 (opt_t hx18 hq) rfl rfl (vgt ((hs 22 rfl).trans rfl) hq) (vgt ((hs 26 rfl).trans rfl) hq) (vgt ((hs 31 rfl).trans rfl) hq)) rfl <| Sc (lg [32, 21] [] rfl fun hq S hs hr => op_lss rfl rfl (vgt ((hs 32 rfl).trans rfl) hq) (vk rfl)) rfl <| Sc (lo [33, 21] [] rfl fun S hs hr => op_all rfl rfl (vh hs 21 rfl rfl) (vh hs 33 rfl rfl)) rfl <| Cn rfl (fun hc => ?_) (fun hc => ?_)
        · have h := cond_t hc h
          refine AW.skip <| AW.seq <| AW.block <| AW.vlen 0 rfl fun hvl0_273 => ?_
          obtain ⟨e19, he19, h⟩ := bsome h
          obtain ⟨e20, he20, h⟩ := bsome h
          obtain ⟨e21, he21, h⟩ := bsome h
          obtain ⟨e22, he22, h⟩ := bsome h
          refine AW.regionAny [⟨[0], [37], [], []⟩, ⟨[9], [38], [], []⟩, ⟨[0], [39], [], []⟩, ⟨[9], [40], [], []⟩, ⟨[40], [41], [], []⟩, ⟨[0], [42], [], []⟩, ⟨[9], [43], [], []⟩, ⟨[43], [44], [], []⟩, ⟨[42, 44], [45], [], []⟩, ⟨[45], [46], [0], []⟩, ⟨[0], [47], [], []⟩, ⟨[9], [48], [], []⟩, ⟨[47, 48], [49], [], []⟩, ⟨[49], [50], [0], []⟩, ⟨[37, 38], [51], [], []⟩, ⟨[51, 46], [], [0], [0]⟩, ⟨[39, 41], [52], [], []⟩, ⟨[52, 50], [], [0], [0]⟩] mixed (by kernel_rfl) <| SMw rfl <| SMd rfl <| SMw rfl <| SMd rfl <| Sc (lo [40] [] rfl fun S hs hr => op_sub rfl rfl (vh hs 40 rfl rfl) (vk rfl)) rfl <| SMw rfl <| SMd rfl <| Sc (lo [43] [] rfl fun S hs hr => op_sub rfl rfl (vh hs 43 rfl rfl) (vk rfl)) rfl <| Sc (lo [42, 44] [] rfl fun S hs hr => op_indexoP (l := l13) hvl0_273 rfl rfl rfl sl122 (vh hs 42 rfl rfl) (vh hs 44 rfl rfl) he19) rfl <| Sc (lo [45] [0] rfl fun S hs hr => op_loado' 0 rfl rfl ty121 (vh hs 45 rfl rfl) ((hr 0 rfl).trans rfl) (lget_of he19).2) rfl <| SMw rfl <| SMd rfl <| Sc (lo [47, 48] [] rfl fun S hs hr => op_indexoP (l := l13) hvl0_273 rfl rfl rfl sl122 (vh hs 47 rfl rfl) (vh hs 48 rfl rfl) he20) rfl <| Sc (lo [49] [0] rfl fun S hs hr => op_loado' 0 rfl rfl ty121 (vh hs 49 rfl rfl) ((hr 0 rfl).trans rfl) (lget_of he20).2) rfl <| Sc (lo [37, 38] [] rfl fun S hs hr => op_indexoP (l := l13) hvl0_273 rfl rfl rfl sl122 (vh hs 37 rfl rfl) (vh hs 38 rfl rfl) he21) rfl <| Sc (locr [51, 46] [0] rfl fun S hs hr => op_storeo' 0 rfl rfl ty121 (vh hs 51 rfl rfl) ((hr 0 rfl).trans rfl) (lget_of he21).2 (vh hs 46 rfl rfl)) rfl <| Sc (lo [39, 41] [] rfl fun S hs hr => op_indexoP (l := (List.set l13 j14.toNat e19)) hvl0_273 (by simp) rfl rfl sl122 (vh hs 39 rfl rfl) (vh hs 41 rfl rfl) he22) rfl <| Sc (locr [52, 50] [0] rfl fun S hs hr => op_storeo' 0 rfl rfl ty121 (vh hs 52 rfl rfl) ((hr 0 rfl).trans rfl) (lget_of he22).2 (vh hs 50 rfl rfl)) rfl <| Rg <| Md rfl <| Ac (op_sub rfl rfl (vt rfl) (vk rfl)) rfl <| As rfl <| Nl ?_
          subst hgo2
          exact ⟨(m15, (List.set (List.set l13 j14.toNat e19) (IntKind.i64.wrap (j14 - 1)).toNat e20), (IntKind.i64.wrap (j14 - 1))), Nat.lt_succ_self _, ⟨trivial, h⟩, ⟨rfl, ⟨rfl, rfl, rfl, rfl, rfl, rfl, trivial⟩, ⟨rfl, trivial⟩⟩⟩
        · have h := cond_f hc h
          refine AW.exit <| Rg <| Md rfl <| Ac (op_add rfl rfl (vt rfl) (vk rfl)) rfl <| As rfl <| Nl ?_
          subst hgo1
          exact ⟨(m10, l13, (IntKind.i64.wrap (i9 + 1))), Nat.lt_succ_self _, ⟨trivial, h⟩, ⟨rfl, ⟨rfl, rfl, rfl, rfl, rfl, trivial⟩, ⟨rfl, trivial⟩⟩⟩
    · have h := cond_f hc h
      refine AW.exit ?_
      obtain rfl := si h
      exact ret0Y (i := 0) Tryz.results310 rfl rfl
def F_slices_swapRangeCmpFunc_Action_l1 (n5 : Int) (b4 : Int) (a3 : Int) : Nat → (List Action) → Int → Option (List Action)
  | 0, _, _ => none
  | m11 + 1, l9, i10 => (bif (decide (i10 < n5)) then (lget l9 (IntKind.i64.wrap (b4 + i10))).bind fun e12 => (lget l9 (IntKind.i64.wrap (a3 + i10))).bind fun e13 => (lget l9 (IntKind.i64.wrap (a3 + i10))).bind fun e14 => (lget (List.set l9 (IntKind.i64.wrap (a3 + i10)).toNat e12) (IntKind.i64.wrap (b4 + i10))).bind fun e15 => (F_slices_swapRangeCmpFunc_Action_l1 n5 b4 a3 m11) (List.set (List.set l9 (IntKind.i64.wrap (a3 + i10)).toNat e12) (IntKind.i64.wrap (b4 + i10)).toNat e13) (IntKind.i64.wrap (i10 + 1)) else some l9)
def F_slices_swapRangeCmpFunc_Action (data1 : (List Action)) (a3 : Int) (b4 : Int) (n5 : Int) (cmp6 : (Action → Action → Option Int)) : Option (List Action) :=
  F_slices_swapRangeCmpFunc_Action_l1 n5 b4 a3 (((n5 : Int) - 0).toNat + 1) data1 0
theorem c_slices_swapRangeCmpFunc_Action_o (v2 : Value) (data1 : (List Action)) (a3 : Int) (b4 : Int) (n5 : Int) (cmp6 : (Action → Action → Option Int)) (r : (List Action)) (h : F_slices_swapRangeCmpFunc_Action data1 a3 b4 n5 cmp6 = some r) : Con Tryz.prog 343 [raw v2, rd (kint .i64) a3, rd (kint .i64) b4, rd (kint .i64) n5, fn2 Tryz.prog kAction kAction (kint .i64) cmp6] (Row v2 121 kAction data1) (fun _ : Unit => top) (fun _ => Row v2 121 kAction r) := by
  refine Con.intro Tryz.func343 rfl Tryz.ntmps343 rfl fun w H X => ?_
  unfold F_slices_swapRangeCmpFunc_Action at h
  refine SR <| Ak rfl <| Nl <| AW.block <| AW.loopG (d := []) (ν := Nat × (List Action) × Int) (fun n => True ∧ F_slices_swapRangeCmpFunc_Action_l1 n5 b4 a3 n.1 n.2.1 n.2.2 = some r) (fun n => n.1) (fun n => [(0, raw v2), (1, rd (kint .i64) a3), (2, rd (kint .i64) b4), (3, rd (kint .i64) n5), (10, rd (kint .i64) n.2.2)]) (fun n => [(0, Row v2 121 kAction n.2.1)]) ((((n5 : Int) - 0).toNat + 1), data1, 0) ⟨trivial, h⟩ ⟨rfl, ⟨rfl, rfl, rfl, rfl, rfl, trivial⟩, ⟨rfl, trivial⟩⟩ ?_
  rintro ⟨m11, l9, i10⟩ ⟨hsf1, h⟩
  change True at hsf1
  change F_slices_swapRangeCmpFunc_Action_l1 n5 b4 a3 m11 l9 i10 = some r at h
  change AW _ _ _ ⟨slots [(0, raw v2), (1, rd (kint .i64) a3), (2, rd (kint .i64) b4), (3, rd (kint .i64) n5), (10, rd (kint .i64) i10)], ress [(0, Row v2 121 kAction l9)], _⟩
  cases m11 with
  | zero => cases h
  | succ m11 =>
    unfold F_slices_swapRangeCmpFunc_Action_l1 at h
    generalize hgo1 : F_slices_swapRangeCmpFunc_Action_l1 n5 b4 a3 m11 = go1 at h
    refine AW.seq <| SR <| Md rfl <| Md rfl <| Ac (op_lss rfl rfl (vt rfl) (vt rfl)) rfl <| Nl <| Cn rfl (fun hc => ?_) (fun hc => ?_)
    · have h := cond_t hc h
      refine AW.skip <| AW.seq <| AW.block <| AW.vlen 0 rfl fun hvl0_127 => ?_
      obtain ⟨e12, he12, h⟩ := bsome h
      obtain ⟨e13, he13, h⟩ := bsome h
      obtain ⟨e14, he14, h⟩ := bsome h
      obtain ⟨e15, he15, h⟩ := bsome h
      refine AW.regionAny [⟨[0], [16], [], []⟩, ⟨[1], [17], [], []⟩, ⟨[10], [18], [], []⟩, ⟨[17, 18], [19], [], []⟩, ⟨[0], [20], [], []⟩, ⟨[2], [21], [], []⟩, ⟨[10], [22], [], []⟩, ⟨[21, 22], [23], [], []⟩, ⟨[0], [24], [], []⟩, ⟨[2], [25], [], []⟩, ⟨[10], [26], [], []⟩, ⟨[25, 26], [27], [], []⟩, ⟨[24, 27], [28], [], []⟩, ⟨[28], [29], [0], []⟩, ⟨[0], [30], [], []⟩, ⟨[1], [31], [], []⟩, ⟨[10], [32], [], []⟩, ⟨[31, 32], [33], [], []⟩, ⟨[30, 33], [34], [], []⟩, ⟨[34], [35], [0], []⟩, ⟨[16, 19], [36], [], []⟩, ⟨[36, 29], [], [0], [0]⟩, ⟨[20, 23], [37], [], []⟩, ⟨[37, 35], [], [0], [0]⟩] mixed (by kernel_rfl) <| SMw rfl <| SMd rfl <| SMd rfl <| Sc (lo [17, 18] [] rfl fun S hs hr => op_add rfl rfl (vh hs 17 rfl rfl) (vh hs 18 rfl rfl)) rfl <| SMw rfl <| SMd rfl <| SMd rfl <| Sc (lo [21, 22] [] rfl fun S hs hr => op_add rfl rfl (vh hs 21 rfl rfl) (vh hs 22 rfl rfl)) rfl <| SMw rfl <| SMd rfl <| SMd rfl <| Sc (lo [25, 26] [] rfl fun S hs hr => op_add rfl rfl (vh hs 25 rfl rfl) (vh hs 26 rfl rfl)) rfl <| Sc (lo [24, 27] [] rfl fun S hs hr => op_indexoP (l := l9) hvl0_127 rfl rfl rfl sl122 (vh hs 24 rfl rfl) (vh hs 27 rfl rfl) he12) rfl <| Sc (lo [28] [0] rfl fun S hs hr => op_loado' 0 rfl rfl ty121 (vh hs 28 rfl rfl) ((hr 0 rfl).trans rfl) (lget_of he12).2) rfl <| SMw rfl <| SMd rfl <| SMd rfl <| Sc (lo [31, 32] [] rfl fun S hs hr => op_add rfl rfl (vh hs 31 rfl rfl) (vh hs 32 rfl rfl)) rfl <| Sc (lo [30, 33] [] rfl fun S hs hr => op_indexoP (l := l9) hvl0_127 rfl rfl rfl sl122 (vh hs 30 rfl rfl) (vh hs 33 rfl rfl) he13) rfl <| Sc (lo [34] [0] rfl fun S hs hr => op_loado' 0 rfl rfl ty121 (vh hs 34 rfl rfl) ((hr 0 rfl).trans rfl) (lget_of he13).2) rfl <| Sc (lo [16, 19] [] rfl fun S hs hr => op_indexoP (l := l9) hvl0_127 rfl rfl rfl sl122 (vh hs 16 rfl rfl) (vh hs 19 rfl rfl) he14) rfl <| Sc (locr [36, 29] [0] rfl fun S hs hr => op_storeo' 0 rfl rfl ty121 (vh hs 36 rfl rfl) ((hr 0 rfl).trans rfl) (lget_of he14).2 (vh hs 29 rfl rfl)) rfl <| Sc (lo [20, 23] [] rfl fun S hs hr => op_indexoP (l := (List.set l9 (IntKind.i64.wrap (a3 + i10)).toNat e12)) hvl0_127 (by simp) rfl rfl sl122 (vh hs 20 rfl rfl) (vh hs 23 rfl rfl) he15) rfl <| Sc (locr [37, 35] [0] rfl fun S hs hr => op_storeo' 0 rfl rfl ty121 (vh hs 37 rfl rfl) ((hr 0 rfl).trans rfl) (lget_of he15).2 (vh hs 35 rfl rfl)) rfl <| Rg <| Md rfl <| Ac (op_add rfl rfl (vt rfl) (vk rfl)) rfl <| As rfl <| Nl ?_
      subst hgo1
      exact ⟨(m11, (List.set (List.set l9 (IntKind.i64.wrap (a3 + i10)).toNat e12) (IntKind.i64.wrap (b4 + i10)).toNat e13), (IntKind.i64.wrap (i10 + 1))), Nat.lt_succ_self _, ⟨trivial, h⟩, ⟨rfl, ⟨rfl, rfl, rfl, rfl, rfl, trivial⟩, ⟨rfl, trivial⟩⟩⟩
    · have h := cond_f hc h
      refine AW.exit ?_
      obtain rfl := si h
      exact ret0Y (i := 0) Tryz.results343 rfl rfl
def F_slices_rotateCmpFunc_Action_l1 (m4 : Int) (cmp6 : (Action → Action → Option Int)) : Nat → (List Action) → Int → Int → Option (List Action)
  | 0, _, _, _ => none
  | m13 + 1, l10, i11, j12 => (bif (decide (i11 ≠ j12)) then (bif (decide (i11 > j12)) then (F_slices_swapRangeCmpFunc_Action l10 (IntKind.i64.wrap (m4 - i11)) m4 j12 cmp6).bind fun l14 => (F_slices_rotateCmpFunc_Action_l1 m4 cmp6 m13) l14 (IntKind.i64.wrap (i11 - j12)) j12 else (F_slices_swapRangeCmpFunc_Action l10 (IntKind.i64.wrap (m4 - i11)) (IntKind.i64.wrap ((IntKind.i64.wrap (m4 + j12)) - i11)) i11 cmp6).bind fun l15 => (F_slices_rotateCmpFunc_Action_l1 m4 cmp6 m13) l15 i11 (IntKind.i64.wrap (j12 - i11))) else (F_slices_swapRangeCmpFunc_Action l10 (IntKind.i64.wrap (m4 - i11)) m4 i11 cmp6).bind fun l16 => some l16)
def F_slices_rotateCmpFunc_Action (data1 : (List Action)) (a3 : Int) (m4 : Int) (b5 : Int) (cmp6 : (Action → Action → Option Int)) : Option (List Action) :=
  F_slices_rotateCmpFunc_Action_l1 m4 cmp6 fuel0 data1 (IntKind.i64.wrap (m4 - a3)) (IntKind.i64.wrap (b5 - m4))
theorem c_slices_rotateCmpFunc_Action_o (v2 : Value) (data1 : (List Action)) (a3 : Int) (m4 : Int) (b5 : Int) (cmp6 : (Action → Action → Option Int)) (r : (List Action)) (h : F_slices_rotateCmpFunc_Action data1 a3 m4 b5 cmp6 = some r) : Con Tryz.prog 335 [raw v2, rd (kint .i64) a3, rd (kint .i64) m4, rd (kint .i64) b5, fn2 Tryz.prog kAction kAction (kint .i64) cmp6] (Row v2 121 kAction data1) (fun _ : Unit => top) (fun _ => Row v2 121 kAction r) := by
  refine Con.intro Tryz.func335 rfl Tryz.ntmps335 rfl fun w H X => ?_
  unfold F_slices_rotateCmpFunc_Action at h
  refine SR <| Md rfl <| Md rfl <| Ac (op_sub rfl rfl (vt rfl) (vt rfl)) rfl <| As rfl <| Nl <| SR <| Md rfl <| Md rfl <| Ac (op_sub rfl rfl (vt rfl) (vt rfl)) rfl <| As rfl <| Nl <| AW.seq <| AW.block <| AW.loopG (d := []) (ν := Nat × (List Action) × Int × Int) (fun n => True ∧ F_slices_rotateCmpFunc_Action_l1 m4 cmp6 n.1 n.2.1 n.2.2.1 n.2.2.2 = some r) (fun n => n.1) (fun n => [(0, raw v2), (2, rd (kint .i64) m4), (4, fn2 Tryz.prog kAction kAction (kint .i64) cmp6), (10, rd (kint .i64) n.2.2.1), (11, rd (kint .i64) n.2.2.2)]) (fun n => [(0, Row v2 121 kAction n.2.1)]) (fuel0, data1, (IntKind.i64.wrap (m4 - a3)), (IntKind.i64.wrap (b5 - m4))) ⟨trivial, h⟩ ⟨rfl, ⟨rfl, rfl, rfl, rfl, rfl, trivial⟩, ⟨rfl, trivial⟩⟩ ?_
  rintro ⟨m13, l10, i11, j12⟩ ⟨hsf1, h⟩
  change True at hsf1
  change F_slices_rotateCmpFunc_Action_l1 m4 cmp6 m13 l10 i11 j12 = some r at h
  change AW _ _ _ ⟨slots [(0, raw v2), (2, rd (kint .i64) m4), (4, fn2 Tryz.prog kAction kAction (kint .i64) cmp6), (10, rd (kint .i64) i11), (11, rd (kint .i64) j12)], ress [(0, Row v2 121 kAction l10)], _⟩
  cases m13 with
  | zero => cases h
  | succ m13 =>
    unfold F_slices_rotateCmpFunc_Action_l1 at h
    generalize hgo1 : F_slices_rotateCmpFunc_Action_l1 m4 cmp6 m13 = go1 at h
    refine AW.seq <| SR <| Md rfl <| Md rfl <| Ac (op_neq rfl rfl (vt rfl) (vt rfl)) rfl <| Nl <| Cn rfl (fun hc => ?_) (fun hc => ?_)
    · have h := cond_t hc h
      refine AW.skip <| AW.block <| SR <| Md rfl <| Md rfl <| Ac (op_gtr rfl rfl (vt rfl) (vt rfl)) rfl <| Nl <| Cn rfl (fun hc => ?_) (fun hc => ?_)
      · have h := cond_t hc h
        refine AW.seq ?_
        obtain ⟨l14, hl14, h⟩ := bsome h
        refine Rg <| Mw rfl <| Md rfl <| Md rfl <| Ac (op_sub rfl rfl (vt rfl) (vt rfl)) rfl <| Md rfl <| Md rfl <| Ac (op_move (A := fn2 Tryz.prog kAction kAction (kint .i64) cmp6) rfl rfl (vt rfl)) rfl <| Ct rfl (op_callR 0 (xs := [.tmp 24, .tmp 27, .tmp 28, .tmp 29, .tmp 30]) (c_slices_swapRangeCmpFunc_Action_o _ _ _ _ _ _ _ hl14) e343 rfl rfl ⟨vt rfl, vt rfl, vt rfl, vt rfl, vt rfl, trivial⟩ rfl) ?_
        rintro _ ⟨_u, rfl⟩
        refine Nl <| Rg <| Md rfl <| Md rfl <| Ac (op_sub rfl rfl (vt rfl) (vt rfl)) rfl <| As rfl <| Nl ?_
        subst hgo1
        exact ⟨(m13, l14, (IntKind.i64.wrap (i11 - j12)), j12), Nat.lt_succ_self _, ⟨trivial, h⟩, ⟨rfl, ⟨rfl, rfl, rfl, rfl, rfl, trivial⟩, ⟨rfl, trivial⟩⟩⟩
      · have h := cond_f hc h
        refine AW.seq ?_
        obtain ⟨l15, hl15, h⟩ := bsome h
        refine Rg <| Mw rfl <| Md rfl <| Md rfl <| Ac (op_sub rfl rfl (vt rfl) (vt rfl)) rfl <| Md rfl <| Md rfl <| Ac (op_add rfl rfl (vt rfl) (vt rfl)) rfl <| Md rfl <| Ac (op_sub rfl rfl (vt rfl) (vt rfl)) rfl <| Md rfl <| Ac (op_move (A := fn2 Tryz.prog kAction kAction (kint .i64) cmp6) rfl rfl (vt rfl)) rfl <| Ct rfl (op_callR 0 (xs := [.tmp 35, .tmp 38, .tmp 43, .tmp 44, .tmp 45]) (c_slices_swapRangeCmpFunc_Action_o _ _ _ _ _ _ _ hl15) e343 rfl rfl ⟨vt rfl, vt rfl, vt rfl, vt rfl, vt rfl, trivial⟩ rfl) ?_
        rintro _ ⟨_u, rfl⟩
        refine Nl <| Rg <| Md rfl <| Md rfl <| Ac (op_sub rfl rfl (vt rfl) (vt rfl)) rfl <| As rfl <| Nl ?_
        subst hgo1
        exact ⟨(m13, l15, i11, (IntKind.i64.wrap (j12 - i11))), Nat.lt_succ_self _, ⟨trivial, h⟩, ⟨rfl, ⟨rfl, rfl, rfl, rfl, rfl, trivial⟩, ⟨rfl, trivial⟩⟩⟩
    · have h := cond_f hc h
      refine AW.exit ?_
      obtain ⟨l16, hl16, h⟩ := bsome h
      refine Rg <| Mw rfl <| Md rfl <| Md rfl <| Ac (op_sub rfl rfl (vt rfl) (vt rfl)) rfl <| Md rfl <| Md rfl <| Ac (op_move (A := fn2 Tryz.prog kAction kAction (kint .i64) cmp6) rfl rfl (vt rfl)) rfl <| Ct rfl (op_callR 0 (xs := [.tmp 50, .tmp 53, .tmp 54, .tmp 55, .tmp 56]) (c_slices_swapRangeCmpFunc_Action_o _ _ _ _ _ _ _ hl16) e343 rfl rfl ⟨vt rfl, vt rfl, vt rfl, vt rfl, vt rfl, trivial⟩ rfl) ?_
      rintro _ ⟨_u, rfl⟩
      refine Nl ?_
      obtain rfl := si h
      exact ret0Y (i := 0) Tryz.results335 rfl rfl
def F_slices_symMergeCmpFunc_Action_s_l2 (i9 : Int) : Nat → (List Action) → Int → Option (List Action)
  | 0, _, _ => none
  | m20 + 1, l18, k19 => (bif (decide (k19 < (IntKind.i64.wrap (i9 - 1)))) then (lget l18 (IntKind.i64.wrap (k19 + 1))).bind fun e21 => (lget l18 k19).bind fun e22 => (lget l18 k19).bind fun e23 => (lget (List.set l18 k19.toNat e21) (IntKind.i64.wrap (k19 + 1))).bind fun e24 => (F_slices_symMergeCmpFunc_Action_s_l2 i9 m20) (List.set (List.set l18 k19.toNat e21) (IntKind.i64.wrap (k19 + 1)).toNat e22) (IntKind.i64.wrap (k19 + 1)) else some l18)
def F_slices_symMergeCmpFunc_Action_s_l1 (data1 : (List Action)) (a3 : Int) (cmp6 : (Action → Action → Option Int)) : Nat → Int → Int → Option (List Action)
  | 0, _, _ => none
  | m11 + 1, i9, j10 => (bif (decide (i9 < j10)) then (oushr (BitVec.ofInt 64 (IntKind.i64.wrap (i9 + j10))) ((1 : BitVec 64).toNat : Int)).bind fun q12 => (lget data1 (IntKind.i64.wrap (q12.toNat : Int))).bind fun e13 => (lget data1 a3).bind fun e14 => (cmp6 e13 e14).bind fun x15 => (bif (decide (x15 < 0)) then (F_slices_symMergeCmpFunc_Action_s_l1 data1 a3 cmp6 m11) (IntKind.i64.wrap ((IntKind.i64.wrap (q12.toNat : Int)) + 1)) j10 else (F_slices_symMergeCmpFunc_Action_s_l1 data1 a3 cmp6 m11) i9 (IntKind.i64.wrap (q12.toNat : Int))) else F_slices_symMergeCmpFunc_Action_s_l2 i9 ((((IntKind.i64.wrap (i9 - 1)) : Int) - a3).toNat + 1) data1 a3)
def F_slices_symMergeCmpFunc_Action_s_l4 (i27 : Int) : Nat → (List Action) → Int → Option (List Action)
  | 0, _, _ => none
  | m38 + 1, l36, k37 => (bif (decide (k37 > i27)) then (lget l36 (IntKind.i64.wrap (k37 - 1))).bind fun e39 => (lget l36 k37).bind fun e40 => (lget l36 k37).bind fun e41 => (lget (List.set l36 k37.toNat e39) (IntKind.i64.wrap (k37 - 1))).bind fun e42 => (F_slices_symMergeCmpFunc_Action_s_l4 i27 m38) (List.set (List.set l36 k37.toNat e39) (IntKind.i64.wrap (k37 - 1)).toNat e40) (IntKind.i64.wrap (k37 - 1)) else some l36)
def F_slices_symMergeCmpFunc_Action_s_l3 (data1 : (List Action)) (m4 : Int) (cmp6 : (Action → Action → Option Int)) : Nat → Int → Int → Option (List Action)
  | 0, _, _ => none
  | m29 + 1, i27, j28 => (bif (decide (i27 < j28)) then (oushr (BitVec.ofInt 64 (IntKind.i64.wrap (i27 + j28))) ((1 : BitVec 64).toNat : Int)).bind fun q30 => (lget data1 m4).bind fun e31 => (lget data1 (IntKind.i64.wrap (q30.toNat : Int))).bind fun e32 => (cmp6 e31 e32).bind fun x33 => (bif (!(decide (x33 < 0))) then (F_slices_symMergeCmpFunc_Action_s_l3 data1 m4 cmp6 m29) (IntKind.i64.wrap ((IntKind.i64.wrap (q30.toNat : Int)) + 1)) j28 else (F_slices_symMergeCmpFunc_Action_s_l3 data1 m4 cmp6 m29) i27 (IntKind.i64.wrap (q30.toNat : Int))) else F_slices_symMergeCmpFunc_Action_s_l4 i27 (((m4 : Int) - i27).toNat + 1) data1 m4)
def F_slices_symMergeCmpFunc_Action_s_j8 (q43 : (BitVec 64)) (m4 : Int) (start48 : Int) (b5 : Int) (R_slices_symMergeCmpFunc_Action : ((List Action) → Int → Int → Int → (Action → Action → Option Int) → Option (List Action))) (cmp6 : (Action → Action → Option Int)) (l56 : (List Action)) : Option (List Action) :=
  (bif ((decide ((IntKind.i64.wrap (q43.toNat : Int)) < (IntKind.i64.wrap ((IntKind.i64.wrap ((IntKind.i64.wrap (q43.toNat : Int)) + m4)) - start48)))) && (decide ((IntKind.i64.wrap ((IntKind.i64.wrap ((IntKind.i64.wrap (q43.toNat : Int)) + m4)) - start48)) < b5))) then (R_slices_symMergeCmpFunc_Action l56 (IntKind.i64.wrap (q43.toNat : Int)) (IntKind.i64.wrap ((IntKind.i64.wrap ((IntKind.i64.wrap (q43.toNat : Int)) + m4)) - start48)) b5 cmp6).bind fun l57 => some l57 else some l56)
def F_slices_symMergeCmpFunc_Action_s_j7 (a3 : Int) (start48 : Int) (q43 : (BitVec 64)) (R_slices_symMergeCmpFunc_Action : ((List Action) → Int → Int → Int → (Action → Action → Option Int) → Option (List Action))) (cmp6 : (Action → Action → Option Int)) (m4 : Int) (b5 : Int) (l55 : (List Action)) : Option (List Action) :=
  (bif ((decide (a3 < start48)) && (decide (start48 < (IntKind.i64.wrap (q43.toNat : Int))))) then (R_slices_symMergeCmpFunc_Action l55 a3 start48 (IntKind.i64.wrap (q43.toNat : Int)) cmp6).bind fun l58 => F_slices_symMergeCmpFunc_Action_s_j8 q43 m4 start48 b5 R_slices_symMergeCmpFunc_Action cmp6 l58 else F_slices_symMergeCmpFunc_Action_s_j8 q43 m4 start48 b5 R_slices_symMergeCmpFunc_Action cmp6 l55)
def F_slices_symMergeCmpFunc_Action_s_l6 (data1 : (List Action)) (q43 : (BitVec 64)) (m4 : Int) (cmp6 : (Action → Action → Option Int)) (a3 : Int) (R_slices_symMergeCmpFunc_Action : ((List Action) → Int → Int → Int → (Action → Action → Option Int) → Option (List Action))) (b5 : Int) : Nat → Int → Int → Option (List Action)
  | 0, _, _ => none
  | m50 + 1, start48, r49 => (bif (decide (start48 < r49)) then (oushr (BitVec.ofInt 64 (IntKind.i64.wrap (start48 + r49))) ((1 : BitVec 64).toNat : Int)).bind fun q51 => (lget data1 (IntKind.i64.wrap ((IntKind.i64.wrap ((IntKind.i64.wrap ((IntKind.i64.wrap (q43.toNat : Int)) + m4)) - 1)) - (IntKind.i64.wrap (q51.toNat : Int))))).bind fun e52 => (lget data1 (IntKind.i64.wrap (q51.toNat : Int))).bind fun e53 => (cmp6 e52 e53).bind fun x54 => (bif (!(decide (x54 < 0))) then (F_slices_symMergeCmpFunc_Action_s_l6 data1 q43 m4 cmp6 a3 R_slices_symMergeCmpFunc_Action b5 m50) (IntKind.i64.wrap ((IntKind.i64.wrap (q51.toNat : Int)) + 1)) r49 else (F_slices_symMergeCmpFunc_Action_s_l6 data1 q43 m4 cmp6 a3 R_slices_symMergeCmpFunc_Action b5 m50) start48 (IntKind.i64.wrap (q51.toNat : Int))) else (bif ((decide (start48 < m4)) && (decide (m4 < (IntKind.i64.wrap ((IntKind.i64.wrap ((IntKind.i64.wrap (q43.toNat : Int)) + m4)) - start48))))) then (F_slices_rotateCmpFunc_Action data1 start48 m4 (IntKind.i64.wrap ((IntKind.i64.wrap ((IntKind.i64.wrap (q43.toNat : Int)) + m4)) - start48)) cmp6).bind fun l59 => F_slices_symMergeCmpFunc_Action_s_j7 a3 start48 q43 R_slices_symMergeCmpFunc_Action cmp6 m4 b5 l59 else F_slices_symMergeCmpFunc_Action_s_j7 a3 start48 q43 R_slices_symMergeCmpFunc_Action cmp6 m4 b5 data1))
def F_slices_symMergeCmpFunc_Action_s_j5 (data1 : (List Action)) (q43 : (BitVec 64)) (m4 : Int) (cmp6 : (Action → Action → Option Int)) (a3 : Int) (R_slices_symMergeCmpFunc_Action : ((List Action) → Int → Int → Int → (Action → Action → Option Int) → Option (List Action))) (b5 : Int) (start44 : Int) (r45 : Int) : Option (List Action) :=
  F_slices_symMergeCmpFunc_Action_s_l6 data1 q43 m4 cmp6 a3 R_slices_symMergeCmpFunc_Action b5 (((r45 : Int) - start44).toNat + 1) start44 r45
def F_slices_symMergeCmpFunc_Action_s (R_slices_symMergeCmpFunc_Action : ((List Action) → Int → Int → Int → (Action → Action → Option Int) → Option (List Action))) (data1 : (List Action)) (a3 : Int) (m4 : Int) (b5 : Int) (cmp6 : (Action → Action → Option Int)) : Option (List Action) :=
  (bif (decide ((IntKind.i64.wrap (m4 - a3)) = 1)) then F_slices_symMergeCmpFunc_Action_s_l1 data1 a3 cmp6 (((b5 : Int) - m4).toNat + 1) m4 b5 else (bif (decide ((IntKind.i64.wrap (b5 - m4)) = 1)) then F_slices_symMergeCmpFunc_Action_s_l3 data1 m4 cmp6 (((m4 : Int) - a3).toNat + 1) a3 m4 else (oushr (BitVec.ofInt 64 (IntKind.i64.wrap (a3 + b5))) ((1 : BitVec 64).toNat : Int)).bind fun q43 => (bif (decide (m4 > (IntKind.i64.wrap (q43.toNat : Int)))) then F_slices_symMergeCmpFunc_Action_s_j5 data1 q43 m4 cmp6 a3 R_slices_symMergeCmpFunc_Action b5 (IntKind.i64.wrap ((IntKind.i64.wrap ((IntKind.i64.wrap (q43.toNat : Int)) + m4)) - b5)) (IntKind.i64.wrap (q43.toNat : Int)) else F_slices_symMergeCmpFunc_Action_s_j5 data1 q43 m4 cmp6 a3 R_slices_symMergeCmpFunc_Action b5 a3 m4)))
theorem c_slices_symMergeCmpFunc_Action_s (R_slices_symMergeCmpFunc_Action : ((List Action) → Int → Int → Int → (Action → Action → Option Int) → Option (List Action))) (hR_slices_symMergeCmpFunc_Action : ∀ (v2 : Value) (data1 : (List Action)) (a3 : Int) (m4 : Int) (b5 : Int) (cmp6 : (Action → Action → Option Int)) (r : (List Action)), R_slices_symMergeCmpFunc_Action data1 a3 m4 b5 cmp6 = some r → Con Tryz.prog 311 [raw v2, rd (kint .i64) a3, rd (kint .i64) m4, rd (kint .i64) b5, fn2 Tryz.prog kAction kAction (kint .i64) cmp6] (Row v2 121 kAction data1) (fun _ : Unit => top) (fun _ => Row v2 121 kAction r)) (v2 : Value) (data1 : (List Action)) (a3 : Int) (m4 : Int) (b5 : Int) (cmp6 : (Action → Action → Option Int)) (r : (List Action)) (h : F_slices_symMergeCmpFunc_Action_s R_slices_symMergeCmpFunc_Action data1 a3 m4 b5 cmp6 = some r) : Con Tryz.prog 311 [raw v2, rd (kint .i64) a3, rd (kint .i64) m4, rd (kint .i64) b5, fn2 Tryz.prog kAction kAction (kint .i64) cmp6] (Row v2 121 kAction data1) (fun _ : Unit => top) (fun _ => Row v2 121 kAction r) := by
  refine Con.intro Tryz.func311 rfl Tryz.ntmps311 rfl fun w H X => ?_
  unfold F_slices_symMergeCmpFunc_Action_s at h
  refine AW.seq <| SR <| Md rfl <| Md rfl <| Ac (op_sub rfl rfl (vt rfl) (vt rfl)) rfl <| Ac (op_eql rfl rfl (vt rfl) (vk rfl)) rfl <| Nl <| Cn rfl (fun hc => ?_) (fun hc => ?_)
  · have h := cond_t hc h
    refine SR <| Md rfl <| As rfl <| Nl <| SR <| Md rfl <| As rfl <| Nl <| AW.seq <| AW.block <| AW.loopG (d := []) (ν := Nat × Int × Int) (fun n => True ∧ F_slices_symMergeCmpFunc_Action_s_l1 data1 a3 cmp6 n.1 n.2.1 n.2.2 = some r) (fun n => n.1) (fun n => [(0, raw v2), (1, rd (kint .i64) a3), (4, fn2 Tryz.prog kAction kAction (kint .i64) cmp6), (10, rd (kint .i64) n.2.1), (11, rd (kint .i64) n.2.2)]) (fun n => [(0, Row v2 121 kAction data1)]) ((((b5 : Int) - m4).toNat + 1), m4, b5) ⟨trivial, h⟩ ⟨rfl, ⟨rfl, rfl, rfl, rfl, rfl, trivial⟩, ⟨rfl, trivial⟩⟩ ?_
    rintro ⟨m11, i9, j10⟩ ⟨hsf1, h⟩
    change True at hsf1
    change F_slices_symMergeCmpFunc_Action_s_l1 data1 a3 cmp6 m11 i9 j10 = some r at h
    change AW _ _ _ ⟨slots [(0, raw v2), (1, rd (kint .i64) a3), (4, fn2 Tryz.prog kAction kAction (kint .i64) cmp6), (10, rd (kint .i64) i9), (11, rd (kint .i64) j10)], ress [(0, Row v2 121 kAction data1)], _⟩
    cases m11 with
    | zero => cases h
    | succ m11 =>
      unfold F_slices_symMergeCmpFunc_Action_s_l1 at h
      generalize hgo1 : F_slices_symMergeCmpFunc_Action_s_l1 data1 a3 cmp6 m11 = go1 at h
      refine AW.seq <| SR <| Md rfl <| Md rfl <| Ac (op_lss rfl rfl (vt rfl) (vt rfl)) rfl <| Nl <| Cn rfl (fun hc => ?_) (fun hc => ?_)
      · have h := cond_t hc h
        refine AW.skip <| AW.block <| AW.seq ?_
        obtain ⟨q12, hq12, h⟩ := bsome h
        refine Rg <| Md rfl <| Md rfl <| Ac (op_add rfl rfl (vt rfl) (vt rfl)) rfl <| Ac (op_convu rfl rfl us3 un360 (vt rfl)) rfl <| Ac (op_ushr rfl rfl (vt rfl) (vu64 (vku (1 : BitVec 64) rfl)) hq12) rfl <| Ac (op_uconv rfl rfl us360 un3 (vt rfl)) rfl <| As rfl <| Nl <| AW.seq ?_
        obtain ⟨e13, he13, h⟩ := bsome h
        obtain ⟨e14, he14, h⟩ := bsome h
        obtain ⟨x15, hx15, h⟩ := bsome h
        refine AW.regionAny [⟨[4], [40], [], []⟩, ⟨[0], [41], [], []⟩, ⟨[12], [42], [], []⟩, ⟨[41, 42], [43], [0], []⟩, ⟨[43], [44], [0], []⟩, ⟨[0], [45], [], []⟩, ⟨[1], [46], [], []⟩, ⟨[45, 46], [47], [0], []⟩, ⟨[47], [48], [0], []⟩, ⟨[40, 44, 48], [49], [], []⟩, ⟨[49], [50], [], []⟩] mixed (by kernel_rfl) <| Sc (lo [4] [] rfl fun S hs hr => op_move (A := fn2 Tryz.prog kAction kAction (kint .i64) cmp6) rfl rfl (vh hs 4 rfl rfl)) rfl <| SMw rfl <| SMd rfl <| Sc (lo [41, 42] [0] rfl fun S hs hr => op_indexo' 0 rfl rfl sl122 (vh hs 41 rfl rfl) ((hr 0 rfl).trans rfl) (vh hs 42 rfl rfl) he13) rfl <| Sc (lo [43] [0] rfl fun S hs hr => op_loado' 0 rfl rfl ty121 (vh hs 43 rfl rfl) ((hr 0 rfl).trans rfl) (lget_of he13).2) rfl <| SMw rfl <| SMd rfl <| Sc (lo [45, 46] [0] rfl fun S hs hr => op_indexo' 0 rfl rfl sl122 (vh hs 45 rfl rfl) ((hr 0 rfl).trans rfl) (vh hs 46 rfl rfl) he14) rfl <| Sc (lo [47] [0] rfl fun S hs hr => op_loado' 0 rfl rfl ty121 (vh hs 47 rfl rfl) ((hr 0 rfl).trans rfl) (lget_of he14).2) rfl <| Sc (lo [40, 44, 48] [] rfl fun S hs hr => op_call2 hx15 rfl rfl (vh hs 40 rfl rfl) (vh hs 44 rfl rfl) (vh hs 48 rfl rfl)) rfl <| Sc (lo [49] [] rfl fun S hs hr => op_lss rfl rfl (vh hs 49 rfl rfl) (vk rfl)) rfl <| Cn rfl (fun hc => ?_) (fun hc => ?_)
        · have h := cond_t hc h
          refine Rg <| Md rfl <| Ac (op_add rfl rfl (vt rfl) (vk rfl)) rfl <| As rfl <| Nl ?_
          subst hgo1
          exact ⟨(m11, (IntKind.i64.wrap ((IntKind.i64.wrap (q12.toNat : Int)) + 1)), j10), Nat.lt_succ_self _, ⟨trivial, h⟩, ⟨rfl, ⟨rfl, rfl, rfl, rfl, rfl, trivial⟩, ⟨rfl, trivial⟩⟩⟩
        · have h := cond_f hc h
          refine Rg <| Md rfl <| As rfl <| Nl ?_
          subst hgo1
          exact ⟨(m11, i9, (IntKind.i64.wrap (q12.toNat : Int))), Nat.lt_succ_self _, ⟨trivial, h⟩, ⟨rfl, ⟨rfl, rfl, rfl, rfl, rfl, trivial⟩, ⟨rfl, trivial⟩⟩⟩
      · have h := cond_f hc h
        refine AW.exit <| AW.seq <| SR <| Md rfl <| As rfl <| Nl <| AW.block <| AW.loopG (d := []) (ν := Nat × (List Action) × Int) (fun n => True ∧ F_slices_symMergeCmpFunc_Action_s_l2 i9 n.1 n.2.1 n.2.2 = some r) (fun n => n.1) (fun n => [(0, raw v2), (10, rd (kint .i64) i9), (13, rd (kint .i64) n.2.2)]) (fun n => [(0, Row v2 121 kAction n.2.1)]) (((((IntKind.i64.wrap (i9 - 1)) : Int) - a3).toNat + 1), data1, a3) ⟨trivial, h⟩ ⟨rfl, ⟨rfl, rfl, rfl, trivial⟩, ⟨rfl, trivial⟩⟩ ?_
        rintro ⟨m20, l18, k19⟩ ⟨hsf2, h⟩
        change True at hsf2
        change F_slices_symMergeCmpFunc_Action_s_l2 i9 m20 l18 k19 = some r at h
        change AW _ _ _ ⟨slots [(0, raw v2), (10, rd (kint .i64) i9), (13, rd (kint .i64) k19)], ress [(0, Row v2 121 kAction l18)], _⟩
        cases m20 with
        | zero => cases h
        | succ m20 =>
          unfold F_slices_symMergeCmpFunc_Action_s_l2 at h
          generalize hgo2 : F_slices_symMergeCmpFunc_Action_s_l2 i9 m20 = go2 at h
          refine AW.seq <| SR <| Md rfl <| Md rfl <| Ac (op_sub rfl rfl (vt rfl) (vk rfl)) rfl <| Ac (op_lss rfl rfl (vt rfl) (vt rfl)) rfl <| Nl <| Cn rfl (fun hc => ?_) (fun hc => ?_)
          · have h := cond_t hc h
            refine AW.skip <| AW.seq <| AW.block <| AW.vlen 0 rfl fun hvl0_218 => ?_
            obtain ⟨e21, he21, h⟩ := bsome h
            obtain ⟨e22, he22, h⟩ := bsome h
            obtain ⟨e23, he23, h⟩ := bsome h
            obtain ⟨e24, he24, h⟩ := bsome h
            refine AW.regionAny [⟨[0], [61], [], []⟩, ⟨[13], [62], [], []⟩, ⟨[0], [63], [], []⟩, ⟨[13], [64], [], []⟩, ⟨[64], [65], [], []⟩, ⟨[0], [66], [], []⟩, ⟨[13], [67], [], []⟩, ⟨[67], [68], [], []⟩, ⟨[66, 68], [69], [], []⟩, ⟨[69], [70], [0], []⟩, ⟨[0], [71], [], []⟩, ⟨[13], [72], [], []⟩, ⟨[71, 72], [73], [], []⟩, ⟨[73], [74], [0], []⟩, ⟨[61, 62], [75], [], []⟩, ⟨[75, 70], [], [0], [0]⟩, ⟨[63, 65], [76], [], []⟩, ⟨[76, 74], [], [0], [0]⟩] mixed (by kernel_rfl) <| SMw rfl <| SMd rfl <| SMw rfl <| SMd rfl <| Sc (lo [64] [] rfl fun S hs hr => op_add rfl rfl (vh hs 64 rfl rfl) (vk rfl)) rfl <| SMw rfl <| SMd rfl <| Sc (lo [67] [] rfl fun S hs hr => op_add rfl rfl (vh hs 67 rfl rfl) (vk rfl)) rfl <| Sc (lo [66, 68] [] rfl fun S hs hr => op_indexoP (l := l18) hvl0_218 rfl rfl rfl sl122 (vh hs 66 rfl rfl) (vh hs 68 rfl rfl) he21) rfl <| Sc (lo [69] [0] rfl fun S hs hr => op_loado' 0 rfl rfl ty121 (vh hs 69 rfl rfl) ((hr 0 rfl).trans rfl) (lget_of he21).2) rfl <| SMw rfl <| SMd rfl <| Sc (lo [71, 72] [] rfl fun S hs hr => op_indexoP (l := l18) hvl0_218 rfl rfl rfl sl122 (vh hs 71 rfl rfl) (vh hs 72 rfl rfl) he22) rfl <| Sc (lo [73] [0] rfl fun S hs hr => op_loado' 0 rfl rfl ty121 (vh hs 73 rfl rfl) ((hr 0 rfl).trans rfl) (lget_of he22).2) rfl <| Sc (lo [61, 62] [] rfl fun S hs hr => op_indexoP (l := l18) hvl0_218 rfl rfl rfl sl122 (vh hs 61 rfl rfl) (vh hs 62 rfl rfl) he23) rfl <| Sc (locr [75, 70] [0] rfl fun S hs hr => op_storeo' 0 rfl rfl ty121 (vh hs 75 rfl rfl) ((hr 0 rfl).trans rfl) (lget_of he23).2 (vh hs 70 rfl rfl)) rfl <| Sc (lo [63, 65] [] rfl fun S hs hr => op_indexoP (l := (List.set l18 k19.toNat e21)) hvl0_218 (by simp) rfl rfl sl122 (vh hs 63 rfl rfl) (vh hs 65 rfl rfl) he24) rfl <| Sc (locr [76, 74] [0] rfl fun S hs hr => op_storeo' 0 rfl rfl ty121 (vh hs 76 rfl rfl) ((hr 0 rfl).trans rfl) (lget_of he24).2 (vh hs 74 rfl rfl)) rfl <| Rg <| Md rfl <| Ac (op_add rfl rfl (vt rfl) (vk rfl)) rfl <| As rfl <| Nl ?_
            subst hgo2
            exact ⟨(m20, (List.set (List.set l18 k19.toNat e21) (IntKind.i64.wrap (k19 + 1)).toNat e22), (IntKind.i64.wrap (k19 + 1))), Nat.lt_succ_self _, ⟨trivial, h⟩, ⟨rfl, ⟨rfl, rfl, rfl, trivial⟩, ⟨rfl, trivial⟩⟩⟩
          · have h := cond_f hc h
            refine AW.exit <| AW.ret ?_
            obtain rfl := si h
            exact ret0Y (i := 0) Tryz.results311 rfl rfl
  · have h := cond_f hc h
    refine AW.skip <| AW.seq <| SR <| Md rfl <| Md rfl <| Ac (op_sub rfl rfl (vt rfl) (vt rfl)) rfl <| Ac (op_eql rfl rfl (vt rfl) (vk rfl)) rfl <| Nl <| Cn rfl (fun hc => ?_) (fun hc => ?_)
    · have h := cond_t hc h
      refine SR <| Md rfl <| As rfl <| Nl <| SR <| Md rfl <| As rfl <| Nl <| AW.seq <| AW.block <| AW.loopG (d := []) (ν := Nat × Int × Int) (fun n => True ∧ F_slices_symMergeCmpFunc_Action_s_l3 data1 m4 cmp6 n.1 n.2.1 n.2.2 = some r) (fun n => n.1) (fun n => [(0, raw v2), (2, rd (kint .i64) m4), (4, fn2 Tryz.prog kAction kAction (kint .i64) cmp6), (14, rd (kint .i64) n.2.1), (15, rd (kint .i64) n.2.2)]) (fun n => [(0, Row v2 121 kAction data1)]) ((((m4 : Int) - a3).toNat + 1), a3, m4) ⟨trivial, h⟩ ⟨rfl, ⟨rfl, rfl, rfl, rfl, rfl, trivial⟩, ⟨rfl, trivial⟩⟩ ?_
      rintro ⟨m29, i27, j28⟩ ⟨hsf3, h⟩
      change True at hsf3
      change F_slices_symMergeCmpFunc_Action_s_l3 data1 m4 cmp6 m29 i27 j28 = some r at h
      change AW _ _ _ ⟨slots [(0, raw v2), (2, rd (kint .i64) m4), (4, fn2 Tryz.prog kAction kAction (kint .i64) cmp6), (14, rd (kint .i64) i27), (15, rd (kint .i64) j28)], ress [(0, Row v2 121 kAction data1)], _⟩
      cases m29 with
      | zero => cases h
      | succ m29 =>
        unfold F_slices_symMergeCmpFunc_Action_s_l3 at h
        generalize hgo3 : F_slices_symMergeCmpFunc_Action_s_l3 data1 m4 cmp6 m29 = go3 at h
        refine AW.seq <| SR <| Md rfl <| Md rfl <| Ac (op_lss rfl rfl (vt rfl) (vt rfl)) rfl <| Nl <| Cn rfl (fun hc => ?_) (fun hc => ?_)
        · have h := cond_t hc h
          refine AW.skip <| AW.block <| AW.seq ?_
          obtain ⟨q30, hq30, h⟩ := bsome h
          refine Rg <| Md rfl <| Md rfl <| Ac (op_add rfl rfl (vt rfl) (vt rfl)) rfl <| Ac (op_convu rfl rfl us3 un360 (vt rfl)) rfl <| Ac (op_ushr rfl rfl (vt rfl) (vu64 (vku (1 : BitVec 64) rfl)) hq30) rfl <| Ac (op_uconv rfl rfl us360 un3 (vt rfl)) rfl <| As rfl <| Nl <| AW.seq ?_
          obtain ⟨e31, he31, h⟩ := bsome h
          obtain ⟨e32, he32, h⟩ := bsome h
          obtain ⟨x33, hx33, h⟩ := bsome h
          refine AW.regionAny [⟨[4], [92], [], []⟩, ⟨[0], [93], [], []⟩, ⟨[2], [94], [], []⟩, ⟨[93, 94], [95], [0], []⟩, ⟨[95], [96], [0], []⟩, ⟨[0], [97], [], []⟩, ⟨[16], [98], [], []⟩, ⟨[97, 98], [99], [0], []⟩, ⟨[99], [100], [0], []⟩, ⟨[92, 96, 100], [101], [], []⟩, ⟨[101], [102], [], []⟩, ⟨[102], [103], [], []⟩] mixed (by kernel_rfl) <| Sc (lo [4] [] rfl fun S hs hr => op_move (A := fn2 Tryz.prog kAction kAction (kint .i64) cmp6) rfl rfl (vh hs 4 rfl rfl)) rfl <| SMw rfl <| SMd rfl <| Sc (lo [93, 94] [0] rfl fun S hs hr => op_indexo' 0 rfl rfl sl122 (vh hs 93 rfl rfl) ((hr 0 rfl).trans rfl) (vh hs 94 rfl rfl) he31) rfl <| Sc (lo [95] [0] rfl fun S hs hr => op_loado' 0 rfl rfl ty121 (vh hs 95 rfl rfl) ((hr 0 rfl).trans rfl) (lget_of he31).2) rfl <| SMw rfl <| SMd rfl <| Sc (lo [97, 98] [0] rfl fun S hs hr => op_indexo' 0 rfl rfl sl122 (vh hs 97 rfl rfl) ((hr 0 rfl).trans rfl) (vh hs 98 rfl rfl) he32) rfl <| Sc (lo [99] [0] rfl fun S hs hr => op_loado' 0 rfl rfl ty121 (vh hs 99 rfl rfl) ((hr 0 rfl).trans rfl) (lget_of he32).2) rfl <| Sc (lo [92, 96, 100] [] rfl fun S hs hr => op_call2 hx33 rfl rfl (vh hs 92 rfl rfl) (vh hs 96 rfl rfl) (vh hs 100 rfl rfl)) rfl <| Sc (lo [101] [] rfl fun S hs hr => op_lss rfl rfl (vh hs 101 rfl rfl) (vk rfl)) rfl <| Sc (lo [102] [] rfl fun S hs hr => op_not rfl rfl (vh hs 102 rfl rfl)) rfl <| Cn rfl (fun hc => ?_) (fun hc => ?_)
          · have h := cond_t hc h
            refine Rg <| Md rfl <| Ac (op_add rfl rfl (vt rfl) (vk rfl)) rfl <| As rfl <| Nl ?_
            subst hgo3
            exact ⟨(m29, (IntKind.i64.wrap ((IntKind.i64.wrap (q30.toNat : Int)) + 1)), j28), Nat.lt_succ_self _, ⟨trivial, h⟩, ⟨rfl, ⟨rfl, rfl, rfl, rfl, rfl, trivial⟩, ⟨rfl, trivial⟩⟩⟩
          · have h := cond_f hc h
            refine Rg <| Md rfl <| As rfl <| Nl ?_
            subst hgo3
            exact ⟨(m29, i27, (IntKind.i64.wrap (q30.toNat : Int))), Nat.lt_succ_self _, ⟨trivial, h⟩, ⟨rfl, ⟨rfl, rfl, rfl, rfl, rfl, trivial⟩, ⟨rfl, trivial⟩⟩⟩
        · have h := cond_f hc h
          refine AW.exit <| AW.seq <| SR <| Md rfl <| As rfl <| Nl <| AW.block <| AW.loopG (d := []) (ν := Nat × (List Action) × Int) (fun n => True ∧ F_slices_symMergeCmpFunc_Action_s_l4 i27 n.1 n.2.1 n.2.2 = some r) (fun n => n.1) (fun n => [(0, raw v2), (14, rd (kint .i64) i27), (17, rd (kint .i64) n.2.2)]) (fun n => [(0, Row v2 121 kAction n.2.1)]) ((((m4 : Int) - i27).toNat + 1), data1, m4) ⟨trivial, h⟩ ⟨rfl, ⟨rfl, rfl, rfl, trivial⟩, ⟨rfl, trivial⟩⟩ ?_
          rintro ⟨m38, l36, k37⟩ ⟨hsf4, h⟩
          change True at hsf4
          change F_slices_symMergeCmpFunc_Action_s_l4 i27 m38 l36 k37 = some r at h
          change AW _ _ _ ⟨slots [(0, raw v2), (14, rd (kint .i64) i27), (17, rd (kint .i64) k37)], ress [(0, Row v2 121 kAction l36)], _⟩
          cases m38 with
          | zero => cases h
          | succ m38 =>
            unfold F_slices_symMergeCmpFunc_Action_s_l4 at h
            generalize hgo4 : F_slices_symMergeCmpFunc_Action_s_l4 i27 m38 = go4 at h
            refine AW.seq <| SR <| Md rfl <| Md rfl <| Ac (op_gtr rfl rfl (vt rfl) (vt rfl)) rfl <| Nl <| Cn rfl (fun hc => ?_) (fun hc => ?_)
            · have h := cond_t hc h
              refine AW.skip <| AW.seq <| AW.block <| AW.vlen 0 rfl fun hvl0_474 => ?_
              obtain ⟨e39, he39, h⟩ := bsome h
              obtain ⟨e40, he40, h⟩ := bsome h
              obtain ⟨e41, he41, h⟩ := bsome h
              obtain ⟨e42, he42, h⟩ := bsome h
              refine AW.regionAny [⟨[0], [113], [], []⟩, ⟨[17], [114], [], []⟩, ⟨[0], [115], [], []⟩, ⟨[17], [116], [], []⟩, ⟨[116], [117], [], []⟩, ⟨[0], [118], [], []⟩, ⟨[17], [119], [], []⟩, ⟨[119], [120], [], []⟩, ⟨[118, 120], [121], [], []⟩, ⟨[121], [122], [0], []⟩, ⟨[0], [123], [], []⟩, ⟨[17], [124], [], []⟩, ⟨[123, 124], [125], [], []⟩, ⟨[125], [126], [0], []⟩, ⟨[113, 114], [127], [], []⟩, ⟨[127, 122], [], [0], [0]⟩, ⟨[115, 117], [128], [], []⟩, ⟨[128, 126], [], [0], [0]⟩] mixed (by kernel_rfl) <| SMw rfl <| SMd rfl <| SMw rfl <| SMd rfl <| Sc (lo [116] [] rfl fun S hs hr => op_sub rfl rfl (vh hs 116 rfl rfl) (vk rfl)) rfl <| SMw rfl <| SMd rfl <| Sc (lo [119] [] rfl fun S hs hr => op_sub rfl rfl (vh hs 119 rfl rfl) (vk rfl)) rfl <| Sc (lo [118, 120] [] rfl fun S hs hr => op_indexoP (l := l36) hvl0_474 rfl rfl rfl sl122 (vh hs 118 rfl rfl) (vh hs 120 rfl rfl) he39) rfl <| Sc (lo [121] [0] rfl fun S hs hr => op_loado' 0 rfl rfl ty121 (vh hs 121 rfl rfl) ((hr 0 rfl).trans rfl) (lget_of he39).2) rfl <| SMw rfl <| SMd rfl <| Sc (lo [123, 124] [] rfl fun S hs hr => op_indexoP (l := l36) hvl0_474 rfl rfl rfl sl122 (vh hs 123 rfl rfl) (vh hs 124 rfl rfl) he40) rfl <| Sc (lo [125] [0] rfl fun S hs hr => op_loado' 0 rfl rfl ty121 (vh hs 125 rfl rfl) ((hr 0 rfl).trans rfl) (lget_of he40).2) rfl <| Sc (lo [113, 114] [] rfl fun S hs hr => op_indexoP (l := l36) hvl0_474 rfl rfl rfl sl122 (vh hs 113 rfl rfl) (vh hs 114 rfl rfl) he41) rfl <| Sc (locr [127, 122] [0] rfl fun S hs hr => op_storeo' 0 rfl rfl ty121 (vh hs 127 rfl rfl) ((hr 0 rfl).trans rfl) (lget_of he41).2 (vh hs 122 rfl rfl)) rfl <| Sc (lo [115, 117] [] rfl fun S hs hr => op_indexoP (l := (List.set l36 k37.toNat e39)) hvl0_474 (by simp) rfl rfl sl122 (vh hs 115 rfl rfl) (vh hs 117 rfl rfl) he42) rfl <| Sc (locr [128, 126] [0] rfl fun S hs hr => op_storeo' 0 rfl rfl ty121 (vh hs 128 rfl rfl) ((hr 0 rfl).trans rfl) (lget_of he42).2 (vh hs 126 rfl rfl)) rfl <| Rg <| Md rfl <| Ac (op_sub rfl rfl (vt rfl) (vk rfl)) rfl <| As rfl <| Nl ?_
              subst hgo4
              exact ⟨(m38, (List.set (List.set l36 k37.toNat e39) (IntKind.i64.wrap (k37 - 1)).toNat e40), (IntKind.i64.wrap (k37 - 1))), Nat.lt_succ_self _, ⟨trivial, h⟩, ⟨rfl, ⟨rfl, rfl, rfl, trivial⟩, ⟨rfl, trivial⟩⟩⟩
            · have h := cond_f hc h
              refine AW.exit <| AW.ret ?_
              obtain rfl := si h
              exact ret0Y (i := 0) Tryz.results311 rfl rfl
    · have h := cond_f hc h
      refine AW.skip <| AW.seq ?_
      obtain ⟨q43, hq43, h⟩ := bsome h
      refine Rg <| Md rfl <| Md rfl <| Ac (op_add rfl rfl (vt rfl) (vt rfl)) rfl <| Ac (op_convu rfl rfl us3 un360 (vt rfl)) rfl <| Ac (op_ushr rfl rfl (vt rfl) (vu64 (vku (1 : BitVec 64) rfl)) hq43) rfl <| Ac (op_uconv rfl rfl us360 un3 (vt rfl)) rfl <| As rfl <| Nl <| SR <| Md rfl <| Md rfl <| Ac (op_add rfl rfl (vt rfl) (vt rfl)) rfl <| As rfl <| Nl <| SR <| Ak rfl <| Ak rfl <| Nl ?_
      refine AW.join (d := []) (ν := Int × Int) (fun n => F_slices_symMergeCmpFunc_Action_s_j5 data1 q43 m4 cmp6 a3 R_slices_symMergeCmpFunc_Action b5 n.1 n.2 = some r) (fun n => [(0, raw v2), (1, rd (kint .i64) a3), (2, rd (kint .i64) m4), (3, rd (kint .i64) b5), (4, fn2 Tryz.prog kAction kAction (kint .i64) cmp6), (18, rd (kint .i64) (IntKind.i64.wrap (q43.toNat : Int))), (19, rd (kint .i64) (IntKind.i64.wrap ((IntKind.i64.wrap (q43.toNat : Int)) + m4))), (20, rd (kint .i64) n.1), (21, rd (kint .i64) n.2)]) (fun n => [(0, Row v2 121 kAction data1)]) ?hx5 ?hy5
      case hy5 =>
        rintro ⟨start44, r45⟩ h
        unfold F_slices_symMergeCmpFunc_Action_s_j5 at h
        change AW _ _ _ ⟨slots [(0, raw v2), (1, rd (kint .i64) a3), (2, rd (kint .i64) m4), (3, rd (kint .i64) b5), (4, fn2 Tryz.prog kAction kAction (kint .i64) cmp6), (18, rd (kint .i64) (IntKind.i64.wrap (q43.toNat : Int))), (19, rd (kint .i64) (IntKind.i64.wrap ((IntKind.i64.wrap (q43.toNat : Int)) + m4))), (20, rd (kint .i64) start44), (21, rd (kint .i64) r45)], ress [(0, Row v2 121 kAction data1)], _⟩
        refine SR <| Md rfl <| Ac (op_sub rfl rfl (vt rfl) (vk rfl)) rfl <| As rfl <| Nl <| AW.seq <| AW.block <| AW.loopG (d := []) (ν := Nat × Int × Int) (fun n => True ∧ F_slices_symMergeCmpFunc_Action_s_l6 data1 q43 m4 cmp6 a3 R_slices_symMergeCmpFunc_Action b5 n.1 n.2.1 n.2.2 = some r) (fun n => n.1) (fun n => [(0, raw v2), (1, rd (kint .i64) a3), (2, rd (kint .i64) m4), (3, rd (kint .i64) b5), (4, fn2 Tryz.prog kAction kAction (kint .i64) cmp6), (18, rd (kint .i64) (IntKind.i64.wrap (q43.toNat : Int))), (19, rd (kint .i64) (IntKind.i64.wrap ((IntKind.i64.wrap (q43.toNat : Int)) + m4))), (20, rd (kint .i64) n.2.1), (21, rd (kint .i64) n.2.2), (22, rd (kint .i64) (IntKind.i64.wrap ((IntKind.i64.wrap ((IntKind.i64.wrap (q43.toNat : Int)) + m4)) - 1)))]) (fun n => [(0, Row v2 121 kAction data1)]) ((((r45 : Int) - start44).toNat + 1), start44, r45) ⟨trivial, h⟩ ⟨rfl, ⟨rfl, rfl, rfl, rfl, rfl, rfl, rfl, rfl, rfl, rfl, trivial⟩, ⟨rfl, trivial⟩⟩ ?_
        rintro ⟨m50, start48, r49⟩ ⟨hsf6, h⟩
        change True at hsf6
        change F_slices_symMergeCmpFunc_Action_s_l6 data1 q43 m4 cmp6 a3 R_slices_symMergeCmpFunc_Action b5 m50 start48 r49 = some r at h
        change AW _ _ _ ⟨slots [(0, raw v2), (1, rd (kint .i64) a3), (2, rd (kint .i64) m4), (3, rd (kint .i64) b5), (4, fn2 Tryz.prog kAction kAction (kint .i64) cmp6), (18, rd (kint .i64) (IntKind.i64.wrap (q43.toNat : Int))), (19, rd (kint .i64) (IntKind.i64.wrap ((IntKind.i64.wrap (q43.toNat : Int)) + m4))), (20, rd (kint .i64) start48), (21, rd (kint .i64) r49), (22, rd (kint .i64) (IntKind.i64.wrap ((IntKind.i64.wrap ((IntKind.i64.wrap (q43.toNat : Int)) + m4)) - 1)))], ress [(0, Row v2 121 kAction data1)], _⟩
        cases m50 with
        | zero => cases h
        | succ m50 =>
          unfold F_slices_symMergeCmpFunc_Action_s_l6 at h
          generalize hgo6 : F_slices_symMergeCmpFunc_Action_s_l6 data1 q43 m4 cmp6 a3 R_slices_symMergeCmpFunc_Action b5 m50 = go6 at h
          refine AW.seq <| SR <| Md rfl <| Md rfl <| Ac (op_lss rfl rfl (vt rfl) (vt rfl)) rfl <| Nl <| Cn rfl (fun hc => ?_) (fun hc => ?_)
          · have h := cond_t hc h
            refine AW.skip <| AW.block <| AW.seq ?_
            obtain ⟨q51, hq51, h⟩ := bsome h
            refine Rg <| Md rfl <| Md rfl <| Ac (op_add rfl rfl (vt rfl) (vt rfl)) rfl <| Ac (op_convu rfl rfl us3 un360 (vt rfl)) rfl <| Ac (op_ushr rfl rfl (vt rfl) (vu64 (vku (1 : BitVec 64) rfl)) hq51) rfl <| Ac (op_uconv rfl rfl us360 un3 (vt rfl)) rfl <| As rfl <| Nl <| AW.seq ?_
            obtain ⟨e52, he52, h⟩ := bsome h
            obtain ⟨e53, he53, h⟩ := bsome h
            obtain ⟨x54, hx54, h⟩ := bsome h
            refine AW.regionAny [⟨[4], [158], [], []⟩, ⟨[0], [159], [], []⟩, ⟨[22], [160], [], []⟩, ⟨[23], [161], [], []⟩, ⟨[160, 161], [162], [], []⟩, ⟨[159, 162], [163], [0], []⟩, ⟨[163], [164], [0], []⟩, ⟨[0], [165], [], []⟩, ⟨[23], [166], [], []⟩, ⟨[165, 166], [167], [0], []⟩, ⟨[167], [168], [0], []⟩, ⟨[158, 164, 168], [169], [], []⟩, ⟨[169], [170], [], []⟩, ⟨[170], [171], [], []⟩] mixed (by kernel_rfl) <| Sc (lo [4] [] rfl fun S hs hr => op_move (A := fn2 Tryz.prog kAction kAction (kint .i64) cmp6) rfl rfl (vh hs 4 rfl rfl)) rfl <| SMw rfl <| SMd rfl <| SMd rfl <| Sc (lo [160, 161] [] rfl fun S hs hr => op_sub rfl rfl (vh hs 160 rfl rfl) (vh hs 161 rfl rfl)) rfl <| Sc (lo [159, 162] [0] rfl fun S hs hr => op_indexo' 0 rfl rfl sl122 (vh hs 159 rfl rfl) ((hr 0 rfl).trans rfl) (vh hs 162 rfl rfl) he52) rfl <| Sc (lo [163] [0] rfl fun S hs hr => op_loado' 0 rfl rfl ty121 (vh hs 163 rfl rfl) ((hr 0 rfl).trans rfl) (lget_of he52).2) rfl <| SMw rfl <| SMd rfl <| Sc (lo [165, 166] [0] rfl fun S hs hr => op_indexo' 0 rfl rfl sl122 (vh hs 165 rfl rfl) ((hr 0 rfl).trans rfl) (vh hs 166 rfl rfl) he53) rfl <| Sc (lo [167] [0] rfl fun S hs hr => op_loado' 0 rfl rfl ty121 (vh hs 167 rfl rfl) ((hr 0 rfl).trans rfl) (lget_of he53).2) rfl <| Sc (lo [158, 164, 168] [] rfl fun S hs hr => op_call2 hx54 rfl rfl (vh hs 158 rfl rfl) (vh hs 164 rfl rfl) (vh hs 168 rfl rfl)) rfl <| Sc (lo [169] [] rfl fun S hs hr => op_lss rfl rfl (vh hs 169 rfl rfl) (vk rfl)) rfl <| Sc (lo [170] [] rfl fun S hs hr => op_not rfl rfl (vh hs 170 rfl rfl)) rfl <| Cn rfl (fun hc => ?_) (fun hc => ?_)
            · have h := cond_t hc h
              refine Rg <| Md rfl <| Ac (op_add rfl rfl (vt rfl) (vk rfl)) rfl <| As rfl <| Nl ?_
              subst hgo6
              exact ⟨(m50, (IntKind.i64.wrap ((IntKind.i64.wrap (q51.toNat : Int)) + 1)), r49), Nat.lt_succ_self _, ⟨trivial, h⟩, ⟨rfl, ⟨rfl, rfl, rfl, rfl, rfl, rfl, rfl, rfl, rfl, rfl, trivial⟩, ⟨rfl, trivial⟩⟩⟩
            · have h := cond_f hc h
              refine Rg <| Md rfl <| As rfl <| Nl ?_
              subst hgo6
              exact ⟨(m50, start48, (IntKind.i64.wrap (q51.toNat : Int))), Nat.lt_succ_self _, ⟨trivial, h⟩, ⟨rfl, ⟨rfl, rfl, rfl, rfl, rfl, rfl, rfl, rfl, rfl, rfl, trivial⟩, ⟨rfl, trivial⟩⟩⟩
          · have h := cond_f hc h
            refine AW.exit <| SR <| Md rfl <| Md rfl <| Ac (op_sub rfl rfl (vt rfl) (vt rfl)) rfl <| As rfl <| Nl ?_
            refine AW.join (d := []) (ν := (List Action)) (fun n => F_slices_symMergeCmpFunc_Action_s_j7 a3 start48 q43 R_slices_symMergeCmpFunc_Action cmp6 m4 b5 n = some r) (fun n => [(0, raw v2), (1, rd (kint .i64) a3), (3, rd (kint .i64) b5), (4, fn2 Tryz.prog kAction kAction (kint .i64) cmp6), (18, rd (kint .i64) (IntKind.i64.wrap (q43.toNat : Int))), (20, rd (kint .i64) start48), (24, rd (kint .i64) (IntKind.i64.wrap ((IntKind.i64.wrap ((IntKind.i64.wrap (q43.toNat : Int)) + m4)) - start48)))]) (fun n => [(0, Row v2 121 kAction n)]) ?hx7 ?hy7
            case hy7 =>
              intro l55 h
              unfold F_slices_symMergeCmpFunc_Action_s_j7 at h
              change AW _ _ _ ⟨slots [(0, raw v2), (1, rd (kint .i64) a3), (3, rd (kint .i64) b5), (4, fn2 Tryz.prog kAction kAction (kint .i64) cmp6), (18, rd (kint .i64) (IntKind.i64.wrap (q43.toNat : Int))), (20, rd (kint .i64) start48), (24, rd (kint .i64) (IntKind.i64.wrap ((IntKind.i64.wrap ((IntKind.i64.wrap (q43.toNat : Int)) + m4)) - start48)))], ress [(0, Row v2 121 kAction l55)], _⟩
              refine AW.join (d := []) (ν := (List Action)) (fun n => F_slices_symMergeCmpFunc_Action_s_j8 q43 m4 start48 b5 R_slices_symMergeCmpFunc_Action cmp6 n = some r) (fun n => [(0, raw v2), (3, rd (kint .i64) b5), (4, fn2 Tryz.prog kAction kAction (kint .i64) cmp6), (18, rd (kint .i64) (IntKind.i64.wrap (q43.toNat : Int))), (24, rd (kint .i64) (IntKind.i64.wrap ((IntKind.i64.wrap ((IntKind.i64.wrap (q43.toNat : Int)) + m4)) - start48)))]) (fun n => [(0, Row v2 121 kAction n)]) ?hx8 ?hy8
              case hy8 =>
                intro l56 h
                unfold F_slices_symMergeCmpFunc_Action_s_j8 at h
                change AW _ _ _ ⟨slots [(0, raw v2), (3, rd (kint .i64) b5), (4, fn2 Tryz.prog kAction kAction (kint .i64) cmp6), (18, rd (kint .i64) (IntKind.i64.wrap (q43.toNat : Int))), (24, rd (kint .i64) (IntKind.i64.wrap ((IntKind.i64.wrap ((IntKind.i64.wrap (q43.toNat : Int)) + m4)) - start48)))], ress [(0, Row v2 121 kAction l56)], _⟩
                refine SR <| Md rfl <| Md rfl <| Ac (op_lss rfl rfl (vt rfl) (vt rfl)) rfl <| Md rfl <| Gd rfl (fun hq => op_move (A := rd (kint .i64) (IntKind.i64.wrap ((IntKind.i64.wrap ((IntKind.i64.wrap (q43.toNat : Int)) + m4)) - start48))) rfl rfl (vt rfl)) <| Gd rfl (fun hq => op_move (A := rd (kint .i64) b5) rfl rfl (vt rfl)) <| Gd rfl (fun hq => op_lss rfl rfl (vgt rfl hq) (vgt rfl hq)) <| Ac (op_all rfl rfl (vt rfl) (vt rfl)) rfl <| Nl <| Cn rfl (fun hc => ?_) (fun hc => ?_)
                · have h := cond_t hc h
                  obtain ⟨l57, hl57, h⟩ := bsome h
                  refine Rg <| Mw rfl <| Md rfl <| Md rfl <| Md rfl <| Ac (op_move (A := fn2 Tryz.prog kAction kAction (kint .i64) cmp6) rfl rfl (vt rfl)) rfl <| Ct rfl (op_callR 0 (xs := [.tmp 214, .tmp 215, .tmp 216, .tmp 217, .tmp 218]) (hR_slices_symMergeCmpFunc_Action _ _ _ _ _ _ _ hl57) e311 rfl rfl ⟨vt rfl, vt rfl, vt rfl, vt rfl, vt rfl, trivial⟩ rfl) ?_
                  rintro _ ⟨_u, rfl⟩
                  refine Nl ?_
                  obtain rfl := si h
                  exact ret0Y (i := 0) Tryz.results311 rfl rfl
                · have h := cond_f hc h
                  refine AW.skip ?_
                  obtain rfl := si h
                  exact ret0Y (i := 0) Tryz.results311 rfl rfl
              case hx8 =>
                refine SR <| Md rfl <| Md rfl <| Ac (op_lss rfl rfl (vt rfl) (vt rfl)) rfl <| Md rfl <| Gd rfl (fun hq => op_move (A := rd (kint .i64) start48) rfl rfl (vt rfl)) <| Gd rfl (fun hq => op_move (A := rd (kint .i64) (IntKind.i64.wrap (q43.toNat : Int))) rfl rfl (vt rfl)) <| Gd rfl (fun hq => op_lss rfl rfl (vgt rfl hq) (vgt rfl hq)) <| Ac (op_all rfl rfl (vt rfl) (vt rfl)) rfl <| Nl <| Cn rfl (fun hc => ?_) (fun hc => ?_)
                · have h := cond_t hc h
                  obtain ⟨l58, hl58, h⟩ := bsome h
                  refine Rg <| Mw rfl <| Md rfl <| Md rfl <| Md rfl <| Ac (op_move (A := fn2 Tryz.prog kAction kAction (kint .i64) cmp6) rfl rfl (vt rfl)) rfl <| Ct rfl (op_callR 0 (xs := [.tmp 200, .tmp 201, .tmp 202, .tmp 203, .tmp 204]) (hR_slices_symMergeCmpFunc_Action _ _ _ _ _ _ _ hl58) e311 rfl rfl ⟨vt rfl, vt rfl, vt rfl, vt rfl, vt rfl, trivial⟩ rfl) ?_
                  rintro _ ⟨_u, rfl⟩
                  refine Nl ?_
                  exact ⟨l58, h, ⟨rfl, ⟨rfl, rfl, rfl, rfl, rfl, trivial⟩, ⟨rfl, trivial⟩⟩⟩
                · have h := cond_f hc h
                  refine AW.skip ?_
                  exact ⟨l55, h, ⟨rfl, ⟨rfl, rfl, rfl, rfl, rfl, trivial⟩, ⟨rfl, trivial⟩⟩⟩
            case hx7 =>
              refine SR <| Md rfl <| Md rfl <| Ac (op_lss rfl rfl (vt rfl) (vt rfl)) rfl <| Md rfl <| Gd rfl (fun hq => op_move (A := rd (kint .i64) m4) rfl rfl (vt rfl)) <| Gd rfl (fun hq => op_move (A := rd (kint .i64) (IntKind.i64.wrap ((IntKind.i64.wrap ((IntKind.i64.wrap (q43.toNat : Int)) + m4)) - start48))) rfl rfl (vt rfl)) <| Gd rfl (fun hq => op_lss rfl rfl (vgt rfl hq) (vgt rfl hq)) <| Ac (op_all rfl rfl (vt rfl) (vt rfl)) rfl <| Nl <| Cn rfl (fun hc => ?_) (fun hc => ?_)
              · have h := cond_t hc h
                obtain ⟨l59, hl59, h⟩ := bsome h
                refine Rg <| Mw rfl <| Md rfl <| Md rfl <| Md rfl <| Ac (op_move (A := fn2 Tryz.prog kAction kAction (kint .i64) cmp6) rfl rfl (vt rfl)) rfl <| Ct rfl (op_callR 0 (xs := [.tmp 186, .tmp 187, .tmp 188, .tmp 189, .tmp 190]) (c_slices_rotateCmpFunc_Action_o _ _ _ _ _ _ _ hl59) e335 rfl rfl ⟨vt rfl, vt rfl, vt rfl, vt rfl, vt rfl, trivial⟩ rfl) ?_
                rintro _ ⟨_u, rfl⟩
                refine Nl ?_
                exact ⟨l59, h, ⟨rfl, ⟨rfl, rfl, rfl, rfl, rfl, rfl, rfl, trivial⟩, ⟨rfl, trivial⟩⟩⟩
              · have h := cond_f hc h
                refine AW.skip ?_
                exact ⟨data1, h, ⟨rfl, ⟨rfl, rfl, rfl, rfl, rfl, rfl, rfl, trivial⟩, ⟨rfl, trivial⟩⟩⟩
      case hx5 =>
        refine SR <| Md rfl <| Md rfl <| Ac (op_gtr rfl rfl (vt rfl) (vt rfl)) rfl <| Nl <| Cn rfl (fun hc => ?_) (fun hc => ?_)
        · have h := cond_t hc h
          refine SR <| Md rfl <| Md rfl <| Ac (op_sub rfl rfl (vt rfl) (vt rfl)) rfl <| As rfl <| Nl <| Rg <| Md rfl <| As rfl <| Nl ?_
          exact ⟨((IntKind.i64.wrap ((IntKind.i64.wrap ((IntKind.i64.wrap (q43.toNat : Int)) + m4)) - b5)), (IntKind.i64.wrap (q43.toNat : Int))), h, ⟨rfl, ⟨rfl, rfl, rfl, rfl, rfl, rfl, rfl, rfl, rfl, trivial⟩, ⟨rfl, trivial⟩⟩⟩
        · have h := cond_f hc h
          refine SR <| Md rfl <| As rfl <| Nl <| Rg <| Md rfl <| As rfl <| Nl ?_
          exact ⟨(a3, m4), h, ⟨rfl, ⟨rfl, rfl, rfl, rfl, rfl, rfl, rfl, rfl, rfl, trivial⟩, ⟨rfl, trivial⟩⟩⟩
def FR_slices_symMergeCmpFunc_Action : Nat → ((List Action) → Int → Int → Int → (Action → Action → Option Int) → Option (List Action))
  | 0 => (fun _ _ _ _ _ => none)
  | n + 1 => (F_slices_symMergeCmpFunc_Action_s (FR_slices_symMergeCmpFunc_Action n))
theorem cR_slices_symMergeCmpFunc_Action : ∀ n : Nat, (∀ (v2 : Value) (data1 : (List Action)) (a3 : Int) (m4 : Int) (b5 : Int) (cmp6 : (Action → Action → Option Int)) (r : (List Action)), (FR_slices_symMergeCmpFunc_Action n) data1 a3 m4 b5 cmp6 = some r → Con Tryz.prog 311 [raw v2, rd (kint .i64) a3, rd (kint .i64) m4, rd (kint .i64) b5, fn2 Tryz.prog kAction kAction (kint .i64) cmp6] (Row v2 121 kAction data1) (fun _ : Unit => top) (fun _ => Row v2 121 kAction r))
  | 0 => (by intros; rename_i h; cases h)
  | n + 1 => by
    have ih := cR_slices_symMergeCmpFunc_Action n
    exact (c_slices_symMergeCmpFunc_Action_s (FR_slices_symMergeCmpFunc_Action n) ih)
def F_slices_symMergeCmpFunc_Action (data1 : (List Action)) (a3 : Int) (m4 : Int) (b5 : Int) (cmp6 : (Action → Action → Option Int)) : Option (List Action) := (FR_slices_symMergeCmpFunc_Action fuel0) data1 a3 m4 b5 cmp6
theorem c_slices_symMergeCmpFunc_Action_o : ∀ (v2 : Value) (data1 : (List Action)) (a3 : Int) (m4 : Int) (b5 : Int) (cmp6 : (Action → Action → Option Int)) (r : (List Action)), F_slices_symMergeCmpFunc_Action data1 a3 m4 b5 cmp6 = some r → Con Tryz.prog 311 [raw v2, rd (kint .i64) a3, rd (kint .i64) m4, rd (kint .i64) b5, fn2 Tryz.prog kAction kAction (kint .i64) cmp6] (Row v2 121 kAction data1) (fun _ : Unit => top) (fun _ => Row v2 121 kAction r) := cR_slices_symMergeCmpFunc_Action fuel0
def F_slices_stableCmpFunc_Action_l3 (n3 : Int) (blockSize17 : Int) (cmp4 : (Action → Action → Option Int)) (go2 : (List Action) → Int → Option (List Action)) : Nat → (List Action) → Int → Int → Option (List Action)
  | 0, _, _, _ => none
  | m25 + 1, l22, a23, b24 => (bif (decide (b24 ≤ n3)) then (F_slices_symMergeCmpFunc_Action l22 a23 (IntKind.i64.wrap (a23 + blockSize17)) b24 cmp4).bind fun l26 => (F_slices_stableCmpFunc_Action_l3 n3 blockSize17 cmp4 go2 m25) l26 b24 (IntKind.i64.wrap (b24 + (IntKind.i64.wrap (2 * blockSize17)))) else (bif (decide ((IntKind.i64.wrap (a23 + blockSize17)) < n3)) then (F_slices_symMergeCmpFunc_Action l22 a23 (IntKind.i64.wrap (a23 + blockSize17)) n3 cmp4).bind fun l27 => go2 l27 (IntKind.i64.wrap (blockSize17 * 2)) else go2 l22 (IntKind.i64.wrap (blockSize17 * 2))))
def F_slices_stableCmpFunc_Action_l2 (n3 : Int) (cmp4 : (Action → Action → Option Int)) : Nat → (List Action) → Int → Option (List Action)
  | 0, _, _ => none
  | m18 + 1, l16, blockSize17 => (bif (decide (blockSize17 < n3)) then F_slices_stableCmpFunc_Action_l3 n3 blockSize17 cmp4 (F_slices_stableCmpFunc_Action_l2 n3 cmp4 m18) (((n3 : Int) - (IntKind.i64.wrap (2 * blockSize17))).toNat + 2) l16 0 (IntKind.i64.wrap (2 * blockSize17)) else some l16)
def F_slices_stableCmpFunc_Action_l1 (n3 : Int) (cmp4 : (Action → Action → Option Int)) : Nat → (List Action) → Int → Int → Option (List Action)
  | 0, _, _, _ => none
  | m11 + 1, l8, a9, b10 => (bif (decide (b10 ≤ n3)) then (F_slices_insertionSortCmpFunc_Action l8 a9 b10 cmp4).bind fun l12 => (F_slices_stableCmpFunc_Action_l1 n3 cmp4 m11) l12 b10 (IntKind.i64.wrap (b10 + 20)) else (F_slices_insertionSortCmpFunc_Action l8 a9 n3 cmp4).bind fun l13 => F_slices_stableCmpFunc_Action_l2 n3 cmp4 (((n3 : Int) - 20).toNat + 1) l13 20)
def F_slices_stableCmpFunc_Action (data1 : (List Action)) (n3 : Int) (cmp4 : (Action → Action → Option Int)) : Option (List Action) :=
  F_slices_stableCmpFunc_Action_l1 n3 cmp4 (((n3 : Int) - 20).toNat + 2) data1 0 20
theorem c_slices_stableCmpFunc_Action_o (v2 : Value) (data1 : (List Action)) (n3 : Int) (cmp4 : (Action → Action → Option Int)) (r : (List Action)) (h : F_slices_stableCmpFunc_Action data1 n3 cmp4 = some r) : Con Tryz.prog 274 [raw v2, rd (kint .i64) n3, fn2 Tryz.prog kAction kAction (kint .i64) cmp4] (Row v2 121 kAction data1) (fun _ : Unit => top) (fun _ => Row v2 121 kAction r) := by
  refine Con.intro Tryz.func274 rfl Tryz.ntmps274 rfl fun w H X => ?_
  unfold F_slices_stableCmpFunc_Action at h
  refine SR <| Ak rfl <| Nl <| SR <| Md rfl <| Ak rfl <| As rfl <| Nl <| AW.seq <| AW.block <| AW.loopG (d := []) (ν := Nat × (List Action) × Int × Int) (fun n => True ∧ F_slices_stableCmpFunc_Action_l1 n3 cmp4 n.1 n.2.1 n.2.2.1 n.2.2.2 = some r) (fun n => n.1) (fun n => [(0, raw v2), (1, rd (kint .i64) n3), (2, fn2 Tryz.prog kAction kAction (kint .i64) cmp4), (6, rd (kint .i64) 20), (7, rd (kint .i64) n.2.2.1), (8, rd (kint .i64) n.2.2.2)]) (fun n => [(0, Row v2 121 kAction n.2.1)]) ((((n3 : Int) - 20).toNat + 2), data1, 0, 20) ⟨trivial, h⟩ ⟨rfl, ⟨rfl, rfl, rfl, rfl, rfl, rfl, trivial⟩, ⟨rfl, trivial⟩⟩ ?_
  rintro ⟨m11, l8, a9, b10⟩ ⟨hsf1, h⟩
  change True at hsf1
  change F_slices_stableCmpFunc_Action_l1 n3 cmp4 m11 l8 a9 b10 = some r at h
  change AW _ _ _ ⟨slots [(0, raw v2), (1, rd (kint .i64) n3), (2, fn2 Tryz.prog kAction kAction (kint .i64) cmp4), (6, rd (kint .i64) 20), (7, rd (kint .i64) a9), (8, rd (kint .i64) b10)], ress [(0, Row v2 121 kAction l8)], _⟩
  cases m11 with
  | zero => cases h
  | succ m11 =>
    unfold F_slices_stableCmpFunc_Action_l1 at h
    generalize hgo1 : F_slices_stableCmpFunc_Action_l1 n3 cmp4 m11 = go1 at h
    refine AW.seq <| SR <| Md rfl <| Md rfl <| Ac (op_leq rfl rfl (vt rfl) (vt rfl)) rfl <| Nl <| Cn rfl (fun hc => ?_) (fun hc => ?_)
    · have h := cond_t hc h
      refine AW.skip <| AW.block <| AW.seq ?_
      obtain ⟨l12, hl12, h⟩ := bsome h
      refine Rg <| Mw rfl <| Md rfl <| Md rfl <| Ac (op_move (A := fn2 Tryz.prog kAction kAction (kint .i64) cmp4) rfl rfl (vt rfl)) rfl <| Ct rfl (op_callR 0 (xs := [.tmp 14, .tmp 15, .tmp 16, .tmp 17]) (c_slices_insertionSortCmpFunc_Action_o _ _ _ _ _ _ hl12) e310 rfl rfl ⟨vt rfl, vt rfl, vt rfl, vt rfl, trivial⟩ rfl) ?_
      rintro _ ⟨_u, rfl⟩
      refine Nl <| SR <| Md rfl <| As rfl <| Nl <| Rg <| Md rfl <| Md rfl <| Ac (op_add rfl rfl (vt rfl) (vt rfl)) rfl <| As rfl <| Nl ?_
      subst hgo1
      exact ⟨(m11, l12, b10, (IntKind.i64.wrap (b10 + 20))), Nat.lt_succ_self _, ⟨trivial, h⟩, ⟨rfl, ⟨rfl, rfl, rfl, rfl, rfl, rfl, trivial⟩, ⟨rfl, trivial⟩⟩⟩
    · have h := cond_f hc h
      refine AW.exit <| AW.seq ?_
      obtain ⟨l13, hl13, h⟩ := bsome h
      refine Rg <| Mw rfl <| Md rfl <| Md rfl <| Ac (op_move (A := fn2 Tryz.prog kAction kAction (kint .i64) cmp4) rfl rfl (vt rfl)) rfl <| Ct rfl (op_callR 0 (xs := [.tmp 23, .tmp 24, .tmp 25, .tmp 26]) (c_slices_insertionSortCmpFunc_Action_o _ _ _ _ _ _ hl13) e310 rfl rfl ⟨vt rfl, vt rfl, vt rfl, vt rfl, trivial⟩ rfl) ?_
      rintro _ ⟨_u, rfl⟩
      refine Nl <| AW.block <| AW.loopG (d := []) (ν := Nat × (List Action) × Int) (fun n => True ∧ F_slices_stableCmpFunc_Action_l2 n3 cmp4 n.1 n.2.1 n.2.2 = some r) (fun n => n.1) (fun n => [(0, raw v2), (1, rd (kint .i64) n3), (2, fn2 Tryz.prog kAction kAction (kint .i64) cmp4), (6, rd (kint .i64) n.2.2)]) (fun n => [(0, Row v2 121 kAction n.2.1)]) ((((n3 : Int) - 20).toNat + 1), l13, 20) ⟨trivial, h⟩ ⟨rfl, ⟨rfl, rfl, rfl, rfl, trivial⟩, ⟨rfl, trivial⟩⟩ ?_
      rintro ⟨m18, l16, blockSize17⟩ ⟨hsf2, h⟩
      change True at hsf2
      change F_slices_stableCmpFunc_Action_l2 n3 cmp4 m18 l16 blockSize17 = some r at h
      change AW _ _ _ ⟨slots [(0, raw v2), (1, rd (kint .i64) n3), (2, fn2 Tryz.prog kAction kAction (kint .i64) cmp4), (6, rd (kint .i64) blockSize17)], ress [(0, Row v2 121 kAction l16)], _⟩
      cases m18 with
      | zero => cases h
      | succ m18 =>
        unfold F_slices_stableCmpFunc_Action_l2 at h
        generalize hgo2 : F_slices_stableCmpFunc_Action_l2 n3 cmp4 m18 = go2 at h
        refine AW.seq <| SR <| Md rfl <| Md rfl <| Ac (op_lss rfl rfl (vt rfl) (vt rfl)) rfl <| Nl <| Cn rfl (fun hc => ?_) (fun hc => ?_)
        · have h := cond_t hc h
          refine AW.skip <| AW.block <| SR <| Md rfl <| Ac (op_mul rfl rfl (vk rfl) (vt rfl)) rfl <| Ak rfl <| As rfl <| Nl <| AW.seq <| AW.block <| AW.loopG (d := []) (ν := Nat × (List Action) × Int × Int) (fun n => True ∧ F_slices_stableCmpFunc_Action_l3 n3 blockSize17 cmp4 go2 n.1 n.2.1 n.2.2.1 n.2.2.2 = some r) (fun n => n.1) (fun n => [(0, raw v2), (1, rd (kint .i64) n3), (2, fn2 Tryz.prog kAction kAction (kint .i64) cmp4), (6, rd (kint .i64) blockSize17), (7, rd (kint .i64) n.2.2.1), (8, rd (kint .i64) n.2.2.2)]) (fun n => [(0, Row v2 121 kAction n.2.1)]) ((((n3 : Int) - (IntKind.i64.wrap (2 * blockSize17))).toNat + 2), l16, 0, (IntKind.i64.wrap (2 * blockSize17))) ⟨trivial, h⟩ ⟨rfl, ⟨rfl, rfl, rfl, rfl, rfl, rfl, trivial⟩, ⟨rfl, trivial⟩⟩ ?_
          rintro ⟨m25, l22, a23, b24⟩ ⟨hsf3, h⟩
          change True at hsf3
          change F_slices_stableCmpFunc_Action_l3 n3 blockSize17 cmp4 go2 m25 l22 a23 b24 = some r at h
          change AW _ _ _ ⟨slots [(0, raw v2), (1, rd (kint .i64) n3), (2, fn2 Tryz.prog kAction kAction (kint .i64) cmp4), (6, rd (kint .i64) blockSize17), (7, rd (kint .i64) a23), (8, rd (kint .i64) b24)], ress [(0, Row v2 121 kAction l22)], _⟩
          cases m25 with
          | zero => cases h
          | succ m25 =>
            unfold F_slices_stableCmpFunc_Action_l3 at h
            generalize hgo3 : F_slices_stableCmpFunc_Action_l3 n3 blockSize17 cmp4 go2 m25 = go3 at h
            refine AW.seq <| SR <| Md rfl <| Md rfl <| Ac (op_leq rfl rfl (vt rfl) (vt rfl)) rfl <| Nl <| Cn rfl (fun hc => ?_) (fun hc => ?_)
            · have h := cond_t hc h
              refine AW.skip <| AW.block <| AW.seq ?_
              obtain ⟨l26, hl26, h⟩ := bsome h
              refine Rg <| Mw rfl <| Md rfl <| Md rfl <| Md rfl <| Ac (op_add rfl rfl (vt rfl) (vt rfl)) rfl <| Md rfl <| Ac (op_move (A := fn2 Tryz.prog kAction kAction (kint .i64) cmp4) rfl rfl (vt rfl)) rfl <| Ct rfl (op_callR 0 (xs := [.tmp 36, .tmp 37, .tmp 40, .tmp 41, .tmp 42]) (c_slices_symMergeCmpFunc_Action_o _ _ _ _ _ _ _ hl26) e311 rfl rfl ⟨vt rfl, vt rfl, vt rfl, vt rfl, vt rfl, trivial⟩ rfl) ?_
              rintro _ ⟨_u, rfl⟩
              refine Nl <| SR <| Md rfl <| As rfl <| Nl <| Rg <| Md rfl <| Md rfl <| Ac (op_mul rfl rfl (vk rfl) (vt rfl)) rfl <| Ac (op_add rfl rfl (vt rfl) (vt rfl)) rfl <| As rfl <| Nl ?_
              subst hgo3
              exact ⟨(m25, l26, b24, (IntKind.i64.wrap (b24 + (IntKind.i64.wrap (2 * blockSize17))))), Nat.lt_succ_self _, ⟨trivial, h⟩, ⟨rfl, ⟨rfl, rfl, rfl, rfl, rfl, rfl, trivial⟩, ⟨rfl, trivial⟩⟩⟩
            · have h := cond_f hc h
              refine AW.exit <| AW.seq <| SR <| Md rfl <| Md rfl <| Ac (op_add rfl rfl (vt rfl) (vt rfl)) rfl <| As rfl <| Nl <| SR <| Md rfl <| Md rfl <| Ac (op_lss rfl rfl (vt rfl) (vt rfl)) rfl <| Nl <| Cn rfl (fun hc => ?_) (fun hc => ?_)
              · have h := cond_t hc h
                obtain ⟨l27, hl27, h⟩ := bsome h
                refine Rg <| Mw rfl <| Md rfl <| Md rfl <| Md rfl <| Ac (op_move (A := fn2 Tryz.prog kAction kAction (kint .i64) cmp4) rfl rfl (vt rfl)) rfl <| Ct rfl (op_callR 0 (xs := [.tmp 55, .tmp 56, .tmp 57, .tmp 58, .tmp 59]) (c_slices_symMergeCmpFunc_Action_o _ _ _ _ _ _ _ hl27) e311 rfl rfl ⟨vt rfl, vt rfl, vt rfl, vt rfl, vt rfl, trivial⟩ rfl) ?_
                rintro _ ⟨_u, rfl⟩
                refine Nl <| Rg <| Md rfl <| Ac (op_mul rfl rfl (vt rfl) (vk rfl)) rfl <| As rfl <| Nl ?_
                subst hgo2
                exact ⟨(m18, l27, (IntKind.i64.wrap (blockSize17 * 2))), Nat.lt_succ_self _, ⟨trivial, h⟩, ⟨rfl, ⟨rfl, rfl, rfl, rfl, trivial⟩, ⟨rfl, trivial⟩⟩⟩
              · have h := cond_f hc h
                refine AW.skip <| Rg <| Md rfl <| Ac (op_mul rfl rfl (vt rfl) (vk rfl)) rfl <| As rfl <| Nl ?_
                subst hgo2
                exact ⟨(m18, l22, (IntKind.i64.wrap (blockSize17 * 2))), Nat.lt_succ_self _, ⟨trivial, h⟩, ⟨rfl, ⟨rfl, rfl, rfl, rfl, trivial⟩, ⟨rfl, trivial⟩⟩⟩
        · have h := cond_f hc h
          refine AW.exit ?_
          obtain rfl := si h
          exact ret0Y (i := 0) Tryz.results274 rfl rfl
def F_slices_SortStableFunc_Action (x1 : (List Action)) (cmp3 : (Action → Action → Option Int)) : Option (List Action) :=
  (F_slices_stableCmpFunc_Action x1 (x1.length : Int) cmp3).bind fun l4 => some l4
theorem c_slices_SortStableFunc_Action_o (v2 : Value) (x1 : (List Action)) (cmp3 : (Action → Action → Option Int)) (r : (List Action)) (h : F_slices_SortStableFunc_Action x1 cmp3 = some r) : Con Tryz.prog 219 [raw v2, fn2 Tryz.prog kAction kAction (kint .i64) cmp3] (Row v2 121 kAction x1) (fun _ : Unit => top) (fun _ => Row v2 121 kAction r) := by
  refine Con.intro Tryz.func219 rfl Tryz.ntmps219 rfl fun w H X => ?_
  unfold F_slices_SortStableFunc_Action at h
  obtain ⟨l4, hl4, h⟩ := bsome h
  refine Rg <| Mw rfl <| Mw rfl <| Ac (op_leno 0 rfl rfl sl122 (vt rfl) rfl) rfl <| Ac (op_move (A := fn2 Tryz.prog kAction kAction (kint .i64) cmp3) rfl rfl (vt rfl)) rfl <| Ct rfl (op_callR 0 (xs := [.tmp 4, .tmp 6, .tmp 7]) (c_slices_stableCmpFunc_Action_o _ _ _ _ _ hl4) e274 rfl rfl ⟨vt rfl, vt rfl, vt rfl, trivial⟩ rfl) ?_
  rintro _ ⟨_u, rfl⟩
  refine Nl ?_
  obtain rfl := si h
  exact ret0Y (i := 0) Tryz.results219 rfl rfl
def F_aset_List_3 (a1 : Action) (b2 : Action) : Option Int :=
  (F_aset_at a1).bind fun x5 => (F_aset_at b2).bind fun x6 => (F_aset_turn x5.kind).bind fun x9 => (F_aset_turn x6.kind).bind fun x10 => (bif (decide ((IntKind.i64.wrap (x9 - x10)) ≠ 0)) then some (IntKind.i64.wrap (x9 - x10)) else (bif (decide (x5.field < x6.field)) then some (-1) else (bif (decide (x5.field > x6.field)) then some 1 else some 0)))
theorem c_aset_List_3 (a1 : Action) (b2 : Action) (r : Int) (h : F_aset_List_3 a1 b2 = some r) : PCon Tryz.prog 220 [rd kAction a1, rd kAction b2] (rd (kint .i64) r) := by
  refine PCon.of (Con.intro0 Tryz.func220 rfl Tryz.ntmps220 rfl fun w H => ?_)
  unfold F_aset_List_3 at h
  refine SR <| Ct rfl (op_box 3 rfl rfl (vt rfl)) ?_
  rintro _ ⟨g3, rfl⟩
  refine Ct rfl (op_box 4 rfl rfl (vt rfl)) ?_
  rintro _ ⟨g4, rfl⟩
  refine Ak rfl <| Nl <| AW.seq ?_
  obtain ⟨x5, hx5, h⟩ := bsome h
  obtain ⟨x6, hx6, h⟩ := bsome h
  refine AW.regionAny [⟨[2], [8], [3], []⟩, ⟨[8], [9], [], []⟩, ⟨[3], [10], [4], []⟩, ⟨[10], [11], [], []⟩, ⟨[], [5], [], []⟩, ⟨[], [6], [], []⟩, ⟨[5, 9], [5], [], []⟩, ⟨[6, 11], [6], [], []⟩] mixed (by kernel_rfl) <| SLd ty121 3 rfl <| SCl [8] (c_aset_at _ _ hx5) e221 rfl <| SLd ty121 4 rfl <| SCl [10] (c_aset_at _ _ hx6) e221 rfl <| Sc (locs (us := [(5, ownP 275 kaset_spot zaset_spot)]) (ur := []) [] [] rfl fun S hs hr => op_allocO rfl rfl rfl zr275) rfl <| Sc (locs (us := [(6, ownP 275 kaset_spot zaset_spot)]) (ur := []) [] [] rfl fun S hs hr => op_allocO rfl rfl rfl zr275) rfl <| Sc (locs (us := [(5, ownP 275 kaset_spot x5)]) (ur := []) [5, 9] [] rfl fun S hs hr => op_storeO rfl rfl ty275 ((hs 5 rfl).trans rfl) (vh hs 9 rfl rfl)) rfl <| Sc (locs (us := [(6, ownP 275 kaset_spot x6)]) (ur := []) [6, 11] [] rfl fun S hs hr => op_storeO rfl rfl ty275 ((hs 6 rfl).trans rfl) (vh hs 11 rfl rfl)) rfl <| AW.unpackP 5 6 rfl rfl fun g7 => AW.unpackP 6 7 rfl rfl fun g8 => AW.seq <| AW.seq ?_
  obtain ⟨x9, hx9, h⟩ := bsome h
  obtain ⟨x10, hx10, h⟩ := bsome h
  refine AW.regionAny [⟨[5], [12], [], []⟩, ⟨[12], [13], [6], []⟩, ⟨[13], [14], [], []⟩, ⟨[6], [15], [], []⟩, ⟨[15], [16], [7], []⟩, ⟨[16], [17], [], []⟩, ⟨[14, 17], [18], [], []⟩, ⟨[18], [7], [], []⟩] mixed (by kernel_rfl) <| SFd laset_spot_0 fl275_0 rfl <| SLd ty3 6 rfl <| SCl [13] (c_aset_turn _ _ hx9) e218 rfl <| SFd laset_spot_0 fl275_0 rfl <| SLd ty3 7 rfl <| SCl [16] (c_aset_turn _ _ hx10) e218 rfl <| Sc (lo [14, 17] [] rfl fun S hs hr => op_sub rfl rfl (vh hs 14 rfl rfl) (vh hs 17 rfl rfl)) rfl <| SAs rfl <| SR <| Md rfl <| Ac (op_neq rfl rfl (vt rfl) (vk rfl)) rfl <| Nl <| Cn rfl (fun hc => ?_) (fun hc => ?_)
  · have h := cond_t hc h
    refine SR <| Md rfl <| As rfl <| Nl <| AW.ret ?_
    obtain rfl := si h
    exact ret1 Tryz.results220 rfl (out_tmp rfl)
  · have h := cond_f hc h
    refine AW.skip <| AW.seq <| AW.block <| SR <| FdA laset_spot_1 fl275_1 rfl <| Ld ty3 6 rfl <| FdA laset_spot_1 fl275_1 rfl <| Ld ty3 7 rfl <| Ac (op_lss rfl rfl (vt rfl) (vt rfl)) rfl <| As rfl <| Nl <| Cn rfl (fun hc => ?_) (fun hc => ?_)
    · have h := cond_t hc h
      refine SR <| Ak rfl <| Nl <| AW.ret ?_
      obtain rfl := si h
      exact ret1 Tryz.results220 rfl (out_tmp rfl)
    · have h := cond_f hc h
      refine SR <| FdA laset_spot_1 fl275_1 rfl <| Ld ty3 6 rfl <| FdA laset_spot_1 fl275_1 rfl <| Ld ty3 7 rfl <| Ac (op_gtr rfl rfl (vt rfl) (vt rfl)) rfl <| As rfl <| Nl <| Cn rfl (fun hc => ?_) (fun hc => ?_)
      · have h := cond_t hc h
        refine SR <| Ak rfl <| Nl <| AW.ret ?_
        obtain rfl := si h
        exact ret1 Tryz.results220 rfl (out_tmp rfl)
      · have h := cond_f hc h
        refine AW.skip <| SR <| Ak rfl <| Nl <| AW.ret ?_
        obtain rfl := si h
        exact ret1 Tryz.results220 rfl (out_tmp rfl)
def F_aset_List (set1 : (List Action)) : Option (List Action) :=
  (F_slices_ContainsFunc_Action set1 F_aset_List_1).bind fun x2 => (F_slices_Clone_Action set1).bind fun x4 => (F_slices_DeleteFunc_Action x4 (fun x => F_aset_List_2 x x2)).bind fun x6 => (F_slices_SortStableFunc_Action x6 F_aset_List_3).bind fun l8 => some l8
theorem c_aset_List (set1 : (List Action)) (r : (List Action)) (h : F_aset_List set1 = some r) : PCon Tryz.prog 149 [rd (ksl kAction) set1] (rd (ksl kAction) r) := by
  refine PCon.of (Con.intro0 Tryz.func149 rfl Tryz.ntmps149 rfl fun w H => ?_)
  unfold F_aset_List at h
  refine SR <| Ac (op_assign (A := rd (ksl kAction) []) rfl rfl vnil) rfl <| Nl <| AW.seq ?_
  obtain ⟨x2, hx2, h⟩ := bsome h
  refine Rg <| Md rfl <| Ac (op_call (xs := [.tmp 5, .func 214]) (c_slices_ContainsFunc_Action _ _ _ hx2) e213 rfl rfl ⟨vt rfl, vf1 e214 c_aset_List_1, trivial⟩) rfl <| Ct rfl (op_alloc 4 rfl rfl zr4) ?_
  rintro _ ⟨g3, rfl⟩
  refine Sto ty4 4 rfl <| Nl <| AW.seq <| AW.freezeB 3 4 rfl rfl rfl ?_
  obtain ⟨x4, hx4, h⟩ := bsome h
  obtain ⟨x6, hx6, h⟩ := bsome h
  refine Rg <| Md rfl <| Ct rfl (op_callR 1001 (xs := [.tmp 7]) (c_slices_Clone_Action_o _ _ hx4) e216 rfl rfl ⟨vt rfl, trivial⟩ rfl) ?_
  rintro _ ⟨v5, rfl⟩
  refine Ac (op_fn1 (cs := [.tmp 3]) (CAs := [rp kbool x2]) (fun x => F_aset_List_2 x x2) rfl rfl e217 ⟨vt rfl, trivial⟩ (fun x y h => c_aset_List_2 _ _ y h)) rfl <| Ct rfl (op_callR 1001 (xs := [.tmp 8, .tmp 9]) (c_slices_DeleteFunc_Action_o _ _ _ _ hx6) e215 rfl rfl ⟨vt rfl, vt rfl, trivial⟩ rfl) ?_
  rintro _ ⟨v7, rfl⟩
  refine Aw rfl <| Nl <| AW.seq ?_
  obtain ⟨l8, hl8, h⟩ := bsome h
  refine Rg <| Mw rfl <| Ct rfl (op_callR 1001 (xs := [.tmp 11, .func 220]) (c_slices_SortStableFunc_Action_o _ _ _ _ hl8) e219 rfl rfl ⟨vt rfl, vf2 e220 c_aset_List_3, trivial⟩ rfl) ?_
  rintro _ ⟨_u, rfl⟩
  refine Nl <| SR <| Mw rfl <| Aw rfl <| Nl <| AW.freezes [2, 4, 10, 11, 13] 1001 rfl ⟨rfl, rfl, rfl, rfl, rfl, trivial⟩ rfl <| AW.ret ?_
  obtain rfl := si h
  exact ret1 Tryz.results149 rfl (out_tmp rfl)
end Go.Proofs.YtknpgojdkobgjaaGreat.W
set_option linter.unusedVariables false
set_option maxRecDepth 4000
set_option linter.unusedSimpArgs false
namespace Go.Proofs.YtknpgojdkobgjaaGreat.W
open Go Go.Wb
theorem e204 : Ent Tryz.prog 204 := Ent.mk Tryz.func204 rfl rfl
theorem e149 : Ent Tryz.prog 149 := Ent.mk Tryz.func149 rfl rfl
theorem e205 : Ent Tryz.prog 205 := Ent.mk Tryz.func205 rfl rfl
theorem e206 : Ent Tryz.prog 206 := Ent.mk Tryz.func206 rfl rfl
theorem e208 : Ent Tryz.prog 208 := Ent.mk Tryz.func208 rfl rfl
theorem e135 : Ent Tryz.prog 135 := Ent.mk Tryz.func135 rfl rfl
theorem e138 : Ent Tryz.prog 138 := Ent.mk Tryz.func138 rfl rfl
theorem e136 : Ent Tryz.prog 136 := Ent.mk Tryz.func136 rfl rfl
theorem e137 : Ent Tryz.prog 137 := Ent.mk Tryz.func137 rfl rfl
theorem e76 : Ent Tryz.prog 76 := Ent.mk Tryz.func76 rfl rfl
theorem e75 : Ent Tryz.prog 75 := Ent.mk Tryz.func75 rfl rfl
theorem e146 : Ent Tryz.prog 146 := Ent.mk Tryz.func146 rfl rfl
theorem e22 : Ent Tryz.prog 22 := Ent.mk Tryz.func22 rfl rfl
theorem e85 : Ent Tryz.prog 85 := Ent.mk Tryz.func85 rfl rfl
def F_walk_way_follow_j4 (l3 : (List Inst)) (at2 : Int) (b9 : walk_way) : Option (walk_way × Int × Bool) :=
  (F_inst_Of l3 1).bind fun x10 => (bif ((x10.2 && (decide (x10.1.Table > at2))) && (decide (x10.1.Table < 4))) then some (b9, x10.1.Table, true) else (F_aset_List b9.set).bind fun x12 => (F_walk_way_act b9 x12).bind fun x13 => some (x13, 0, false))
def F_walk_way_follow_j3 (l3 : (List Inst)) (at2 : Int) (b8 : walk_way) : Option (walk_way × Int × Bool) :=
  (F_inst_Of l3 2).bind fun x14 => (bif x14.2 then (F_rewrite_Set b8.got 1 x14.1.Value x14.1.Mask).bind fun x16 => F_walk_way_follow_j4 l3 at2 { b8 with got := x16 } else F_walk_way_follow_j4 l3 at2 b8)
def F_walk_way_follow_j2 (l3 : (List Inst)) (at2 : Int) (b7 : walk_way) : Option (walk_way × Int × Bool) :=
  (F_inst_Of l3 3).bind fun x17 => (bif x17.2 then (F_aset_Write b7.set x17.1.Acts).bind fun x19 => F_walk_way_follow_j3 l3 at2 { b7 with set := x19 } else F_walk_way_follow_j3 l3 at2 b7)
def F_walk_way_follow_j1 (l3 : (List Inst)) (at2 : Int) (b6 : walk_way) : Option (walk_way × Int × Bool) :=
  (F_inst_Of l3 5).bind fun x20 => (bif x20.2 then F_walk_way_follow_j2 l3 at2 { b6 with set := [] } else F_walk_way_follow_j2 l3 at2 b6)
def F_walk_way_follow (w1 : walk_way) (at2 : Int) (l3 : (List Inst)) : Option (walk_way × Int × Bool) :=
  (F_inst_Of l3 4).bind fun x22 => (bif x22.2 then (F_walk_way_act w1 x22.1.Acts).bind fun x24 => F_walk_way_follow_j1 l3 at2 x24 else F_walk_way_follow_j1 l3 at2 w1)
theorem c_walk_way_follow (w1 : walk_way) (at2 : Int) (l3 : (List Inst)) (r : (walk_way × Int × Bool)) (h : F_walk_way_follow w1 at2 l3 = some r) : PCon Tryz.prog 137 [rd kwalk_way w1, rd (kint .i64) at2, rd (ksl kInst) l3] (tup3 (rd kwalk_way r.1) (rd (kint .i64) r.2.1) (rd kbool r.2.2)) := by
  refine PCon.of (Con.intro0 Tryz.func137 rfl Tryz.ntmps137 rfl fun w H => ?_)
  unfold F_walk_way_follow at h
  refine SR <| Ct rfl (op_box 4 rfl rfl (vt rfl)) ?_
  rintro _ ⟨g4, rfl⟩
  refine Ct rfl (op_alloc 7 rfl rfl zr135) ?_
  rintro _ ⟨g5, rfl⟩
  refine Ak rfl <| Ab rfl <| Nl ?_
  refine AW.join (d := []) (ν := walk_way) (fun n => F_walk_way_follow_j1 l3 at2 n = some r) (fun n => [(1, rd (kint .i64) at2), (2, rd (ksl kInst) l3), (3, ptrL g4 (Lens.id kwalk_way)), (6, ptrL g5 (Lens.id kwalk_way))]) (fun n => [(4, Blk g4 135 kwalk_way n), (7, Blk g5 135 kwalk_way zwalk_way)]) ?hx1 ?hy1
  case hy1 =>
    intro b6 h
    unfold F_walk_way_follow_j1 at h
    change AW _ _ _ ⟨slots [(1, rd (kint .i64) at2), (2, rd (ksl kInst) l3), (3, ptrL g4 (Lens.id kwalk_way)), (6, ptrL g5 (Lens.id kwalk_way))], ress [(4, Blk g4 135 kwalk_way b6), (7, Blk g5 135 kwalk_way zwalk_way)], _⟩
    refine AW.join (d := []) (ν := walk_way) (fun n => F_walk_way_follow_j2 l3 at2 n = some r) (fun n => [(1, rd (kint .i64) at2), (2, rd (ksl kInst) l3), (3, ptrL g4 (Lens.id kwalk_way)), (6, ptrL g5 (Lens.id kwalk_way))]) (fun n => [(4, Blk g4 135 kwalk_way n), (7, Blk g5 135 kwalk_way zwalk_way)]) ?hx2 ?hy2
    case hy2 =>
      intro b7 h
      unfold F_walk_way_follow_j2 at h
      change AW _ _ _ ⟨slots [(1, rd (kint .i64) at2), (2, rd (ksl kInst) l3), (3, ptrL g4 (Lens.id kwalk_way)), (6, ptrL g5 (Lens.id kwalk_way))], ress [(4, Blk g4 135 kwalk_way b7), (7, Blk g5 135 kwalk_way zwalk_way)], _⟩
      refine AW.join (d := []) (ν := walk_way) (fun n => F_walk_way_follow_j3 l3 at2 n = some r) (fun n => [(1, rd (kint .i64) at2), (2, rd (ksl kInst) l3), (3, ptrL g4 (Lens.id kwalk_way)), (6, ptrL g5 (Lens.id kwalk_way))]) (fun n => [(4, Blk g4 135 kwalk_way n), (7, Blk g5 135 kwalk_way zwalk_way)]) ?hx3 ?hy3
      case hy3 =>
        intro b8 h
        unfold F_walk_way_follow_j3 at h
        change AW _ _ _ ⟨slots [(1, rd (kint .i64) at2), (2, rd (ksl kInst) l3), (3, ptrL g4 (Lens.id kwalk_way)), (6, ptrL g5 (Lens.id kwalk_way))], ress [(4, Blk g4 135 kwalk_way b8), (7, Blk g5 135 kwalk_way zwalk_way)], _⟩
        refine AW.join (d := []) (ν := walk_way) (fun n => F_walk_way_follow_j4 l3 at2 n = some r) (fun n => [(1, rd (kint .i64) at2), (2, rd (ksl kInst) l3), (3, ptrL g4 (Lens.id kwalk_way)), (6, ptrL g5 (Lens.id kwalk_way))]) (fun n => [(4, Blk g4 135 kwalk_way n), (7, Blk g5 135 kwalk_way zwalk_way)]) ?hx4 ?hy4
        case hy4 =>
          intro b9 h
          unfold F_walk_way_follow_j4 at h
          change AW _ _ _ ⟨slots [(1, rd (kint .i64) at2), (2, rd (ksl kInst) l3), (3, ptrL g4 (Lens.id kwalk_way)), (6, ptrL g5 (Lens.id kwalk_way))], ress [(4, Blk g4 135 kwalk_way b9), (7, Blk g5 135 kwalk_way zwalk_way)], _⟩
          refine AW.seq ?_
          obtain ⟨x10, hx10, h⟩ := bsome h
          refine Rg <| Md rfl <| Ac (op_call (xs := [.tmp 63, .const (Value.int IntKind.i64 1)]) (c_inst_Of _ _ _ hx10) e204 rfl rfl ⟨vt rfl, vk rfl, trivial⟩) rfl <| Mt2 rfl <| Ac (op_fst rfl rfl (vt rfl)) rfl <| Ac (op_snd rfl rfl (vt rfl)) rfl <| Ct rfl (op_alloc 18 rfl rfl zr124) ?_
          rintro _ ⟨g11, rfl⟩
          refine Sto ty124 18 rfl <| As rfl <| Nl <| AW.seq <| SR <| Md rfl <| Md rfl <| Gd rfl (fun hq => op_field lInst_1 rfl rfl fl124_1 (vt rfl)) <| Gd rfl (fun hq => op_load rfl rfl ty3 (vgt rfl hq) (i := 18) rfl) <| Gd rfl (fun hq => op_move (A := rd (kint .i64) at2) rfl rfl (vt rfl)) <| Gd rfl (fun hq => op_gtr rfl rfl (vgt rfl hq) (vgt rfl hq)) <| Ac (op_all rfl rfl (vt rfl) (vt rfl)) rfl <| Md rfl <| Gd rfl (fun hq => op_field lInst_1 rfl rfl fl124_1 (vt rfl)) <| Gd rfl (fun hq => op_load rfl rfl ty3 (vgt rfl hq) (i := 18) rfl) <| Gd rfl (fun hq => op_lss rfl rfl (vgt rfl hq) (vk rfl)) <| Ac (op_all rfl rfl (vt rfl) (vt rfl)) rfl <| Nl <| Cn rfl (fun hc => ?_) (fun hc => ?_)
          · have h := cond_t hc h
            refine AW.seq <| AW.regionAny [⟨[3], [79], [4], []⟩, ⟨[17], [80], [], []⟩, ⟨[80], [81], [18], []⟩, ⟨[6, 79], [], [7], [7]⟩, ⟨[81], [7], [], []⟩, ⟨[], [8], [], []⟩] mixed (by kernel_rfl) <| SLd ty135 4 rfl <| SFd lInst_1 fl124_1 rfl <| SLd ty3 18 rfl <| SSt ty135 7 rfl <| SAs rfl <| Sc (lo [] [] rfl fun S hs hr => op_assign (A := rd kbool true) rfl rfl vb) rfl <| AW.ret ?_
            obtain rfl := si h
            exact ret3 Tryz.results137 rfl (out_cell rfl (i := 7) rfl ty135) (out_tmp rfl) (out_tmp rfl)
          · have h := cond_f hc h
            refine AW.skip <| AW.seq ?_
            obtain ⟨x12, hx12, h⟩ := bsome h
            obtain ⟨x13, hx13, h⟩ := bsome h
            refine AW.regionAny [⟨[3], [82], [4], []⟩, ⟨[3], [83], [], []⟩, ⟨[83], [84], [4], []⟩, ⟨[84], [85], [], []⟩, ⟨[82, 85], [86], [], []⟩, ⟨[6, 86], [], [7], [7]⟩, ⟨[], [7], [], []⟩, ⟨[], [8], [], []⟩] mixed (by kernel_rfl) <| SLd ty135 4 rfl <| SFd lwalk_way_3 fl135_3 rfl <| SLd ty122 4 rfl <| SCl [84] (c_aset_List _ _ hx12) e149 rfl <| SCl [82, 85] (c_walk_way_act _ _ _ hx13) e205 rfl <| SSt ty135 7 rfl <| Sc (lo [] [] rfl fun S hs hr => op_assign (A := rd (kint .i64) 0) rfl rfl (vk rfl)) rfl <| Sc (lo [] [] rfl fun S hs hr => op_assign (A := rd kbool false) rfl rfl vb) rfl <| AW.ret ?_
            obtain rfl := si h
            exact ret3 Tryz.results137 rfl (out_cell rfl (i := 7) rfl ty135) (out_tmp rfl) (out_tmp rfl)
        case hx4 =>
          refine AW.seq ?_
          obtain ⟨x14, hx14, h⟩ := bsome h
          refine Rg <| Md rfl <| Ac (op_call (xs := [.tmp 49, .const (Value.int IntKind.i64 2)]) (c_inst_Of _ _ _ hx14) e204 rfl rfl ⟨vt rfl, vk rfl, trivial⟩) rfl <| Mt2 rfl <| Ac (op_fst rfl rfl (vt rfl)) rfl <| Ac (op_snd rfl rfl (vt rfl)) rfl <| Ct rfl (op_alloc 16 rfl rfl zr124) ?_
          rintro _ ⟨g15, rfl⟩
          refine Sto ty124 16 rfl <| As rfl <| Nl <| SR <| Md rfl <| Nl <| Cn rfl (fun hc => ?_) (fun hc => ?_)
          · have h := cond_t hc h
            obtain ⟨x16, hx16, h⟩ := bsome h
            refine Rg <| FdA lwalk_way_1 fl135_1 rfl <| Ld ty101 4 rfl <| FdA lInst_2 fl124_2 rfl <| Ld ty42 16 rfl <| FdA lInst_3 fl124_3 rfl <| Ld ty42 16 rfl <| Ac (op_call (xs := [.tmp 55, .const (Value.int IntKind.i64 1), .tmp 57, .tmp 59]) (c_rewrite_Set _ _ _ _ _ hx16) e207 rfl rfl ⟨vt rfl, vk rfl, vt rfl, vt rfl, trivial⟩) rfl <| FdA lwalk_way_1 fl135_1 rfl <| Sto ty101 4 rfl <| Nl ?_
            exact ⟨{ b8 with got := x16 }, h, ⟨rfl, ⟨rfl, rfl, rfl, rfl, trivial⟩, ⟨rfl, rfl, trivial⟩⟩⟩
          · have h := cond_f hc h
            refine AW.skip ?_
            exact ⟨b8, h, ⟨rfl, ⟨rfl, rfl, rfl, rfl, trivial⟩, ⟨rfl, rfl, trivial⟩⟩⟩
      case hx3 =>
        refine AW.seq ?_
        obtain ⟨x17, hx17, h⟩ := bsome h
        refine Rg <| Md rfl <| Ac (op_call (xs := [.tmp 37, .const (Value.int IntKind.i64 3)]) (c_inst_Of _ _ _ hx17) e204 rfl rfl ⟨vt rfl, vk rfl, trivial⟩) rfl <| Mt2 rfl <| Ac (op_fst rfl rfl (vt rfl)) rfl <| Ac (op_snd rfl rfl (vt rfl)) rfl <| Ct rfl (op_alloc 14 rfl rfl zr124) ?_
        rintro _ ⟨g18, rfl⟩
        refine Sto ty124 14 rfl <| As rfl <| Nl <| SR <| Md rfl <| Nl <| Cn rfl (fun hc => ?_) (fun hc => ?_)
        · have h := cond_t hc h
          obtain ⟨x19, hx19, h⟩ := bsome h
          refine Rg <| FdA lwalk_way_3 fl135_3 rfl <| Ld ty122 4 rfl <| FdA lInst_4 fl124_4 rfl <| Ld ty122 14 rfl <| Cl [43, 45] (c_aset_Write _ _ _ hx19) e206 rfl <| FdA lwalk_way_3 fl135_3 rfl <| Sto ty122 4 rfl <| Nl ?_
          exact ⟨{ b7 with set := x19 }, h, ⟨rfl, ⟨rfl, rfl, rfl, rfl, trivial⟩, ⟨rfl, rfl, trivial⟩⟩⟩
        · have h := cond_f hc h
          refine AW.skip ?_
          exact ⟨b7, h, ⟨rfl, ⟨rfl, rfl, rfl, rfl, trivial⟩, ⟨rfl, rfl, trivial⟩⟩⟩
    case hx2 =>
      refine AW.seq ?_
      obtain ⟨x20, hx20, h⟩ := bsome h
      refine Rg <| Md rfl <| Ac (op_call (xs := [.tmp 30, .const (Value.int IntKind.i64 5)]) (c_inst_Of _ _ _ hx20) e204 rfl rfl ⟨vt rfl, vk rfl, trivial⟩) rfl <| Mt2 rfl <| Ac (op_fst rfl rfl (vt rfl)) rfl <| Ac (op_snd rfl rfl (vt rfl)) rfl <| Ct rfl (op_alloc 12 rfl rfl zr124) ?_
      rintro _ ⟨g21, rfl⟩
      refine Sto ty124 12 rfl <| As rfl <| Nl <| SR <| Md rfl <| Nl <| Cn rfl (fun hc => ?_) (fun hc => ?_)
      · have h := cond_t hc h
        refine Rg <| FdA lwalk_way_3 fl135_3 rfl <| Ac (op_store rfl rfl ty122 (vt rfl) (i := 4) rfl vnil) rfl <| Nl ?_
        exact ⟨{ b6 with set := [] }, h, ⟨rfl, ⟨rfl, rfl, rfl, rfl, trivial⟩, ⟨rfl, rfl, trivial⟩⟩⟩
      · have h := cond_f hc h
        refine AW.skip ?_
        exact ⟨b6, h, ⟨rfl, ⟨rfl, rfl, rfl, rfl, trivial⟩, ⟨rfl, rfl, trivial⟩⟩⟩
  case hx1 =>
    refine AW.seq ?_
    obtain ⟨x22, hx22, h⟩ := bsome h
    refine Rg <| Md rfl <| Ac (op_call (xs := [.tmp 20, .const (Value.int IntKind.i64 4)]) (c_inst_Of _ _ _ hx22) e204 rfl rfl ⟨vt rfl, vk rfl, trivial⟩) rfl <| Mt2 rfl <| Ac (op_fst rfl rfl (vt rfl)) rfl <| Ac (op_snd rfl rfl (vt rfl)) rfl <| Ct rfl (op_alloc 10 rfl rfl zr124) ?_
    rintro _ ⟨g23, rfl⟩
    refine Sto ty124 10 rfl <| As rfl <| Nl <| SR <| Md rfl <| Nl <| Cn rfl (fun hc => ?_) (fun hc => ?_)
    · have h := cond_t hc h
      obtain ⟨x24, hx24, h⟩ := bsome h
      refine Rg <| Ld ty135 4 rfl <| FdA lInst_4 fl124_4 rfl <| Ld ty122 10 rfl <| Cl [25, 27] (c_walk_way_act _ _ _ hx24) e205 rfl <| Sto ty135 4 rfl <| Nl ?_
      exact ⟨x24, h, ⟨rfl, ⟨rfl, rfl, rfl, rfl, trivial⟩, ⟨rfl, rfl, trivial⟩⟩⟩
    · have h := cond_f hc h
      refine AW.skip ?_
      exact ⟨w1, h, ⟨rfl, ⟨rfl, rfl, rfl, rfl, trivial⟩, ⟨rfl, rfl, trivial⟩⟩⟩
def F_slices_Clone_Atom (s : List Atom) : Option (List Atom) := appd [] s
theorem c_slices_Clone_Atom_o (s : List Atom) (r : List Atom) (h : F_slices_Clone_Atom s = some r) : Con Tryz.prog 208 [rd (ksl kAtom) s] emp (fun v => raw v) (fun v => Row v 126 kAtom r) := by
  refine Con.intro0 Tryz.func208 rfl Tryz.ntmps208 rfl fun w H => ?_
  unfold F_slices_Clone_Atom at h
  refine AW.newnil 1001 126 kAtom <| SR <| Ac (op_assign (A := raw (.slice none 0 0)) rfl rfl vc) rfl <| Nl <| AW.seq <| SR <| Md rfl <| Ct rfl (op_eqnil rfl rfl sl88 (vt rfl)) ?_
  rintro _ ⟨b, hb, rfl⟩
  refine Nl <| Cn rfl (fun hc => ?_) (fun hc => ?_)
  · obtain rfl := hb hc
    refine SR <| Ac (op_assign (A := raw (.slice none 0 0)) rfl rfl vc) rfl <| Nl <| AW.ret ?_
    obtain rfl := (appd_of h).2
    exact ret1R (i := 1001) Tryz.results208 rfl rfl rfl
  · refine AW.skip <| SR <| Ct rfl (op_buildSlice 1002 (ps := []) (l := []) rfl rfl sl88 zr126 rfl rfl rfl rfl) ?_
    rintro _ ⟨v1, rfl⟩
    refine Md rfl <| Ct rfl (op_append' 1002 h rfl rfl el88 (vt rfl) rfl (vt rfl)) ?_
    rintro _ ⟨v2, rfl⟩
    refine Aw rfl <| Nl <| AW.ret ?_
    exact ret1R (i := 1002) Tryz.results208 rfl rfl rfl
theorem c_slices_Clone_Atom (s : List Atom) (r : List Atom) (h : F_slices_Clone_Atom s = some r) : PCon Tryz.prog 208 [rd (ksl kAtom) s] (rd (ksl kAtom) r) := PCon.of_row (c_slices_Clone_Atom_o s r h)
def F_walk_way_rule (w1 : walk_way) : Option Rule :=
  (F_slices_Clone_Atom w1.atoms).bind fun x4 => some (⟨w1.cube, x4⟩ : Rule)
theorem c_walk_way_rule (w1 : walk_way) (r : Rule) (h : F_walk_way_rule w1 = some r) : PCon Tryz.prog 138 [rd kwalk_way w1] (rd kRule r) := by
  refine PCon.of (Con.intro0 Tryz.func138 rfl Tryz.ntmps138 rfl fun w H => ?_)
  unfold F_walk_way_rule at h
  refine SR <| Ct rfl (op_box 2 rfl rfl (vt rfl)) ?_
  rintro _ ⟨g2, rfl⟩
  refine Ct rfl (op_alloc 3 rfl rfl zr90) ?_
  rintro _ ⟨g3, rfl⟩
  refine Nl <| AW.seq ?_
  obtain ⟨x4, hx4, h⟩ := bsome h
  refine AW.regionAny [⟨[1], [3], [], []⟩, ⟨[3], [4], [2], []⟩, ⟨[1], [5], [], []⟩, ⟨[5], [6], [2], []⟩, ⟨[6], [7], [], []⟩, ⟨[4, 7], [8], [], []⟩, ⟨[2, 8], [], [3], [3]⟩] mixed (by kernel_rfl) <| SFd lwalk_way_0 fl135_0 rfl <| SLd ty87 2 rfl <| SFd lwalk_way_2 fl135_2 rfl <| SLd ty88 2 rfl <| SCl [6] (c_slices_Clone_Atom _ _ hx4) e208 rfl <| Sc (lo [4, 7] [] rfl fun S hs hr => op_build (ps := [(0, .tmp 4), (1, .tmp 7)]) (x := (⟨w1.cube, x4⟩ : Rule)) rfl rfl rfl (by kernel_rfl) zr90 ⟨_, _, lRule_0, _, by kernel_rfl, (vh hs 4 rfl rfl), _, _, lRule_1, _, by kernel_rfl, (vh hs 7 rfl rfl), rfl⟩) rfl <| SSt ty90 3 rfl <| AW.ret ?_
  obtain rfl := si h
  exact ret1 Tryz.results138 rfl (out_cell rfl (i := 3) rfl ty90)
def F_walk_search_table_s_j2 (sg : Type) (go1 : Nat → (Lp sg) → Option (Bool × Lp sg)) (i11 : Nat) (s22 : (Lp sg)) (ok23 : Bool) : Option (Bool × Lp sg) :=
  (bif (!ok23) then some (false, s22) else go1 (i11 + 1) s22)
def F_walk_search_table_s_l1 (sg : Type) (w5 : walk_way) (y1 : (sg → Rule → Option (Lp sg))) (at4 : Int) (s3 : Switch) (R_walk_search_table : ((Lp sg) → Switch → Int → walk_way → Option (Bool × Lp sg))) : (List Int) → Nat → (Lp sg) → Option (Bool × Lp sg)
  | [], i11, s10 => (F_walk_way_rule w5).bind fun x13 => (yc y1 s10 x13).bind fun s14 => some ((Lp.isGo s14), s14)
  | x15 :: l12, i11, s10 => (chk 4 at4).bind fun j16 => (lget (Vector.get s3.Tables j16) x15).bind fun e17 => (F_walk_way_meet w5 e17).bind fun x19 => (bif (!x19.2) then (F_walk_search_table_s_l1 sg w5 y1 at4 s3 R_walk_search_table l12) (i11 + 1) s10 else (F_walk_way_follow x19.1 at4 e17.Insts).bind fun x21 => (bif x21.2.2 then (R_walk_search_table s10 s3 x21.2.1 x21.1).bind fun b24 => F_walk_search_table_s_j2 sg (F_walk_search_table_s_l1 sg w5 y1 at4 s3 R_walk_search_table l12) i11 b24.2 b24.1 else (F_walk_way_rule x21.1).bind fun x25 => (yc y1 s10 x25).bind fun s26 => F_walk_search_table_s_j2 sg (F_walk_search_table_s_l1 sg w5 y1 at4 s3 R_walk_search_table l12) i11 s26 (Lp.isGo s26)))
def F_walk_search_table_s (sg : Type) (y1 : (sg → Rule → Option (Lp sg))) (R_walk_search_table : ((Lp sg) → Switch → Int → walk_way → Option (Bool × Lp sg))) (s2 : (Lp sg)) (s3 : Switch) (at4 : Int) (w5 : walk_way) : Option (Bool × Lp sg) :=
  (chk 4 at4).bind fun j7 => (F_first_Order (Vector.get s3.Tables j7)).bind fun x8 => F_walk_search_table_s_l1 sg w5 y1 at4 s3 R_walk_search_table x8 0 s2
theorem c_walk_search_table_s (sg : Type) (y1 : (sg → Rule → Option (Lp sg))) (L : Lp sg → Res) (R_walk_search_table : ((Lp sg) → Switch → Int → walk_way → Option (Bool × Lp sg))) (hR_walk_search_table : ∀ (s2 : (Lp sg)) (s3 : Switch) (at4 : Int) (w5 : walk_way) (r : (Bool × Lp sg)), R_walk_search_table s2 s3 at4 w5 = some r → Con Tryz.prog 76 [rp (ksp kSwitch (ydA Tryz.prog kRule y1 L)) s3, rd (kint .i64) at4, rd kwalk_way w5] (L s2) (fun _ : Unit => rd kbool r.1) (fun _ => L r.2)) (s2 : (Lp sg)) (s3 : Switch) (at4 : Int) (w5 : walk_way) (r : (Bool × Lp sg)) (h : F_walk_search_table_s sg y1 R_walk_search_table s2 s3 at4 w5 = some r) : Con Tryz.prog 76 [rp (ksp kSwitch (ydA Tryz.prog kRule y1 L)) s3, rd (kint .i64) at4, rd kwalk_way w5] (L s2) (fun _ : Unit => rd kbool r.1) (fun _ => L r.2) := by
  refine Con.intro Tryz.func76 rfl Tryz.ntmps76 rfl fun w H X => ?_
  unfold F_walk_search_table_s at h
  refine SR <| Ct rfl (op_box 6 rfl rfl (vt rfl)) ?_
  rintro _ ⟨g6, rfl⟩
  refine Ab rfl <| Nl <| AW.scope <| AW.seq <| AW.label <| AW.seq <| AW.seq ?_
  obtain ⟨j7, hj7, h⟩ := bsome h
  obtain ⟨x8, hx8, h⟩ := bsome h
  refine Rg <| Mr rfl <| Md rfl <| Ac (op_nilCheckp rfl rfl (vt rfl)) rfl <| Ac (op_fieldp (lsp0 kSwitch (ydA Tryz.prog kRule y1 L)) rfl rfl (flsp131_0 _) (vt rfl)) rfl <| Fp lSwitch_0 fl26_0 rfl <| Ac (op_indexp' rfl rfl ar23 (vt rfl) (vt rfl) hj7) rfl <| Lp1 ty22 rfl <| Cl [20] (c_first_Order _ _ hx8) e135 rfl <| Ac (op_len' rfl rfl sl37 (vt rfl)) rfl <| Mk rfl <| Nl <| AW.block <| AW.loopG (d := []) (ν := (List Int) × Nat × (Lp sg)) (fun n => Sfx x8 n.2.1 n.1 ∧ F_walk_search_table_s_l1 sg w5 y1 at4 s3 R_walk_search_table n.1 n.2.1 n.2.2 = some r) (fun n => n.1.length) (fun n => [(0, rp (ksp kSwitch (ydA Tryz.prog kRule y1 L)) s3), (1, rd (kint .i64) at4), (5, ptrL g6 (Lens.id kwalk_way)), (21, rd (ksl (kint .i64)) x8), (22, rd (kint .i64) (x8.length : Int)), (23, rd (kint .i64) (n.2.1 : Int))]) (fun n => [(0, L n.2.2), (6, Blk g6 135 kwalk_way w5)]) (x8, 0, s2) ⟨Sfx.start _, h⟩ ⟨rfl, ⟨rfl, rfl, rfl, rfl, rfl, rfl, trivial⟩, ⟨rfl, rfl, trivial⟩⟩ ?_
  rintro ⟨l12, i11, s10⟩ ⟨hsf1, h⟩
  change Sfx x8 i11 l12 at hsf1
  change F_walk_search_table_s_l1 sg w5 y1 at4 s3 R_walk_search_table l12 i11 s10 = some r at h
  change AW _ _ _ ⟨slots [(0, rp (ksp kSwitch (ydA Tryz.prog kRule y1 L)) s3), (1, rd (kint .i64) at4), (5, ptrL g6 (Lens.id kwalk_way)), (21, rd (ksl (kint .i64)) x8), (22, rd (kint .i64) (x8.length : Int)), (23, rd (kint .i64) (i11 : Int))], ress [(0, L s10), (6, Blk g6 135 kwalk_way w5)], _⟩
  cases l12 with
  | nil =>
    unfold F_walk_search_table_s_l1 at h
    refine SR <| Ac (op_lss rfl rfl (vt rfl) (vt rfl)) rfl <| Nl <| AW.seq <| Cn rfl (fun hc => absurd (of_decide_eq_true hc) hsf1.nil) (fun hc => ?_)
    refine AW.exit <| AW.seq ?_
    obtain ⟨x13, hx13, h⟩ := bsome h
    obtain ⟨s14, hs14, h⟩ := bsome h
    refine AW.regionAny [⟨[0], [69], [], []⟩, ⟨[69], [70], [], []⟩, ⟨[70], [71], [], []⟩, ⟨[71], [72], [], []⟩, ⟨[5], [73], [6], []⟩, ⟨[73], [74], [], []⟩, ⟨[72, 74], [75], [0], [0]⟩, ⟨[75], [6], [], []⟩] mixed (by kernel_rfl) <| Sc (lo [0] [] rfl fun S hs hr => op_move (A := rp (ksp kSwitch (ydA Tryz.prog kRule y1 L)) s3) rfl rfl (vh hs 0 rfl rfl)) rfl <| Sc (lo [69] [] rfl fun S hs hr => op_nilCheckp rfl rfl (vh hs 69 rfl rfl)) rfl <| Sc (lo [70] [] rfl fun S hs hr => op_fieldp (lsp1 kSwitch (ydA Tryz.prog kRule y1 L)) rfl rfl (flsp131_1 _) (vh hs 70 rfl rfl)) rfl <| Sc (lo [71] [] rfl fun S hs hr => op_loadpA (A := ydA Tryz.prog kRule y1 L) rfl rfl rfl (tyk92 _) (vh hs 71 rfl rfl)) rfl <| SLd ty135 6 rfl <| SCl [73] (c_walk_way_rule _ _ hx13) e138 rfl <| Sc (locs (us := [(75, rd kbool (Lp.isGo s14))]) (ur := [(0, L s14)]) [72, 74] [0] rfl fun S hs hr => op_yield 0 hs14 rfl rfl (vh hs 72 rfl rfl) (vh hs 74 rfl rfl) ((hr 0 rfl).trans rfl)) rfl <| SAs rfl <| AW.ret ?_
    obtain rfl := si h
    exact ret1Y (i := 0) Tryz.results76 rfl (out_tmp rfl) rfl
  | cons x15 l12 =>
    unfold F_walk_search_table_s_l1 at h
    generalize hgo1 : F_walk_search_table_s_l1 sg w5 y1 at4 s3 R_walk_search_table l12 = go1 at h
    refine SR <| Ac (op_lss rfl rfl (vt rfl) (vt rfl)) rfl <| Nl <| AW.seq <| Cn rfl (fun hc => ?_) (fun hc => absurd hsf1.cons (of_decide_eq_false hc))
    have hlti11 := of_decide_eq_true hc
    refine AW.skip <| AW.seq <| AW.block <| SR <| Ac (op_indexs' rfl rfl sl37 (vt rfl) (vt rfl) hsf1.lget) rfl <| Lp1 ty3 rfl <| As rfl <| Nl <| AW.seq ?_
    obtain ⟨j16, hj16, h⟩ := bsome h
    obtain ⟨e17, he17, h⟩ := bsome h
    refine Rg <| Mr rfl <| Md rfl <| Ac (op_nilCheckp rfl rfl (vt rfl)) rfl <| Ac (op_fieldp (lsp0 kSwitch (ydA Tryz.prog kRule y1 L)) rfl rfl (flsp131_0 _) (vt rfl)) rfl <| Fp lSwitch_0 fl26_0 rfl <| Ac (op_indexp' rfl rfl ar23 (vt rfl) (vt rfl) hj16) rfl <| Lp1 ty22 rfl <| Md rfl <| Ac (op_indexs' rfl rfl sl22 (vt rfl) (vt rfl) he17) rfl <| Lp1 ty61 rfl <| Ct rfl (op_alloc 10 rfl rfl zr61) ?_
    rintro _ ⟨g18, rfl⟩
    refine Sto ty61 10 rfl <| Nl <| AW.seq ?_
    obtain ⟨x19, hx19, h⟩ := bsome h
    refine Rg <| Ld ty135 6 rfl <| Ld ty61 10 rfl <| Cl [38, 39] (c_walk_way_meet _ _ _ hx19) e136 rfl <| Mt2 rfl <| Ac (op_fst rfl rfl (vt rfl)) rfl <| Ac (op_snd rfl rfl (vt rfl)) rfl <| Ct rfl (op_alloc 11 rfl rfl zr135) ?_
    rintro _ ⟨g20, rfl⟩
    refine Sto ty135 11 rfl <| As rfl <| Nl <| AW.seq <| SR <| Md rfl <| Ac (op_not rfl rfl (vt rfl)) rfl <| Nl <| Cn rfl (fun hc => ?_) (fun hc => ?_)
    · have h := cond_t hc h
      refine AW.exit <| Rg <| Ac (op_incr (t := 22) rfl rfl (vt rfl) (vk rfl) (vt rfl) hlti11) rfl <| Md rfl <| Nl ?_
      subst hgo1
      exact ⟨(l12, i11 + 1, s10), Nat.lt_succ_self _, ⟨hsf1.next, h⟩, ⟨rfl, ⟨rfl, rfl, rfl, rfl, rfl, rfl, trivial⟩, ⟨rfl, rfl, trivial⟩⟩⟩
    · have h := cond_f hc h
      refine AW.skip <| AW.seq ?_
      obtain ⟨x21, hx21, h⟩ := bsome h
      refine Rg <| Ld ty135 11 rfl <| Md rfl <| FdA lFlow_6 fl61_6 rfl <| Ld ty59 10 rfl <| Cl [46, 47, 49] (c_walk_way_follow _ _ _ _ hx21) e137 rfl <| Ac (op_move (A := tup3 (rd kwalk_way x21.1) (rd (kint .i64) x21.2.1) (rd kbool x21.2.2)) rfl rfl (vt rfl)) rfl <| Ac (op_ext3_0 rfl rfl (vt rfl)) rfl <| Ac (op_ext3_1 rfl rfl (vt rfl)) rfl <| Ac (op_ext3_2 rfl rfl (vt rfl)) rfl <| Sto ty135 11 rfl <| As rfl <| As rfl <| Nl ?_
      refine AW.join (d := []) (ν := (Lp sg) × Bool) (fun n => F_walk_search_table_s_j2 sg go1 i11 n.1 n.2 = some r) (fun n => [(0, rp (ksp kSwitch (ydA Tryz.prog kRule y1 L)) s3), (1, rd (kint .i64) at4), (5, ptrL g6 (Lens.id kwalk_way)), (11, rd kbool n.2), (21, rd (ksl (kint .i64)) x8), (22, rd (kint .i64) (x8.length : Int)), (23, rd (kint .i64) (i11 : Int))]) (fun n => [(0, L n.1), (6, Blk g6 135 kwalk_way w5)]) ?hx2 ?hy2
      case hy2 =>
        rintro ⟨s22, ok23⟩ h
        unfold F_walk_search_table_s_j2 at h
        change AW _ _ _ ⟨slots [(0, rp (ksp kSwitch (ydA Tryz.prog kRule y1 L)) s3), (1, rd (kint .i64) at4), (5, ptrL g6 (Lens.id kwalk_way)), (11, rd kbool ok23), (21, rd (ksl (kint .i64)) x8), (22, rd (kint .i64) (x8.length : Int)), (23, rd (kint .i64) (i11 : Int))], ress [(0, L s22), (6, Blk g6 135 kwalk_way w5)], _⟩
        refine SR <| Md rfl <| Ac (op_not rfl rfl (vt rfl)) rfl <| Nl <| Cn rfl (fun hc => ?_) (fun hc => ?_)
        · have h := cond_t hc h
          refine SR <| Ab rfl <| Nl <| AW.ret ?_
          obtain rfl := si h
          exact ret1Y (i := 0) Tryz.results76 rfl (out_tmp rfl) rfl
        · have h := cond_f hc h
          refine AW.skip <| Rg <| Ac (op_incr (t := 22) rfl rfl (vt rfl) (vk rfl) (vt rfl) hlti11) rfl <| Md rfl <| Nl ?_
          subst hgo1
          exact ⟨(l12, i11 + 1, s22), Nat.lt_succ_self _, ⟨hsf1.next, h⟩, ⟨rfl, ⟨rfl, rfl, rfl, rfl, rfl, rfl, trivial⟩, ⟨rfl, rfl, trivial⟩⟩⟩
      case hx2 =>
        refine SR <| Md rfl <| Nl <| Cn rfl (fun hc => ?_) (fun hc => ?_)
        · have h := cond_t hc h
          obtain ⟨b24, hb24, h⟩ := bsome h
          refine Rg <| Mr rfl <| Md rfl <| Ld ty135 11 rfl <| Ct rfl (op_callR 0 (xs := [.tmp 55, .tmp 56, .tmp 57]) (hR_walk_search_table _ _ _ _ _ hb24) e76 rfl rfl ⟨vt rfl, vt rfl, vt rfl, trivial⟩ rfl) ?_
          rintro _ ⟨_u, rfl⟩
          refine As rfl <| Nl ?_
          exact ⟨(b24.2, b24.1), h, ⟨rfl, ⟨rfl, rfl, rfl, rfl, rfl, rfl, rfl, trivial⟩, ⟨rfl, rfl, trivial⟩⟩⟩
        · have h := cond_f hc h
          obtain ⟨x25, hx25, h⟩ := bsome h
          obtain ⟨s26, hs26, h⟩ := bsome h
          refine AW.regionAny [⟨[0], [59], [], []⟩, ⟨[59], [60], [], []⟩, ⟨[60], [61], [], []⟩, ⟨[61], [62], [], []⟩, ⟨[10], [63], [11], []⟩, ⟨[63], [64], [], []⟩, ⟨[62, 64], [65], [0], [0]⟩, ⟨[65], [11], [], []⟩] mixed (by kernel_rfl) <| Sc (lo [0] [] rfl fun S hs hr => op_move (A := rp (ksp kSwitch (ydA Tryz.prog kRule y1 L)) s3) rfl rfl (vh hs 0 rfl rfl)) rfl <| Sc (lo [59] [] rfl fun S hs hr => op_nilCheckp rfl rfl (vh hs 59 rfl rfl)) rfl <| Sc (lo [60] [] rfl fun S hs hr => op_fieldp (lsp1 kSwitch (ydA Tryz.prog kRule y1 L)) rfl rfl (flsp131_1 _) (vh hs 60 rfl rfl)) rfl <| Sc (lo [61] [] rfl fun S hs hr => op_loadpA (A := ydA Tryz.prog kRule y1 L) rfl rfl rfl (tyk92 _) (vh hs 61 rfl rfl)) rfl <| SLd ty135 11 rfl <| SCl [63] (c_walk_way_rule _ _ hx25) e138 rfl <| Sc (locs (us := [(65, rd kbool (Lp.isGo s26))]) (ur := [(0, L s26)]) [62, 64] [0] rfl fun S hs hr => op_yield 0 hs26 rfl rfl (vh hs 62 rfl rfl) (vh hs 64 rfl rfl) ((hr 0 rfl).trans rfl)) rfl <| SAs rfl ?_
          exact ⟨(s26, (Lp.isGo s26)), h, ⟨rfl, ⟨rfl, rfl, rfl, rfl, rfl, rfl, rfl, trivial⟩, ⟨rfl, rfl, trivial⟩⟩⟩
def FR_walk_search_table (sg : Type) (y1 : (sg → Rule → Option (Lp sg))) : Nat → ((Lp sg) → Switch → Int → walk_way → Option (Bool × Lp sg))
  | 0 => (fun _ _ _ _ => none)
  | n + 1 => F_walk_search_table_s sg y1 (FR_walk_search_table sg y1 n)
theorem cR_walk_search_table (sg : Type) (y1 : (sg → Rule → Option (Lp sg))) (L : Lp sg → Res) : ∀ n : Nat, (∀ (s2 : (Lp sg)) (s3 : Switch) (at4 : Int) (w5 : walk_way) (r : (Bool × Lp sg)), (FR_walk_search_table sg y1 n) s2 s3 at4 w5 = some r → Con Tryz.prog 76 [rp (ksp kSwitch (ydA Tryz.prog kRule y1 L)) s3, rd (kint .i64) at4, rd kwalk_way w5] (L s2) (fun _ : Unit => rd kbool r.1) (fun _ => L r.2))
  | 0 => (by intros; rename_i h; cases h)
  | n + 1 => c_walk_search_table_s sg y1 L (FR_walk_search_table sg y1 n) (cR_walk_search_table sg y1 L n)
def F_walk_search_table (sg : Type) (y1 : (sg → Rule → Option (Lp sg))) (s2 : (Lp sg)) (s3 : Switch) (at4 : Int) (w5 : walk_way) : Option (Bool × Lp sg) := FR_walk_search_table sg y1 fuel0 s2 s3 at4 w5
theorem c_walk_search_table (sg : Type) (y1 : (sg → Rule → Option (Lp sg))) (L : Lp sg → Res) : ∀ (s2 : (Lp sg)) (s3 : Switch) (at4 : Int) (w5 : walk_way) (r : (Bool × Lp sg)), (F_walk_search_table sg y1) s2 s3 at4 w5 = some r → Con Tryz.prog 76 [rp (ksp kSwitch (ydA Tryz.prog kRule y1 L)) s3, rd (kint .i64) at4, rd kwalk_way w5] (L s2) (fun _ : Unit => rd kbool r.1) (fun _ => L r.2) := cR_walk_search_table sg y1 L fuel0
def F_walk_Rules_1 (sg : Type) (yield1 : (sg → Rule → Option (Lp sg))) (s2 : (Lp sg)) (cp3 : Switch) : Option (Lp sg) :=
  (F_cube_All).bind fun x5 => (F_rewrite_None).bind fun x6 => (F_walk_search_table sg yield1 s2 cp3 0 (⟨x5, x6, [], []⟩ : walk_way)).bind fun b7 => some b7.2
theorem c_walk_Rules_1 (sg : Type) (yield1 : (sg → Rule → Option (Lp sg))) (L : Lp sg → Res) (s2 : (Lp sg)) (cp3 : Switch) (r : (Lp sg)) (h : F_walk_Rules_1 sg yield1 s2 cp3 = some r) : Con Tryz.prog 75 [ydA Tryz.prog kRule yield1 L, rp kSwitch cp3] (L s2) (fun _ : Unit => top) (fun _ => L r) := by
  refine Con.intro Tryz.func75 rfl Tryz.ntmps75 rfl fun w H X => ?_
  unfold F_walk_Rules_1 at h
  refine SR <| Lp1 ty26 rfl <| Ac (op_move (A := ydA Tryz.prog kRule yield1 L) rfl rfl (vt rfl)) rfl <| Ac (op_buildsp (x := cp3) rfl rfl (by kernel_rfl) zrsp131 (by kernel_rfl) (by kernel_rfl) (vt rfl) rfl) rfl <| Ac (op_boxP rfl rfl (vt rfl)) rfl <| Ac (op_assign (A := rp (ksp kSwitch (ydA Tryz.prog kRule yield1 L)) cp3) rfl rfl (vt rfl)) rfl <| Nl ?_
  obtain ⟨x5, hx5, h⟩ := bsome h
  obtain ⟨x6, hx6, h⟩ := bsome h
  obtain ⟨b7, hb7, h⟩ := bsome h
  refine Rg <| Mr rfl <| Cl [] (c_cube_All _ hx5) e73 rfl <| Cl [] (c_rewrite_None _ hx6) e77 rfl <| Ac (op_build (ps := [(0, .tmp 9), (1, .tmp 10)]) (x := (⟨x5, x6, [], []⟩ : walk_way)) rfl rfl rfl (by kernel_rfl) zr135 ⟨_, _, lwalk_way_0, _, by kernel_rfl, (vt rfl), _, _, lwalk_way_1, _, by kernel_rfl, (vt rfl), rfl⟩) rfl <| Ct rfl (op_callR 0 (xs := [.tmp 8, .const (Value.int IntKind.i64 0), .tmp 11]) (c_walk_search_table sg yield1 L _ _ _ _ _ hb7) e76 rfl rfl ⟨vt rfl, vk rfl, vt rfl, trivial⟩ rfl) ?_
  rintro _ ⟨_u, rfl⟩
  refine Nl ?_
  obtain rfl := si h
  exact ret0Y (i := 0) Tryz.results75 rfl rfl
def F_walk_Rules (s1 : Switch) : Option (Itr Rule) :=
  some (Itr.mk fun σ y s => F_walk_Rules_1 σ y s s1)
theorem c_walk_Rules (s1 : Switch) (r : (Itr Rule)) (h : F_walk_Rules s1 = some r) : PCon Tryz.prog 22 [rd kSwitch s1] (seqA Tryz.prog kRule r) := by
  refine PCon.of (Con.intro0 Tryz.func22 rfl Tryz.ntmps22 rfl fun w H => ?_)
  unfold F_walk_Rules at h
  refine SR <| Ct rfl (op_box 2 rfl rfl (vt rfl)) ?_
  rintro _ ⟨g2, rfl⟩
  refine Ac (op_assign (A := raw .nilFunc) rfl rfl vc) rfl <| Nl <| AW.seq <| AW.freezeB 1 2 rfl rfl rfl <| Rg <| Ac (op_seq (Itr.mk fun σ y s => F_walk_Rules_1 σ y s s1) (cs := [.tmp 1]) (CAs := [rp kSwitch s1]) rfl rfl e75 ⟨vt rfl, trivial⟩ (fun σ y L s r h => c_walk_Rules_1 σ y L s s1 r h)) rfl <| Ac (op_assign (A := seqA Tryz.prog kRule (Itr.mk fun σ y s => F_walk_Rules_1 σ y s s1)) rfl rfl (vt rfl)) rfl <| Nl <| AW.ret ?_
  obtain rfl := si h
  exact ret1 Tryz.results22 rfl (out_tmp rfl)
def F_slices_AppendSeq_Rule (q : Itr Rule) : Option (List Rule) := collect q
theorem c_slices_AppendSeq_Rule_o (q : Itr Rule) (r : List Rule) (h : F_slices_AppendSeq_Rule q = some r) : Con Tryz.prog 146 [raw (.slice none 0 0), seqA Tryz.prog kRule q] emp (fun v => raw v) (fun v => Row v 90 kRule r) := by
  refine Con.intro0 Tryz.func146 rfl Tryz.ntmps146 rfl fun w H => ?_
  have h := collect_of h
  refine AW.newnil 1001 90 kRule <| SR <| Ct rfl (op_box (k := kraw) 3 rfl rfl (vkr (vt rfl) rfl)) ?_
  rintro _ ⟨g, rfl⟩
  refine Ac (op_assign (A := raw (.slice none 0 0)) rfl rfl vc) rfl <| AOps.pack 3 1001 (by decide) rfl rfl <| Nl <| AW.seq <| SR <| Ac (op_move (A := seqA Tryz.prog kRule q) rfl rfl (vt rfl)) rfl <| Nl <| AW.block <| AW.fit (d := []) (L := [(2, ptrL g (Lens.id kraw)), (6, seqA Tryz.prog kRule q)]) (M := [(3, BoxRow g 32 90 kRule [])]) ⟨rfl, ⟨rfl, rfl, trivial⟩, ⟨rfl, trivial⟩⟩ ?_
  refine AW.rangeFunc (fun x => [rd kRule x]) collectF (fun s => ress [(3, BoxRow g 32 90 kRule s)]) (fun _ _ => ress []) [(2, ptrL g (Lens.id kraw))]
    (fun s x S1 => ∃ g5, Fit S1 [] [(2, ptrL g (Lens.id kraw)), (5, ptrL g5 (Lens.id kRule))] [(3, BoxRow g 32 90 kRule s), (6, Blk g5 90 kRule x)]) 1003 (s0 := []) (sE := .go r)
    rfl (vt rfl) ⟨rfl, inferInstance, trivial⟩ rfl (fun _ => rfl) (by intro p hp; have hp : p ∈ [7] := hp; rw [List.mem_singleton.1 hp]; show 7 < 13; decide) ?ha ?hb (fun Lf => ⟨top, _, _, Lf, _, _, h, rfl, rfl, rfl, rfl⟩) ?he
  case ha =>
    intro s x r' hF l w H X
    refine Rg <| Ct rfl (op_alloc 6 rfl rfl zr90) ?_
    rintro _ ⟨g5, rfl⟩
    refine Sto ty90 6 rfl <| Nl ?_
    exact ⟨rfl, g5, rfl, ⟨rfl, rfl, trivial⟩, ⟨rfl, rfl, trivial⟩⟩
  case hb =>
    rintro s x r' hF S1 ⟨g5, hfit⟩ l w H X
    refine AW.fit hfit <| AW.bodyOf (M := fun s => [(3, BoxRow g 32 90 kRule s)]) (Mx := fun _ _ => []) ?_
    obtain ⟨m, hm, hF⟩ := bsome hF
    cases hF
    refine AW.block <| AW.unbox 3 1001 (by decide) rfl rfl fun v => Rg <| Ac (op_loadr (i := 3) rfl rfl tyr32 (vt rfl) rfl) rfl <| Ld ty90 6 rfl <| Ac (op_buildSliceR (ps := [(0, .tmp 9)]) (l := [x]) rfl rfl sl32 zr90 rfl rfl ⟨_, _, Lens.idx 1 kRule 0 (by decide), _, rfl, vt rfl, rfl⟩ rfl) rfl <| Ct rfl (op_append' 1001 hm rfl rfl el32 (vt rfl) rfl (vt rfl)) ?_
    rintro _ ⟨v2, rfl⟩
    refine Ac (op_store rfl rfl tyr32 (vt rfl) (i := 3) rfl (vrow (i := 1001) rfl rfl)) rfl <| AOps.pack 3 1001 (by decide) rfl rfl <| Nl ?_
    exact ⟨_, rfl, rfl, trivial⟩
  case he =>
    intro D
    refine AW.unbox 3 1001 (by decide) rfl rfl fun v => SR <| Ac (op_loadr (i := 3) rfl rfl tyr32 (vt rfl) rfl) rfl <| Aw rfl <| Nl <| AW.ret ?_
    exact ⟨rfl, 1003, rfl, ret1R (i := 1001) Tryz.results146 rfl rfl rfl⟩
theorem c_slices_AppendSeq_Rule (q : Itr Rule) (r : List Rule) (h : F_slices_AppendSeq_Rule q = some r) : PCon Tryz.prog 146 [raw (.slice none 0 0), seqA Tryz.prog kRule q] (rd (ksl kRule) r) := PCon.of_row (c_slices_AppendSeq_Rule_o q r h)
def F_slices_Collect_Rule (seq1 : (Itr Rule)) : Option (List Rule) :=
  (F_slices_AppendSeq_Rule seq1).bind fun x2 => some x2
theorem c_slices_Collect_Rule (seq1 : (Itr Rule)) (r : (List Rule)) (h : F_slices_Collect_Rule seq1 = some r) : PCon Tryz.prog 85 [seqA Tryz.prog kRule seq1] (rd (ksl kRule) r) := by
  refine PCon.of (Con.intro0 Tryz.func85 rfl Tryz.ntmps85 rfl fun w H => ?_)
  unfold F_slices_Collect_Rule at h
  refine SR <| Ac (op_assign (A := rd (ksl kRule) []) rfl rfl vnil) rfl <| Nl <| AW.seq ?_
  obtain ⟨x2, hx2, h⟩ := bsome h
  refine Rg <| Ac (op_move (A := seqA Tryz.prog kRule seq1) rfl rfl (vt rfl)) rfl <| Ac (op_call (xs := [.const (Value.slice none 0 0), .tmp 3]) (c_slices_AppendSeq_Rule _ _ hx2) e146 rfl rfl ⟨vc, vt rfl, trivial⟩) rfl <| As rfl <| Nl <| AW.ret ?_
  obtain rfl := si h
  exact ret1 Tryz.results85 rfl (out_tmp rfl)
def F_walk_List (s1 : Switch) : Option (List Rule) :=
  (F_walk_Rules s1).bind fun x3 => (F_slices_Collect_Rule x3).bind fun x4 => some x4
theorem c_walk_List (s1 : Switch) (r : (List Rule)) (h : F_walk_List s1 = some r) : PCon Tryz.prog 25 [rd kSwitch s1] (rd (ksl kRule) r) := by
  refine PCon.of (Con.intro0 Tryz.func25 rfl Tryz.ntmps25 rfl fun w H => ?_)
  unfold F_walk_List at h
  refine SR <| Ct rfl (op_box 2 rfl rfl (vt rfl)) ?_
  rintro _ ⟨g2, rfl⟩
  refine Ac (op_assign (A := rd (ksl kRule) []) rfl rfl vnil) rfl <| Nl <| AW.seq ?_
  obtain ⟨x3, hx3, h⟩ := bsome h
  obtain ⟨x4, hx4, h⟩ := bsome h
  refine Rg <| Ld ty26 2 rfl <| Cl [3] (c_walk_Rules _ _ hx3) e22 rfl <| Cl [4] (c_slices_Collect_Rule _ _ hx4) e85 rfl <| As rfl <| Nl <| AW.ret ?_
  obtain rfl := si h
  exact ret1 Tryz.results25 rfl (out_tmp rfl)
end Go.Proofs.YtknpgojdkobgjaaGreat.W
set_option linter.unusedVariables false
set_option maxRecDepth 4000
set_option linter.unusedSimpArgs false
namespace Go.Proofs.YtknpgojdkobgjaaGreat.W
open Go Go.Wb
theorem e25 : Ent Tryz.prog 25 := Ent.mk Tryz.func25 rfl rfl
theorem e60 : Ent Tryz.prog 60 := Ent.mk Tryz.func60 rfl rfl
theorem e198 : Ent Tryz.prog 198 := Ent.mk Tryz.func198 rfl rfl
theorem e165 : Ent Tryz.prog 165 := Ent.mk Tryz.func165 rfl rfl
theorem e256 : Ent Tryz.prog 256 := Ent.mk Tryz.func256 rfl rfl
theorem e257 : Ent Tryz.prog 257 := Ent.mk Tryz.func257 rfl rfl
theorem e199 : Ent Tryz.prog 199 := Ent.mk Tryz.func199 rfl rfl
def F_walk_Most_l1 : (List (List Flow)) → Nat → Int → Option Int
  | [], i5, n4 => some (imin n4 1099511627776)
  | x7 :: l6, i5, n4 => (oquo .i64 1099511627776 n4).bind fun q8 => (bif (decide ((x7.length : Int) ≥ q8)) then some 1099511627776 else (F_walk_Most_l1 l6) (i5 + 1) (IntKind.i64.wrap (n4 * (IntKind.i64.wrap ((x7.length : Int) + 1)))))
def F_walk_Most (s1 : Switch) : Option Int :=
  F_walk_Most_l1 (Vector.toList s1.Tables) 0 1
theorem c_walk_Most (s1 : Switch) (r : Int) (h : F_walk_Most s1 = some r) : PCon Tryz.prog 60 [rd kSwitch s1] (rd (kint .i64) r) := by
  refine PCon.of (Con.intro0 Tryz.func60 rfl Tryz.ntmps60 rfl fun w H => ?_)
  unfold F_walk_Most at h
  refine SR <| Ct rfl (op_box 2 rfl rfl (vt rfl)) ?_
  rintro _ ⟨g2, rfl⟩
  refine Ak rfl <| Nl <| SR <| Ak rfl <| Nl <| AW.seq <| SR <| FdA lSwitch_0 fl26_0 rfl <| Ld ty23 2 rfl <| Mk rfl <| Nl <| AW.block <| AW.loopG (d := []) (ν := (List (List Flow)) × Nat × Int) (fun n => Sfx (Vector.toList s1.Tables) n.2.1 n.1 ∧ F_walk_Most_l1 n.1 n.2.1 n.2.2 = some r) (fun n => n.1.length) (fun n => [(3, rd (kint .i64) n.2.2), (7, rd (karr 4 (ksl kFlow)) s1.Tables), (8, rd (kint .i64) (n.2.1 : Int))]) (fun n => []) ((Vector.toList s1.Tables), 0, 1) ⟨Sfx.start _, h⟩ ⟨rfl, ⟨rfl, rfl, rfl, trivial⟩, trivial⟩ ?_
  rintro ⟨l6, i5, n4⟩ ⟨hsf1, h⟩
  change Sfx (Vector.toList s1.Tables) i5 l6 at hsf1
  change F_walk_Most_l1 l6 i5 n4 = some r at h
  change AW _ _ _ ⟨slots [(3, rd (kint .i64) n4), (7, rd (karr 4 (ksl kFlow)) s1.Tables), (8, rd (kint .i64) (i5 : Int))], ress [], _⟩
  cases l6 with
  | nil =>
    unfold F_walk_Most_l1 at h
    refine SR <| Ac (op_lss rfl rfl (vt rfl) (vk rfl)) rfl <| Nl <| AW.seq <| Cn rfl (fun hc => absurd (of_decide_eq_true hc) (hsf1.niln (by simp))) (fun hc => ?_)
    refine AW.exit <| SR <| Md rfl <| Ac (op_min rfl rfl (vt rfl) (vk rfl)) rfl <| As rfl <| Nl <| AW.ret ?_
    obtain rfl := si h
    exact ret1 Tryz.results60 rfl (out_tmp rfl)
  | cons x7 l6 =>
    unfold F_walk_Most_l1 at h
    generalize hgo1 : F_walk_Most_l1 l6 = go1 at h
    refine SR <| Ac (op_lss rfl rfl (vt rfl) (vk rfl)) rfl <| Nl <| AW.seq <| Cn rfl (fun hc => ?_) (fun hc => absurd (hsf1.consn (by simp)) (of_decide_eq_false hc))
    have hlti5 := of_decide_eq_true hc
    refine AW.skip <| AW.seq <| AW.block <| SR <| Ac (op_indexv rfl rfl ar23 ty22 (vt rfl) (vt rfl) hsf1.lget) rfl <| As rfl <| Nl <| AW.seq <| AW.seq ?_
    obtain ⟨q8, hq8, h⟩ := bsome h
    refine Rg <| Md rfl <| Ac (op_len' rfl rfl sl22 (vt rfl)) rfl <| Md rfl <| Ac (op_quo rfl rfl (vk rfl) (vt rfl) hq8) rfl <| Ac (op_geq rfl rfl (vt rfl) (vt rfl)) rfl <| Nl <| Cn rfl (fun hc => ?_) (fun hc => ?_)
    · have h := cond_t hc h
      refine SR <| Ak rfl <| Nl <| AW.ret ?_
      obtain rfl := si h
      exact ret1 Tryz.results60 rfl (out_tmp rfl)
    · have h := cond_f hc h
      refine AW.skip <| Rg <| Md rfl <| Md rfl <| Ac (op_len' rfl rfl sl22 (vt rfl)) rfl <| Ac (op_add rfl rfl (vt rfl) (vk rfl)) rfl <| Ac (op_mul rfl rfl (vt rfl) (vt rfl)) rfl <| As rfl <| Nl <| Rg <| Ac (op_incrc rfl rfl (vt rfl) (vk rfl) rfl hlti5) rfl <| Md rfl <| Nl ?_
      subst hgo1
      exact ⟨(l6, i5 + 1, (IntKind.i64.wrap (n4 * (IntKind.i64.wrap ((x7.length : Int) + 1))))), Nat.lt_succ_self _, ⟨hsf1.next, h⟩, ⟨rfl, ⟨rfl, rfl, rfl, trivial⟩, trivial⟩⟩
def F_l33_awake : Option Bool :=
  (F_walk_List { (⟨(Vector.replicate 4 []), []⟩ : Switch) with Tables := (Vector.set ((⟨(Vector.replicate 4 []), []⟩ : Switch).Tables) (⟨0, by decide⟩ : _root_.Fin 4).1 [(⟨0, 0, 0, 0, 0, [(⟨0, false, (⟨0, (1 : BitVec 64)⟩ : Wide), zWide⟩ : Oxm)], [(⟨3, 0, zWide, zWide, [(⟨0, 9, 0, 0, 0, zOxm⟩ : Action)]⟩ : Inst)]⟩ : Flow)] (⟨0, by decide⟩ : _root_.Fin 4).2) }).bind fun x2 => (opt (decide ((x2.length : Int) = 2)) (lget x2 0)).bind fun e3 => (opt ((decide ((x2.length : Int) = 2)) && (decide ((e3.Atoms.length : Int) = 1))) (lget x2 0)).bind fun e4 => (opt ((decide ((x2.length : Int) = 2)) && (decide ((e3.Atoms.length : Int) = 1))) (lget e4.Atoms 0)).bind fun e5 => (opt (((decide ((x2.length : Int) = 2)) && (decide ((e3.Atoms.length : Int) = 1))) && (decide (e5.Port = 9))) (lget x2 1)).bind fun e6 => (opt (((decide ((x2.length : Int) = 2)) && (decide ((e3.Atoms.length : Int) = 1))) && (decide (e5.Port = 9))) (F_cube_All)).bind fun x7 => (opt ((((decide ((x2.length : Int) = 2)) && (decide ((e3.Atoms.length : Int) = 1))) && (decide (e5.Port = 9))) && (decide (e6.Cube = x7))) (F_walk_Most { (⟨(Vector.replicate 4 []), []⟩ : Switch) with Tables := (Vector.set ((⟨(Vector.replicate 4 []), []⟩ : Switch).Tables) (⟨0, by decide⟩ : _root_.Fin 4).1 [(⟨0, 0, 0, 0, 0, [(⟨0, false, (⟨0, (1 : BitVec 64)⟩ : Wide), zWide⟩ : Oxm)], [(⟨3, 0, zWide, zWide, [(⟨0, 9, 0, 0, 0, zOxm⟩ : Action)]⟩ : Inst)]⟩ : Flow)] (⟨0, by decide⟩ : _root_.Fin 4).2) })).bind fun x8 => (opt (((((decide ((x2.length : Int) = 2)) && (decide ((e3.Atoms.length : Int) = 1))) && (decide (e5.Port = 9))) && (decide (e6.Cube = x7))) && (decide (x8 = 2))) (F_walk_Rules { (⟨(Vector.replicate 4 []), []⟩ : Switch) with Tables := (Vector.set ((⟨(Vector.replicate 4 []), []⟩ : Switch).Tables) (⟨0, by decide⟩ : _root_.Fin 4).1 [(⟨0, 0, 0, 0, 0, [(⟨0, false, (⟨0, (1 : BitVec 64)⟩ : Wide), zWide⟩ : Oxm)], [(⟨3, 0, zWide, zWide, [(⟨0, 9, 0, 0, 0, zOxm⟩ : Action)]⟩ : Inst)]⟩ : Flow)] (⟨0, by decide⟩ : _root_.Fin 4).2) })).bind fun x9 => some ((((((decide ((x2.length : Int) = 2)) && (decide ((e3.Atoms.length : Int) = 1))) && (decide (e5.Port = 9))) && (decide (e6.Cube = x7))) && (decide (x8 = 2))) && true)
theorem c_l33_awake (r : Bool) (h : F_l33_awake = some r) : PCon Tryz.prog 20 [] (rd kbool r) := by
  refine PCon.of (Con.intro0 Tryz.func20 rfl Tryz.ntmps20 rfl fun w H => ?_)
  unfold F_l33_awake at h
  refine SR <| Ab rfl <| Nl <| SR <| Ac (op_build (ps := []) (x := (⟨(Vector.replicate 4 []), []⟩ : Switch)) rfl rfl rfl (by kernel_rfl) zr26 rfl) rfl <| Ct rfl (op_alloc 2 rfl rfl zr26) ?_
  rintro _ ⟨g1, rfl⟩
  refine Sto ty26 2 rfl <| Nl <| SR <| Ac (op_build (ps := [(1, .const (Value.int IntKind.u64 1))]) (x := (⟨0, (1 : BitVec 64)⟩ : Wide)) rfl rfl rfl (by kernel_rfl) zr42 ⟨_, _, lWide_1, _, by kernel_rfl, (vku (1 : BitVec 64) rfl), rfl⟩) rfl <| Ac (op_build (ps := [(0, .const (Value.int IntKind.i64 0)), (2, .tmp 4)]) (x := (⟨0, false, (⟨0, (1 : BitVec 64)⟩ : Wide), zWide⟩ : Oxm)) rfl rfl rfl (by kernel_rfl) zr119 ⟨_, _, lOxm_0, _, by kernel_rfl, (vk rfl), _, _, lOxm_2, _, by kernel_rfl, (vt rfl), rfl⟩) rfl <| Ac (op_buildSliceR (ps := [(0, .tmp 5)]) (l := [(⟨0, false, (⟨0, (1 : BitVec 64)⟩ : Wide), zWide⟩ : Oxm)]) rfl rfl sl58 zr119 rfl rfl ⟨_, _, Lens.idx 1 kOxm 0 (by decide), _, rfl, (vt rfl), rfl⟩ rfl) rfl <| Ac (op_build (ps := [(0, .const (Value.int IntKind.i64 0)), (1, .const (Value.int IntKind.i64 9))]) (x := (⟨0, 9, 0, 0, 0, zOxm⟩ : Action)) rfl rfl rfl (by kernel_rfl) zr121 ⟨_, _, lAction_0, _, by kernel_rfl, (vk rfl), _, _, lAction_1, _, by kernel_rfl, (vk rfl), rfl⟩) rfl <| Ac (op_buildSliceR (ps := [(0, .tmp 7)]) (l := [(⟨0, 9, 0, 0, 0, zOxm⟩ : Action)]) rfl rfl sl122 zr121 rfl rfl ⟨_, _, Lens.idx 1 kAction 0 (by decide), _, rfl, (vt rfl), rfl⟩ rfl) rfl <| Ac (op_build (ps := [(0, .const (Value.int IntKind.i64 3)), (4, .tmp 8)]) (x := (⟨3, 0, zWide, zWide, [(⟨0, 9, 0, 0, 0, zOxm⟩ : Action)]⟩ : Inst)) rfl rfl rfl (by kernel_rfl) zr124 ⟨_, _, lInst_0, _, by kernel_rfl, (vk rfl), _, _, lInst_4, _, by kernel_rfl, (vt rfl), rfl⟩) rfl <| Ac (op_buildSliceR (ps := [(0, .tmp 9)]) (l := [(⟨3, 0, zWide, zWide, [(⟨0, 9, 0, 0, 0, zOxm⟩ : Action)]⟩ : Inst)]) rfl rfl sl59 zr124 rfl rfl ⟨_, _, Lens.idx 1 kInst 0 (by decide), _, rfl, (vt rfl), rfl⟩ rfl) rfl <| Ac (op_build (ps := [(5, .tmp 6), (6, .tmp 10)]) (x := (⟨0, 0, 0, 0, 0, [(⟨0, false, (⟨0, (1 : BitVec 64)⟩ : Wide), zWide⟩ : Oxm)], [(⟨3, 0, zWide, zWide, [(⟨0, 9, 0, 0, 0, zOxm⟩ : Action)]⟩ : Inst)]⟩ : Flow)) rfl rfl rfl (by kernel_rfl) zr61 ⟨_, _, lFlow_5, _, by kernel_rfl, (vt rfl), _, _, lFlow_6, _, by kernel_rfl, (vt rfl), rfl⟩) rfl <| Ac (op_buildSliceR (ps := [(0, .tmp 11)]) (l := [(⟨0, 0, 0, 0, 0, [(⟨0, false, (⟨0, (1 : BitVec 64)⟩ : Wide), zWide⟩ : Oxm)], [(⟨3, 0, zWide, zWide, [(⟨0, 9, 0, 0, 0, zOxm⟩ : Action)]⟩ : Inst)]⟩ : Flow)]) rfl rfl sl22 zr61 rfl rfl ⟨_, _, Lens.idx 1 kFlow 0 (by decide), _, rfl, (vt rfl), rfl⟩ rfl) rfl <| FdA lSwitch_0 fl26_0 rfl <| Ac (op_index' rfl rfl ar23 (vt rfl) (vk rfl) rfl) rfl <| Sto ty22 2 rfl <| Nl <| AW.seq ?_
  obtain ⟨x2, hx2, h⟩ := bsome h
  refine Rg <| Ld ty26 2 rfl <| Cl [15] (c_walk_List _ _ hx2) e25 rfl <| As rfl <| Nl <| AW.seq ?_
  obtain ⟨e3, he3, h⟩ := bsome h
  obtain ⟨e4, he4, h⟩ := bsome h
  obtain ⟨e5, he5, h⟩ := bsome h
  obtain ⟨e6, he6, h⟩ := bsome h
  obtain ⟨x7, hx7, h⟩ := bsome h
  obtain ⟨x8, hx8, h⟩ := bsome h
  obtain ⟨x9, hx9, h⟩ := bsome h
  refine AW.regionAny [⟨[2], [17], [], []⟩, ⟨[17], [18], [], []⟩, ⟨[18], [19], [], []⟩, ⟨[19], [20], [], []⟩, ⟨[2, 20], [21], [], []⟩, ⟨[21, 20], [22], [], []⟩, ⟨[22, 20], [23], [], []⟩, ⟨[23, 20], [24], [], []⟩, ⟨[24, 20], [25], [], []⟩, ⟨[25, 20], [26], [], []⟩, ⟨[26, 20], [27], [], []⟩, ⟨[27], [28], [], []⟩, ⟨[2, 28], [29], [], []⟩, ⟨[29, 28], [30], [], []⟩, ⟨[30, 28], [31], [], []⟩, ⟨[31, 28], [32], [], []⟩, ⟨[32, 28], [33], [], []⟩, ⟨[33, 28], [34], [], []⟩, ⟨[34, 28], [35], [], []⟩, ⟨[35, 28], [36], [], []⟩, ⟨[36, 28], [37], [], []⟩, ⟨[37], [38], [], []⟩, ⟨[2, 38], [39], [], []⟩, ⟨[39, 38], [40], [], []⟩, ⟨[40, 38], [41], [], []⟩, ⟨[41, 38], [42], [], []⟩, ⟨[38], [43], [], []⟩, ⟨[42, 43, 38], [44], [], []⟩, ⟨[44, 38], [45], [], []⟩, ⟨[45], [46], [], []⟩, ⟨[1, 46], [47], [2], []⟩, ⟨[47, 46], [48], [], []⟩, ⟨[48, 46], [49], [], []⟩, ⟨[49, 46], [50], [], []⟩, ⟨[50], [51], [], []⟩, ⟨[1, 51], [52], [2], []⟩, ⟨[52, 51], [53], [], []⟩, ⟨[53, 51], [54], [], []⟩, ⟨[54, 51], [55], [], []⟩, ⟨[55], [0], [], []⟩] mixed (by kernel_rfl) <| SMd rfl <| Sc (lo [17] [] rfl fun S hs hr => op_len' rfl rfl sl32 (vh hs 17 rfl rfl)) rfl <| Sc (lo [18] [] rfl fun S hs hr => op_eql rfl rfl (vh hs 18 rfl rfl) (vk rfl)) rfl <| SMd rfl <| Sc (lg [2, 20] [] rfl fun hq S hs hr => op_move (A := rd (ksl kRule) x2) rfl rfl (vh hs 2 rfl rfl)) rfl <| Sc (lg [21, 20] [] rfl fun hq S hs hr => op_indexs' rfl rfl sl32 (vgt ((hs 21 rfl).trans rfl) hq) (vk rfl) (opt_t he3 hq)) rfl <| Sc (lg [22, 20] [] rfl fun hq S hs hr => op_fieldp lRule_1 rfl rfl fl90_1 (vgt ((hs 22 rfl).trans rfl) hq)) rfl <| Sc (lg [23, 20] [] rfl fun hq S hs hr => op_loadp rfl rfl ty88 (vgt ((hs 23 rfl).trans rfl) hq)) rfl <| Sc (lg [24, 20] [] rfl fun hq S hs hr => op_len' rfl rfl sl88 (vgt ((hs 24 rfl).trans rfl) hq)) rfl <| Sc (lg [25, 20] [] rfl fun hq S hs hr => op_eql rfl rfl (vgt ((hs 25 rfl).trans rfl) hq) (vk rfl)) rfl <| Sc (lo [26, 20] [] rfl fun S hs hr => op_all rfl rfl (vh hs 20 rfl rfl) (vh hs 26 rfl rfl)) rfl <| SMd rfl <| Sc (lg [2, 28] [] rfl fun hq S hs hr => op_move (A := rd (ksl kRule) x2) rfl rfl (vh hs 2 rfl rfl)) rfl <| Sc (lg [29, 28] [] rfl fun hq S hs hr => op_indexs' rfl rfl sl32 (vgt ((hs 29 rfl).trans rfl) hq) (vk rfl) (opt_t he4 hq)) rfl <| Sc (lg [30, 28] [] rfl fun hq S hs hr => op_fieldp lRule_1 rfl rfl fl90_1 (vgt ((hs 30 rfl).trans rfl) hq)) rfl <| Sc (lg [31, 28] [] rfl fun hq S hs hr => op_loadp rfl rfl ty88 (vgt ((hs 31 rfl).trans rfl) hq)) rfl <| Sc (lg [32, 28] [] rfl fun hq S hs hr => op_indexs' rfl rfl sl88 (vgt ((hs 32 rfl).trans rfl) hq) (vk rfl) (opt_t he5 hq)) rfl <| Sc (lg [33, 28] [] rfl fun hq S hs hr => op_fieldp lAtom_2 rfl rfl fl126_2 (vgt ((hs 33 rfl).trans rfl) hq)) rfl <| Sc (lg [34, 28] [] rfl fun hq S hs hr => op_loadp rfl rfl ty3 (vgt ((hs 34 rfl).trans rfl) hq)) rfl <| Sc (lg [35, 28] [] rfl fun hq S hs hr => op_eql rfl rfl (vgt ((hs 35 rfl).trans rfl) hq) (vk rfl)) rfl <| Sc (lo [36, 28] [] rfl fun S hs hr => op_all rfl rfl (vh hs 28 rfl rfl) (vh hs 36 rfl rfl)) rfl ?_
  refine SMd rfl <| Sc (lg [2, 38] [] rfl fun hq S hs hr => op_move (A := rd (ksl kRule) x2) rfl rfl (vh hs 2 rfl rfl)) rfl <| Sc (lg [39, 38] [] rfl fun hq S hs hr => op_indexs' rfl rfl sl32 (vgt ((hs 39 rfl).trans rfl) hq) (vk rfl) (opt_t he6 hq)) rfl <| Sc (lg [40, 38] [] rfl fun hq S hs hr => op_fieldp lRule_0 rfl rfl fl90_0 (vgt ((hs 40 rfl).trans rfl) hq)) rfl <| Sc (lg [41, 38] [] rfl fun hq S hs hr => op_loadp rfl rfl ty87 (vgt ((hs 41 rfl).trans rfl) hq)) rfl <| Sc (lg [38] [] rfl fun hq S hs hr => op_call (xs := []) (c_cube_All _ (opt_t hx7 hq)) e73 rfl rfl trivial) rfl <| Sc (lg [42, 43, 38] [] rfl fun hq S hs hr => op_eqlk rfl rfl eqk87 (by decide) rfl eg87 (vgt ((hs 42 rfl).trans rfl) hq) (vgt ((hs 43 rfl).trans rfl) hq)) rfl <| Sc (lo [44, 38] [] rfl fun S hs hr => op_all rfl rfl (vh hs 38 rfl rfl) (vh hs 44 rfl rfl)) rfl <| SMd rfl <| Sc (lg [1, 46] [2] rfl fun hq S hs hr => op_load rfl rfl ty26 (vh hs 1 rfl rfl) (i := 2) ((hr 2 rfl).trans rfl)) rfl <| Sc (lg [47, 46] [] rfl fun hq S hs hr => op_call (xs := [.tmp 47]) (c_walk_Most _ _ (opt_t hx8 hq)) e60 rfl rfl ⟨vgt ((hs 47 rfl).trans rfl) hq, trivial⟩) rfl <| Sc (lg [48, 46] [] rfl fun hq S hs hr => op_eql rfl rfl (vgt ((hs 48 rfl).trans rfl) hq) (vk rfl)) rfl <| Sc (lo [49, 46] [] rfl fun S hs hr => op_all rfl rfl (vh hs 46 rfl rfl) (vh hs 49 rfl rfl)) rfl <| SMd rfl <| Sc (lg [1, 51] [2] rfl fun hq S hs hr => op_load rfl rfl ty26 (vh hs 1 rfl rfl) (i := 2) ((hr 2 rfl).trans rfl)) rfl <| Sc (lg [52, 51] [] rfl fun hq S hs hr => op_call (xs := [.tmp 52]) (c_walk_Rules _ _ (opt_t hx9 hq)) e22 rfl rfl ⟨vgt ((hs 52 rfl).trans rfl) hq, trivial⟩) rfl <| Sc (lg [53, 51] [] rfl fun hq S hs hr => op_neqseq rfl rfl uf30 (vgt ((hs 53 rfl).trans rfl) hq)) rfl <| Sc (lo [54, 51] [] rfl fun S hs hr => op_all rfl rfl (vh hs 51 rfl rfl) (vh hs 54 rfl rfl)) rfl <| SAs rfl <| AW.ret ?_
  obtain rfl := si h
  exact ret1 Tryz.results20 rfl (out_tmp rfl)
def F_slices_IndexFunc_Flow_l1 (s1 : (List Flow)) (f2 : (Flow → Option Bool)) : Nat → Nat → Option Int
  | 0, i3 => some (-1)
  | m4 + 1, i3 => (lget s1 (i3 : Int)).bind fun e5 => (f2 e5).bind fun x6 => (bif x6 then some (i3 : Int) else (F_slices_IndexFunc_Flow_l1 s1 f2 m4) (i3 + 1))
def F_slices_IndexFunc_Flow (s1 : (List Flow)) (f2 : (Flow → Option Bool)) : Option Int :=
  F_slices_IndexFunc_Flow_l1 s1 f2 ((s1.length : Int) : Int).toNat 0
theorem c_slices_IndexFunc_Flow (s1 : (List Flow)) (f2 : (Flow → Option Bool)) (r : Int) (h : F_slices_IndexFunc_Flow s1 f2 = some r) : PCon Tryz.prog 198 [rd (ksl kFlow) s1, fn1 Tryz.prog kFlow kbool f2] (rd (kint .i64) r) := by
  refine PCon.of (Con.intro0 Tryz.func198 rfl Tryz.ntmps198 rfl fun w H => ?_)
  unfold F_slices_IndexFunc_Flow at h
  refine SR <| Ak rfl <| Nl <| AW.seq <| SR <| Md rfl <| Ac (op_len' rfl rfl sl22 (vt rfl)) rfl <| Mk rfl <| Nl <| AW.block <| AW.loopG (d := []) (ν := Nat × Nat) (fun n => Cnt (s1.length : Int) n.2 n.1 ∧ F_slices_IndexFunc_Flow_l1 s1 f2 n.1 n.2 = some r) (fun n => n.1) (fun n => [(0, rd (ksl kFlow) s1), (1, fn1 Tryz.prog kFlow kbool f2), (7, rd (kint .i64) (s1.length : Int)), (8, rd (kint .i64) (n.2 : Int))]) (fun n => []) (((s1.length : Int) : Int).toNat, 0) ⟨Cnt.start _, h⟩ ⟨rfl, ⟨rfl, rfl, rfl, rfl, trivial⟩, trivial⟩ ?_
  rintro ⟨m4, i3⟩ ⟨hsf1, h⟩
  change Cnt (s1.length : Int) i3 m4 at hsf1
  change F_slices_IndexFunc_Flow_l1 s1 f2 m4 i3 = some r at h
  change AW _ _ _ ⟨slots [(0, rd (ksl kFlow) s1), (1, fn1 Tryz.prog kFlow kbool f2), (7, rd (kint .i64) (s1.length : Int)), (8, rd (kint .i64) (i3 : Int))], ress [], _⟩
  cases m4 with
  | zero =>
    unfold F_slices_IndexFunc_Flow_l1 at h
    refine SR <| Ac (op_lss rfl rfl (vt rfl) (vt rfl)) rfl <| Nl <| AW.seq <| Cn rfl (fun hc => absurd (of_decide_eq_true hc) hsf1.zero) (fun hc => ?_)
    refine AW.exit <| SR <| Ak rfl <| Nl <| AW.ret ?_
    obtain rfl := si h
    exact ret1 Tryz.results198 rfl (out_tmp rfl)
  | succ m4 =>
    unfold F_slices_IndexFunc_Flow_l1 at h
    generalize hgo1 : F_slices_IndexFunc_Flow_l1 s1 f2 m4 = go1 at h
    refine SR <| Ac (op_lss rfl rfl (vt rfl) (vt rfl)) rfl <| Nl <| AW.seq <| Cn rfl (fun hc => ?_) (fun hc => absurd hsf1.succ (of_decide_eq_false hc))
    have hlti3 := of_decide_eq_true hc
    refine AW.skip <| AW.seq <| AW.block <| SR <| Md rfl <| As rfl <| Nl <| AW.seq ?_
    obtain ⟨e5, he5, h⟩ := bsome h
    obtain ⟨x6, hx6, h⟩ := bsome h
    refine Rg <| Ac (op_move (A := fn1 Tryz.prog kFlow kbool f2) rfl rfl (vt rfl)) rfl <| Md rfl <| Md rfl <| Ac (op_indexs' rfl rfl sl22 (vt rfl) (vt rfl) he5) rfl <| Lp1 ty61 rfl <| Ac (op_call1 hx6 rfl rfl (vt rfl) (vt rfl)) rfl <| Nl <| Cn rfl (fun hc => ?_) (fun hc => ?_)
    · have h := cond_t hc h
      refine SR <| Md rfl <| As rfl <| Nl <| AW.ret ?_
      obtain rfl := si h
      exact ret1 Tryz.results198 rfl (out_tmp rfl)
    · have h := cond_f hc h
      refine AW.skip <| Rg <| Ac (op_incr (t := 7) rfl rfl (vt rfl) (vk rfl) (vt rfl) hlti3) rfl <| Md rfl <| Nl ?_
      subst hgo1
      exact ⟨(m4, i3 + 1), Nat.lt_succ_self _, ⟨hsf1.next, h⟩, ⟨rfl, ⟨rfl, rfl, rfl, rfl, trivial⟩, trivial⟩⟩
def F_slices_ContainsFunc_Flow (s1 : (List Flow)) (f2 : (Flow → Option Bool)) : Option Bool :=
  (F_slices_IndexFunc_Flow s1 f2).bind fun x3 => some (decide (x3 ≥ 0))
theorem c_slices_ContainsFunc_Flow (s1 : (List Flow)) (f2 : (Flow → Option Bool)) (r : Bool) (h : F_slices_ContainsFunc_Flow s1 f2 = some r) : PCon Tryz.prog 132 [rd (ksl kFlow) s1, fn1 Tryz.prog kFlow kbool f2] (rd kbool r) := by
  refine PCon.of (Con.intro0 Tryz.func132 rfl Tryz.ntmps132 rfl fun w H => ?_)
  unfold F_slices_ContainsFunc_Flow at h
  refine SR <| Ab rfl <| Nl <| AW.seq ?_
  obtain ⟨x3, hx3, h⟩ := bsome h
  refine Rg <| Md rfl <| Ac (op_move (A := fn1 Tryz.prog kFlow kbool f2) rfl rfl (vt rfl)) rfl <| Cl [5, 6] (c_slices_IndexFunc_Flow _ _ _ hx3) e198 rfl <| Ac (op_geq rfl rfl (vt rfl) (vk rfl)) rfl <| As rfl <| Nl <| AW.ret ?_
  obtain rfl := si h
  exact ret1 Tryz.results132 rfl (out_tmp rfl)
def F_slices_ContainsFunc_Inst (s1 : (List Inst)) (f2 : (Inst → Option Bool)) : Option Bool :=
  (F_slices_IndexFunc_Inst s1 f2).bind fun x3 => some (decide (x3 ≥ 0))
theorem c_slices_ContainsFunc_Inst (s1 : (List Inst)) (f2 : (Inst → Option Bool)) (r : Bool) (h : F_slices_ContainsFunc_Inst s1 f2 = some r) : PCon Tryz.prog 256 [rd (ksl kInst) s1, fn1 Tryz.prog kInst kbool f2] (rd kbool r) := by
  refine PCon.of (Con.intro0 Tryz.func256 rfl Tryz.ntmps256 rfl fun w H => ?_)
  unfold F_slices_ContainsFunc_Inst at h
  refine SR <| Ab rfl <| Nl <| AW.seq ?_
  obtain ⟨x3, hx3, h⟩ := bsome h
  refine Rg <| Md rfl <| Ac (op_move (A := fn1 Tryz.prog kInst kbool f2) rfl rfl (vt rfl)) rfl <| Cl [5, 6] (c_slices_IndexFunc_Inst _ _ _ hx3) e263 rfl <| Ac (op_geq rfl rfl (vt rfl) (vk rfl)) rfl <| As rfl <| Nl <| AW.ret ?_
  obtain rfl := si h
  exact ret1 Tryz.results256 rfl (out_tmp rfl)
def F_pl_Acts (l1 : (List Action)) : Option Bool :=
  some (decide ((l1.length : Int) ≤ 12))
theorem c_pl_Acts (l1 : (List Action)) (r : Bool) (h : F_pl_Acts l1 = some r) : PCon Tryz.prog 165 [rd (ksl kAction) l1] (rd kbool r) := by
  refine PCon.of (Con.intro0 Tryz.func165 rfl Tryz.ntmps165 rfl fun w H => ?_)
  unfold F_pl_Acts at h
  refine SR <| Ab rfl <| Nl <| SR <| Md rfl <| Ac (op_len' rfl rfl sl122 (vt rfl)) rfl <| Ac (op_leq rfl rfl (vt rfl) (vk rfl)) rfl <| As rfl <| Nl <| AW.ret ?_
  obtain rfl := si h
  exact ret1 Tryz.results165 rfl (out_tmp rfl)
def F_pl_Insts_1 (i1 : Inst) : Option Bool :=
  (F_pl_Acts i1.Acts).bind fun x3 => some (!x3)
theorem c_pl_Insts_1 (i1 : Inst) (r : Bool) (h : F_pl_Insts_1 i1 = some r) : PCon Tryz.prog 257 [rd kInst i1] (rd kbool r) := by
  refine PCon.of (Con.intro0 Tryz.func257 rfl Tryz.ntmps257 rfl fun w H => ?_)
  unfold F_pl_Insts_1 at h
  refine SR <| Ct rfl (op_box 2 rfl rfl (vt rfl)) ?_
  rintro _ ⟨g2, rfl⟩
  refine Ab rfl <| Nl <| AW.seq ?_
  obtain ⟨x3, hx3, h⟩ := bsome h
  refine Rg <| FdA lInst_4 fl124_4 rfl <| Ld ty122 2 rfl <| Cl [4] (c_pl_Acts _ _ hx3) e165 rfl <| Ac (op_not rfl rfl (vt rfl)) rfl <| As rfl <| Nl <| AW.ret ?_
  obtain rfl := si h
  exact ret1 Tryz.results257 rfl (out_tmp rfl)
def F_pl_Insts (l1 : (List Inst)) : Option Bool :=
  (opt (decide ((l1.length : Int) ≤ 8)) (F_slices_ContainsFunc_Inst l1 F_pl_Insts_1)).bind fun x2 => some ((decide ((l1.length : Int) ≤ 8)) && (!x2))
theorem c_pl_Insts (l1 : (List Inst)) (r : Bool) (h : F_pl_Insts l1 = some r) : PCon Tryz.prog 199 [rd (ksl kInst) l1] (rd kbool r) := by
  refine PCon.of (Con.intro0 Tryz.func199 rfl Tryz.ntmps199 rfl fun w H => ?_)
  unfold F_pl_Insts at h
  refine SR <| Ab rfl <| Nl <| AW.seq ?_
  obtain ⟨x2, hx2, h⟩ := bsome h
  refine Rg <| Md rfl <| Ac (op_len' rfl rfl sl59 (vt rfl)) rfl <| Ac (op_leq rfl rfl (vt rfl) (vk rfl)) rfl <| Md rfl <| Gd rfl (fun hq => op_move (A := rd (ksl kInst) l1) rfl rfl (vt rfl)) <| Gd rfl (fun hq => op_call (xs := [.tmp 7, .func 257]) (c_slices_ContainsFunc_Inst _ _ _ (opt_t hx2 hq)) e256 rfl rfl ⟨vgt rfl hq, vf1 e257 c_pl_Insts_1, trivial⟩) <| Gd rfl (fun hq => op_not rfl rfl (vgt rfl hq)) <| Ac (op_all rfl rfl (vt rfl) (vt rfl)) rfl <| As rfl <| Nl <| AW.ret ?_
  obtain rfl := si h
  exact ret1 Tryz.results199 rfl (out_tmp rfl)
def F_pl_Flow (f1 : Flow) : Option Bool :=
  (opt (decide ((f1.Match.length : Int) ≤ 30)) (F_pl_Insts f1.Insts)).bind fun x3 => some ((decide ((f1.Match.length : Int) ≤ 30)) && x3)
theorem c_pl_Flow (f1 : Flow) (r : Bool) (h : F_pl_Flow f1 = some r) : PCon Tryz.prog 134 [rd kFlow f1] (rd kbool r) := by
  refine PCon.of (Con.intro0 Tryz.func134 rfl Tryz.ntmps134 rfl fun w H => ?_)
  unfold F_pl_Flow at h
  refine SR <| Ct rfl (op_box 2 rfl rfl (vt rfl)) ?_
  rintro _ ⟨g2, rfl⟩
  refine Ab rfl <| Nl <| AW.seq ?_
  obtain ⟨x3, hx3, h⟩ := bsome h
  refine Rg <| FdA lFlow_5 fl61_5 rfl <| Ld ty58 2 rfl <| Ac (op_len' rfl rfl sl58 (vt rfl)) rfl <| Ac (op_leq rfl rfl (vt rfl) (vk rfl)) rfl <| Md rfl <| Gd rfl (fun hq => op_field lFlow_6 rfl rfl fl61_6 (vt rfl)) <| Gd rfl (fun hq => op_load rfl rfl ty59 (vgt rfl hq) (i := 2) rfl) <| Gd rfl (fun hq => op_call (xs := [.tmp 9]) (c_pl_Insts _ _ (opt_t hx3 hq)) e199 rfl rfl ⟨vgt rfl hq, trivial⟩) <| Ac (op_all rfl rfl (vt rfl) (vt rfl)) rfl <| As rfl <| Nl <| AW.ret ?_
  obtain rfl := si h
  exact ret1 Tryz.results134 rfl (out_tmp rfl)
end Go.Proofs.YtknpgojdkobgjaaGreat.W
set_option linter.unusedVariables false
set_option maxRecDepth 4000
set_option linter.unusedSimpArgs false
namespace Go.Proofs.YtknpgojdkobgjaaGreat.W
open Go Go.Wb
theorem e134 : Ent Tryz.prog 134 := Ent.mk Tryz.func134 rfl rfl
theorem e132 : Ent Tryz.prog 132 := Ent.mk Tryz.func132 rfl rfl
theorem e133 : Ent Tryz.prog 133 := Ent.mk Tryz.func133 rfl rfl
theorem e231 : Ent Tryz.prog 231 := Ent.mk Tryz.func231 rfl rfl
theorem e163 : Ent Tryz.prog 163 := Ent.mk Tryz.func163 rfl rfl
theorem e164 : Ent Tryz.prog 164 := Ent.mk Tryz.func164 rfl rfl
theorem e100 : Ent Tryz.prog 100 := Ent.mk Tryz.func100 rfl rfl
theorem e162 : Ent Tryz.prog 162 := Ent.mk Tryz.func162 rfl rfl
def F_pl_Flows_1 (f1 : Flow) : Option Bool :=
  (F_pl_Flow f1).bind fun x3 => some (!x3)
theorem c_pl_Flows_1 (f1 : Flow) (r : Bool) (h : F_pl_Flows_1 f1 = some r) : PCon Tryz.prog 133 [rd kFlow f1] (rd kbool r) := by
  refine PCon.of (Con.intro0 Tryz.func133 rfl Tryz.ntmps133 rfl fun w H => ?_)
  unfold F_pl_Flows_1 at h
  refine SR <| Ct rfl (op_box 2 rfl rfl (vt rfl)) ?_
  rintro _ ⟨g2, rfl⟩
  refine Ab rfl <| Nl <| AW.seq ?_
  obtain ⟨x3, hx3, h⟩ := bsome h
  refine Rg <| Ld ty61 2 rfl <| Cl [3] (c_pl_Flow _ _ hx3) e134 rfl <| Ac (op_not rfl rfl (vt rfl)) rfl <| As rfl <| Nl <| AW.ret ?_
  obtain rfl := si h
  exact ret1 Tryz.results133 rfl (out_tmp rfl)
def F_pl_Flows (l1 : (List Flow)) (many2 : Int) : Option Bool :=
  (opt (decide ((l1.length : Int) ≤ many2)) (F_slices_ContainsFunc_Flow l1 F_pl_Flows_1)).bind fun x3 => some ((decide ((l1.length : Int) ≤ many2)) && (!x3))
theorem c_pl_Flows (l1 : (List Flow)) (many2 : Int) (r : Bool) (h : F_pl_Flows l1 many2 = some r) : PCon Tryz.prog 74 [rd (ksl kFlow) l1, rd (kint .i64) many2] (rd kbool r) := by
  refine PCon.of (Con.intro0 Tryz.func74 rfl Tryz.ntmps74 rfl fun w H => ?_)
  unfold F_pl_Flows at h
  refine SR <| Ab rfl <| Nl <| AW.seq ?_
  obtain ⟨x3, hx3, h⟩ := bsome h
  refine Rg <| Md rfl <| Ac (op_len' rfl rfl sl22 (vt rfl)) rfl <| Md rfl <| Ac (op_leq rfl rfl (vt rfl) (vt rfl)) rfl <| Md rfl <| Gd rfl (fun hq => op_move (A := rd (ksl kFlow) l1) rfl rfl (vt rfl)) <| Gd rfl (fun hq => op_call (xs := [.tmp 10, .func 133]) (c_slices_ContainsFunc_Flow _ _ _ (opt_t hx3 hq)) e132 rfl rfl ⟨vgt rfl hq, vf1 e133 c_pl_Flows_1, trivial⟩) <| Gd rfl (fun hq => op_not rfl rfl (vgt rfl hq)) <| Ac (op_all rfl rfl (vt rfl) (vt rfl)) rfl <| As rfl <| Nl <| AW.ret ?_
  obtain rfl := si h
  exact ret1 Tryz.results74 rfl (out_tmp rfl)
def F_slices_IndexFunc_Bucket_l1 (s1 : (List Bucket)) (f2 : (Bucket → Option Bool)) : Nat → Nat → Option Int
  | 0, i3 => some (-1)
  | m4 + 1, i3 => (lget s1 (i3 : Int)).bind fun e5 => (f2 e5).bind fun x6 => (bif x6 then some (i3 : Int) else (F_slices_IndexFunc_Bucket_l1 s1 f2 m4) (i3 + 1))
def F_slices_IndexFunc_Bucket (s1 : (List Bucket)) (f2 : (Bucket → Option Bool)) : Option Int :=
  F_slices_IndexFunc_Bucket_l1 s1 f2 ((s1.length : Int) : Int).toNat 0
theorem c_slices_IndexFunc_Bucket (s1 : (List Bucket)) (f2 : (Bucket → Option Bool)) (r : Int) (h : F_slices_IndexFunc_Bucket s1 f2 = some r) : PCon Tryz.prog 231 [rd (ksl kBucket) s1, fn1 Tryz.prog kBucket kbool f2] (rd (kint .i64) r) := by
  refine PCon.of (Con.intro0 Tryz.func231 rfl Tryz.ntmps231 rfl fun w H => ?_)
  unfold F_slices_IndexFunc_Bucket at h
  refine SR <| Ak rfl <| Nl <| AW.seq <| SR <| Md rfl <| Ac (op_len' rfl rfl sl162 (vt rfl)) rfl <| Mk rfl <| Nl <| AW.block <| AW.loopG (d := []) (ν := Nat × Nat) (fun n => Cnt (s1.length : Int) n.2 n.1 ∧ F_slices_IndexFunc_Bucket_l1 s1 f2 n.1 n.2 = some r) (fun n => n.1) (fun n => [(0, rd (ksl kBucket) s1), (1, fn1 Tryz.prog kBucket kbool f2), (7, rd (kint .i64) (s1.length : Int)), (8, rd (kint .i64) (n.2 : Int))]) (fun n => []) (((s1.length : Int) : Int).toNat, 0) ⟨Cnt.start _, h⟩ ⟨rfl, ⟨rfl, rfl, rfl, rfl, trivial⟩, trivial⟩ ?_
  rintro ⟨m4, i3⟩ ⟨hsf1, h⟩
  change Cnt (s1.length : Int) i3 m4 at hsf1
  change F_slices_IndexFunc_Bucket_l1 s1 f2 m4 i3 = some r at h
  change AW _ _ _ ⟨slots [(0, rd (ksl kBucket) s1), (1, fn1 Tryz.prog kBucket kbool f2), (7, rd (kint .i64) (s1.length : Int)), (8, rd (kint .i64) (i3 : Int))], ress [], _⟩
  cases m4 with
  | zero =>
    unfold F_slices_IndexFunc_Bucket_l1 at h
    refine SR <| Ac (op_lss rfl rfl (vt rfl) (vt rfl)) rfl <| Nl <| AW.seq <| Cn rfl (fun hc => absurd (of_decide_eq_true hc) hsf1.zero) (fun hc => ?_)
    refine AW.exit <| SR <| Ak rfl <| Nl <| AW.ret ?_
    obtain rfl := si h
    exact ret1 Tryz.results231 rfl (out_tmp rfl)
  | succ m4 =>
    unfold F_slices_IndexFunc_Bucket_l1 at h
    generalize hgo1 : F_slices_IndexFunc_Bucket_l1 s1 f2 m4 = go1 at h
    refine SR <| Ac (op_lss rfl rfl (vt rfl) (vt rfl)) rfl <| Nl <| AW.seq <| Cn rfl (fun hc => ?_) (fun hc => absurd hsf1.succ (of_decide_eq_false hc))
    have hlti3 := of_decide_eq_true hc
    refine AW.skip <| AW.seq <| AW.block <| SR <| Md rfl <| As rfl <| Nl <| AW.seq ?_
    obtain ⟨e5, he5, h⟩ := bsome h
    obtain ⟨x6, hx6, h⟩ := bsome h
    refine Rg <| Ac (op_move (A := fn1 Tryz.prog kBucket kbool f2) rfl rfl (vt rfl)) rfl <| Md rfl <| Md rfl <| Ac (op_indexs' rfl rfl sl162 (vt rfl) (vt rfl) he5) rfl <| Lp1 ty226 rfl <| Ac (op_call1 hx6 rfl rfl (vt rfl) (vt rfl)) rfl <| Nl <| Cn rfl (fun hc => ?_) (fun hc => ?_)
    · have h := cond_t hc h
      refine SR <| Md rfl <| As rfl <| Nl <| AW.ret ?_
      obtain rfl := si h
      exact ret1 Tryz.results231 rfl (out_tmp rfl)
    · have h := cond_f hc h
      refine AW.skip <| Rg <| Ac (op_incr (t := 7) rfl rfl (vt rfl) (vk rfl) (vt rfl) hlti3) rfl <| Md rfl <| Nl ?_
      subst hgo1
      exact ⟨(m4, i3 + 1), Nat.lt_succ_self _, ⟨hsf1.next, h⟩, ⟨rfl, ⟨rfl, rfl, rfl, rfl, trivial⟩, trivial⟩⟩
def F_slices_ContainsFunc_Bucket (s1 : (List Bucket)) (f2 : (Bucket → Option Bool)) : Option Bool :=
  (F_slices_IndexFunc_Bucket s1 f2).bind fun x3 => some (decide (x3 ≥ 0))
theorem c_slices_ContainsFunc_Bucket (s1 : (List Bucket)) (f2 : (Bucket → Option Bool)) (r : Bool) (h : F_slices_ContainsFunc_Bucket s1 f2 = some r) : PCon Tryz.prog 163 [rd (ksl kBucket) s1, fn1 Tryz.prog kBucket kbool f2] (rd kbool r) := by
  refine PCon.of (Con.intro0 Tryz.func163 rfl Tryz.ntmps163 rfl fun w H => ?_)
  unfold F_slices_ContainsFunc_Bucket at h
  refine SR <| Ab rfl <| Nl <| AW.seq ?_
  obtain ⟨x3, hx3, h⟩ := bsome h
  refine Rg <| Md rfl <| Ac (op_move (A := fn1 Tryz.prog kBucket kbool f2) rfl rfl (vt rfl)) rfl <| Cl [5, 6] (c_slices_IndexFunc_Bucket _ _ _ hx3) e231 rfl <| Ac (op_geq rfl rfl (vt rfl) (vk rfl)) rfl <| As rfl <| Nl <| AW.ret ?_
  obtain rfl := si h
  exact ret1 Tryz.results163 rfl (out_tmp rfl)
def F_pl_Buckets_1 (x1 : Bucket) : Option Bool :=
  (F_pl_Acts x1.Acts).bind fun x3 => some (!x3)
theorem c_pl_Buckets_1 (x1 : Bucket) (r : Bool) (h : F_pl_Buckets_1 x1 = some r) : PCon Tryz.prog 164 [rd kBucket x1] (rd kbool r) := by
  refine PCon.of (Con.intro0 Tryz.func164 rfl Tryz.ntmps164 rfl fun w H => ?_)
  unfold F_pl_Buckets_1 at h
  refine SR <| Ct rfl (op_box 2 rfl rfl (vt rfl)) ?_
  rintro _ ⟨g2, rfl⟩
  refine Ab rfl <| Nl <| AW.seq ?_
  obtain ⟨x3, hx3, h⟩ := bsome h
  refine Rg <| FdA lBucket_3 fl226_3 rfl <| Ld ty122 2 rfl <| Cl [4] (c_pl_Acts _ _ hx3) e165 rfl <| Ac (op_not rfl rfl (vt rfl)) rfl <| As rfl <| Nl <| AW.ret ?_
  obtain rfl := si h
  exact ret1 Tryz.results164 rfl (out_tmp rfl)
def F_pl_Buckets (l1 : (List Bucket)) (many2 : Int) : Option Bool :=
  (opt (decide ((l1.length : Int) ≤ many2)) (F_slices_ContainsFunc_Bucket l1 F_pl_Buckets_1)).bind fun x3 => some ((decide ((l1.length : Int) ≤ many2)) && (!x3))
theorem c_pl_Buckets (l1 : (List Bucket)) (many2 : Int) (r : Bool) (h : F_pl_Buckets l1 many2 = some r) : PCon Tryz.prog 100 [rd (ksl kBucket) l1, rd (kint .i64) many2] (rd kbool r) := by
  refine PCon.of (Con.intro0 Tryz.func100 rfl Tryz.ntmps100 rfl fun w H => ?_)
  unfold F_pl_Buckets at h
  refine SR <| Ab rfl <| Nl <| AW.seq ?_
  obtain ⟨x3, hx3, h⟩ := bsome h
  refine Rg <| Md rfl <| Ac (op_len' rfl rfl sl162 (vt rfl)) rfl <| Md rfl <| Ac (op_leq rfl rfl (vt rfl) (vt rfl)) rfl <| Md rfl <| Gd rfl (fun hq => op_move (A := rd (ksl kBucket) l1) rfl rfl (vt rfl)) <| Gd rfl (fun hq => op_call (xs := [.tmp 10, .func 164]) (c_slices_ContainsFunc_Bucket _ _ _ (opt_t hx3 hq)) e163 rfl rfl ⟨vgt rfl hq, vf1 e164 c_pl_Buckets_1, trivial⟩) <| Gd rfl (fun hq => op_not rfl rfl (vgt rfl hq)) <| Ac (op_all rfl rfl (vt rfl) (vt rfl)) rfl <| As rfl <| Nl <| AW.ret ?_
  obtain rfl := si h
  exact ret1 Tryz.results100 rfl (out_tmp rfl)
def F_pl_Groups_1 (g1 : Group) (cp2 : Int) : Option Bool :=
  (F_pl_Buckets g1.Buckets cp2).bind fun x4 => some (!x4)
theorem c_pl_Groups_1 (g1 : Group) (cp2 : Int) (r : Bool) (h : F_pl_Groups_1 g1 cp2 = some r) : PCon Tryz.prog 99 [rd kGroup g1, rp (kint .i64) cp2] (rd kbool r) := by
  refine PCon.of (Con.intro0 Tryz.func99 rfl Tryz.ntmps99 rfl fun w H => ?_)
  unfold F_pl_Groups_1 at h
  refine SR <| Ct rfl (op_box 3 rfl rfl (vt rfl)) ?_
  rintro _ ⟨g3, rfl⟩
  refine Ab rfl <| Nl <| AW.seq ?_
  obtain ⟨x4, hx4, h⟩ := bsome h
  refine Rg <| FdA lGroup_2 fl164_2 rfl <| Ld ty162 3 rfl <| Lp1 ty3 rfl <| Cl [5, 6] (c_pl_Buckets _ _ _ hx4) e100 rfl <| Ac (op_not rfl rfl (vt rfl)) rfl <| As rfl <| Nl <| AW.ret ?_
  obtain rfl := si h
  exact ret1 Tryz.results99 rfl (out_tmp rfl)
def F_slices_IndexFunc_Group_l1 (s1 : (List Group)) (f2 : (Group → Option Bool)) : Nat → Nat → Option Int
  | 0, i3 => some (-1)
  | m4 + 1, i3 => (lget s1 (i3 : Int)).bind fun e5 => (f2 e5).bind fun x6 => (bif x6 then some (i3 : Int) else (F_slices_IndexFunc_Group_l1 s1 f2 m4) (i3 + 1))
def F_slices_IndexFunc_Group (s1 : (List Group)) (f2 : (Group → Option Bool)) : Option Int :=
  F_slices_IndexFunc_Group_l1 s1 f2 ((s1.length : Int) : Int).toNat 0
theorem c_slices_IndexFunc_Group (s1 : (List Group)) (f2 : (Group → Option Bool)) (r : Int) (h : F_slices_IndexFunc_Group s1 f2 = some r) : PCon Tryz.prog 162 [rd (ksl kGroup) s1, fn1 Tryz.prog kGroup kbool f2] (rd (kint .i64) r) := by
  refine PCon.of (Con.intro0 Tryz.func162 rfl Tryz.ntmps162 rfl fun w H => ?_)
  unfold F_slices_IndexFunc_Group at h
  refine SR <| Ak rfl <| Nl <| AW.seq <| SR <| Md rfl <| Ac (op_len' rfl rfl sl24 (vt rfl)) rfl <| Mk rfl <| Nl <| AW.block <| AW.loopG (d := []) (ν := Nat × Nat) (fun n => Cnt (s1.length : Int) n.2 n.1 ∧ F_slices_IndexFunc_Group_l1 s1 f2 n.1 n.2 = some r) (fun n => n.1) (fun n => [(0, rd (ksl kGroup) s1), (1, fn1 Tryz.prog kGroup kbool f2), (7, rd (kint .i64) (s1.length : Int)), (8, rd (kint .i64) (n.2 : Int))]) (fun n => []) (((s1.length : Int) : Int).toNat, 0) ⟨Cnt.start _, h⟩ ⟨rfl, ⟨rfl, rfl, rfl, rfl, trivial⟩, trivial⟩ ?_
  rintro ⟨m4, i3⟩ ⟨hsf1, h⟩
  change Cnt (s1.length : Int) i3 m4 at hsf1
  change F_slices_IndexFunc_Group_l1 s1 f2 m4 i3 = some r at h
  change AW _ _ _ ⟨slots [(0, rd (ksl kGroup) s1), (1, fn1 Tryz.prog kGroup kbool f2), (7, rd (kint .i64) (s1.length : Int)), (8, rd (kint .i64) (i3 : Int))], ress [], _⟩
  cases m4 with
  | zero =>
    unfold F_slices_IndexFunc_Group_l1 at h
    refine SR <| Ac (op_lss rfl rfl (vt rfl) (vt rfl)) rfl <| Nl <| AW.seq <| Cn rfl (fun hc => absurd (of_decide_eq_true hc) hsf1.zero) (fun hc => ?_)
    refine AW.exit <| SR <| Ak rfl <| Nl <| AW.ret ?_
    obtain rfl := si h
    exact ret1 Tryz.results162 rfl (out_tmp rfl)
  | succ m4 =>
    unfold F_slices_IndexFunc_Group_l1 at h
    generalize hgo1 : F_slices_IndexFunc_Group_l1 s1 f2 m4 = go1 at h
    refine SR <| Ac (op_lss rfl rfl (vt rfl) (vt rfl)) rfl <| Nl <| AW.seq <| Cn rfl (fun hc => ?_) (fun hc => absurd hsf1.succ (of_decide_eq_false hc))
    have hlti3 := of_decide_eq_true hc
    refine AW.skip <| AW.seq <| AW.block <| SR <| Md rfl <| As rfl <| Nl <| AW.seq ?_
    obtain ⟨e5, he5, h⟩ := bsome h
    obtain ⟨x6, hx6, h⟩ := bsome h
    refine Rg <| Ac (op_move (A := fn1 Tryz.prog kGroup kbool f2) rfl rfl (vt rfl)) rfl <| Md rfl <| Md rfl <| Ac (op_indexs' rfl rfl sl24 (vt rfl) (vt rfl) he5) rfl <| Lp1 ty164 rfl <| Ac (op_call1 hx6 rfl rfl (vt rfl) (vt rfl)) rfl <| Nl <| Cn rfl (fun hc => ?_) (fun hc => ?_)
    · have h := cond_t hc h
      refine SR <| Md rfl <| As rfl <| Nl <| AW.ret ?_
      obtain rfl := si h
      exact ret1 Tryz.results162 rfl (out_tmp rfl)
    · have h := cond_f hc h
      refine AW.skip <| Rg <| Ac (op_incr (t := 7) rfl rfl (vt rfl) (vk rfl) (vt rfl) hlti3) rfl <| Md rfl <| Nl ?_
      subst hgo1
      exact ⟨(m4, i3 + 1), Nat.lt_succ_self _, ⟨hsf1.next, h⟩, ⟨rfl, ⟨rfl, rfl, rfl, rfl, trivial⟩, trivial⟩⟩
def F_slices_ContainsFunc_Group (s1 : (List Group)) (f2 : (Group → Option Bool)) : Option Bool :=
  (F_slices_IndexFunc_Group s1 f2).bind fun x3 => some (decide (x3 ≥ 0))
theorem c_slices_ContainsFunc_Group (s1 : (List Group)) (f2 : (Group → Option Bool)) (r : Bool) (h : F_slices_ContainsFunc_Group s1 f2 = some r) : PCon Tryz.prog 98 [rd (ksl kGroup) s1, fn1 Tryz.prog kGroup kbool f2] (rd kbool r) := by
  refine PCon.of (Con.intro0 Tryz.func98 rfl Tryz.ntmps98 rfl fun w H => ?_)
  unfold F_slices_ContainsFunc_Group at h
  refine SR <| Ab rfl <| Nl <| AW.seq ?_
  obtain ⟨x3, hx3, h⟩ := bsome h
  refine Rg <| Md rfl <| Ac (op_move (A := fn1 Tryz.prog kGroup kbool f2) rfl rfl (vt rfl)) rfl <| Cl [5, 6] (c_slices_IndexFunc_Group _ _ _ hx3) e162 rfl <| Ac (op_geq rfl rfl (vt rfl) (vk rfl)) rfl <| As rfl <| Nl <| AW.ret ?_
  obtain rfl := si h
  exact ret1 Tryz.results98 rfl (out_tmp rfl)
end Go.Proofs.YtknpgojdkobgjaaGreat.W
