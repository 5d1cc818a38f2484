/- A part of the proof. -/
import Derived.Test.YtknpgojdkobgjaaGreatG1
set_option linter.unusedVariables false
set_option maxRecDepth 4000
set_option linter.unusedSimpArgs false
namespace Go.Proofs.YtknpgojdkobgjaaGreat.W
open Go Go.Wb
end Go.Proofs.YtknpgojdkobgjaaGreat.W
set_option linter.unusedVariables false
set_option maxRecDepth 4000
set_option linter.unusedSimpArgs false
namespace Go.Proofs.YtknpgojdkobgjaaGreat.W
open Go Go.Wb
theorem e21 : Ent Tryz.prog 21 := Ent.mk Tryz.func21 rfl rfl
end Go.Proofs.YtknpgojdkobgjaaGreat.W
set_option linter.unusedVariables false
set_option maxRecDepth 4000
set_option linter.unusedSimpArgs false
namespace Go.Proofs.YtknpgojdkobgjaaGreat.W
open Go Go.Wb
theorem e261 : Ent Tryz.prog 261 := Ent.mk Tryz.func261 rfl rfl
theorem e260 : Ent Tryz.prog 260 := Ent.mk Tryz.func260 rfl rfl
theorem e259 : Ent Tryz.prog 259 := Ent.mk Tryz.func259 rfl rfl
theorem e262 : Ent Tryz.prog 262 := Ent.mk Tryz.func262 rfl rfl
theorem e202 : Ent Tryz.prog 202 := Ent.mk Tryz.func202 rfl rfl
theorem e203 : Ent Tryz.prog 203 := Ent.mk Tryz.func203 rfl rfl
def F_tern_Meet (a1 : Tern) (b2 : Tern) : Option (Tern × Bool) :=
  (F_wide_And a1.Mask b2.Mask).bind fun x6 => (F_tern_Has (⟨a1.Value, x6⟩ : Tern) b2.Value).bind fun x7 => (bif (!x7) then some ((⟨zWide, zWide⟩ : Tern), false) else (F_tern_Clean a1).bind fun x8 => (F_tern_Clean b2).bind fun x9 => (F_wide_Or x8.Value x9.Value).bind fun x10 => (F_wide_Or x8.Mask x9.Mask).bind fun x11 => some ((⟨x10, x11⟩ : Tern), true))
theorem c_tern_Meet (a1 : Tern) (b2 : Tern) (r : (Tern × Bool)) (h : F_tern_Meet a1 b2 = some r) : PCon Tryz.prog 259 [rd kTern a1, rd kTern b2] (tup2 (rd kTern r.1) (rd kbool r.2)) := by
  refine PCon.of (Con.intro0 Tryz.func259 rfl Tryz.ntmps259 rfl fun w H => ?_)
  unfold F_tern_Meet at h
  refine SR <| Ct rfl (op_box 3 rfl rfl (vt rfl)) ?_
  rintro _ ⟨g3, rfl⟩
  refine Ct rfl (op_box 4 rfl rfl (vt rfl)) ?_
  rintro _ ⟨g4, rfl⟩
  refine Ct rfl (op_alloc 5 rfl rfl zr85) ?_
  rintro _ ⟨g5, rfl⟩
  refine Ab rfl <| Nl <| AW.seq <| AW.seq ?_
  obtain ⟨x6, hx6, h⟩ := bsome h
  obtain ⟨x7, hx7, h⟩ := bsome h
  refine AW.regionAny [⟨[2], [6], [], []⟩, ⟨[6], [7], [3], []⟩, ⟨[2], [8], [], []⟩, ⟨[8], [9], [3], []⟩, ⟨[3], [10], [], []⟩, ⟨[10], [11], [4], []⟩, ⟨[9, 11], [12], [], []⟩, ⟨[7, 12], [13], [], []⟩, ⟨[3], [14], [], []⟩, ⟨[14], [15], [4], []⟩, ⟨[13, 15], [16], [], []⟩, ⟨[16], [17], [], []⟩] mixed (by kernel_rfl) <| SFd lTern_0 fl85_0 rfl <| SLd ty42 3 rfl <| SFd lTern_1 fl85_1 rfl <| SLd ty42 3 rfl <| SFd lTern_1 fl85_1 rfl <| SLd ty42 4 rfl <| SCl [9, 11] (c_wide_And _ _ _ hx6) e177 rfl <| Sc (lo [7, 12] [] rfl fun S hs hr => op_build (ps := [(0, .tmp 7), (1, .tmp 12)]) (x := (⟨a1.Value, x6⟩ : Tern)) rfl rfl rfl (by kernel_rfl) zr85 ⟨_, _, lTern_0, _, by kernel_rfl, (vh hs 7 rfl rfl), _, _, lTern_1, _, by kernel_rfl, (vh hs 12 rfl rfl), rfl⟩) rfl <| SFd lTern_0 fl85_0 rfl <| SLd ty42 4 rfl <| SCl [13, 15] (c_tern_Has _ _ _ hx7) e106 rfl <| Sc (lo [16] [] rfl fun S hs hr => op_not rfl rfl (vh hs 16 rfl rfl)) rfl <| Cn rfl (fun hc => ?_) (fun hc => ?_)
  · have h := cond_t hc h
    refine SR <| Ac (op_build (ps := []) (x := (⟨zWide, zWide⟩ : Tern)) rfl rfl rfl (by kernel_rfl) zr85 rfl) rfl <| Sto ty85 5 rfl <| Ab rfl <| Nl <| AW.ret ?_
    obtain rfl := si h
    exact ret2 Tryz.results259 rfl (out_cell rfl (i := 5) rfl ty85) (out_tmp rfl)
  · have h := cond_f hc h
    refine AW.skip <| AW.seq ?_
    obtain ⟨x8, hx8, h⟩ := bsome h
    obtain ⟨x9, hx9, h⟩ := bsome h
    refine AW.regionAny [⟨[2], [19], [3], []⟩, ⟨[19], [20], [], []⟩, ⟨[3], [21], [4], []⟩, ⟨[21], [22], [], []⟩, ⟨[2, 20], [], [3], [3]⟩, ⟨[3, 22], [], [4], [4]⟩] mixed (by kernel_rfl) <| SLd ty85 3 rfl <| SCl [19] (c_tern_Clean _ _ hx8) e127 rfl <| SLd ty85 4 rfl <| SCl [21] (c_tern_Clean _ _ hx9) e127 rfl <| SSt ty85 3 rfl <| SSt ty85 4 rfl <| AW.seq ?_
    obtain ⟨x10, hx10, h⟩ := bsome h
    obtain ⟨x11, hx11, h⟩ := bsome h
    refine AW.regionAny [⟨[2], [23], [], []⟩, ⟨[23], [24], [3], []⟩, ⟨[3], [25], [], []⟩, ⟨[25], [26], [4], []⟩, ⟨[24, 26], [27], [], []⟩, ⟨[2], [28], [], []⟩, ⟨[28], [29], [3], []⟩, ⟨[3], [30], [], []⟩, ⟨[30], [31], [4], []⟩, ⟨[29, 31], [32], [], []⟩, ⟨[27, 32], [33], [], []⟩, ⟨[4, 33], [], [5], [5]⟩, ⟨[], [5], [], []⟩] mixed (by kernel_rfl) <| SFd lTern_0 fl85_0 rfl <| SLd ty42 3 rfl <| SFd lTern_0 fl85_0 rfl <| SLd ty42 4 rfl <| SCl [24, 26] (c_wide_Or _ _ _ hx10) e175 rfl <| SFd lTern_1 fl85_1 rfl <| SLd ty42 3 rfl <| SFd lTern_1 fl85_1 rfl <| SLd ty42 4 rfl <| SCl [29, 31] (c_wide_Or _ _ _ hx11) e175 rfl <| Sc (lo [27, 32] [] rfl fun S hs hr => op_build (ps := [(0, .tmp 27), (1, .tmp 32)]) (x := (⟨x10, x11⟩ : Tern)) rfl rfl rfl (by kernel_rfl) zr85 ⟨_, _, lTern_0, _, by kernel_rfl, (vh hs 27 rfl rfl), _, _, lTern_1, _, by kernel_rfl, (vh hs 32 rfl rfl), rfl⟩) rfl <| SSt ty85 5 rfl <| Sc (lo [] [] rfl fun S hs hr => op_assign (A := rd kbool true) rfl rfl vb) rfl <| AW.ret ?_
    obtain rfl := si h
    exact ret2 Tryz.results259 rfl (out_cell rfl (i := 5) rfl ty85) (out_tmp rfl)
def F_rewrite_Before_1 (i1 : Int) (cp2 : (Vector Tern 24)) (cp3 : (Vector Tern 24)) : Option Tern :=
  (chk 24 i1).bind fun j5 => (chk 24 i1).bind fun j6 => (chk 24 i1).bind fun j7 => (F_wide_Less ((Vector.get cp2 j6).Mask) ((Vector.get cp3 j7).Mask)).bind fun x8 => (F_tern_Clean (⟨(Vector.get cp2 j5).Value, x8⟩ : Tern)).bind fun x9 => some x9
theorem c_rewrite_Before_1 (i1 : Int) (cp2 : (Vector Tern 24)) (cp3 : (Vector Tern 24)) (r : Tern) (h : F_rewrite_Before_1 i1 cp2 cp3 = some r) : PCon Tryz.prog 261 [rd (kint .i64) i1, rp (karr 24 kTern) cp2, rp (karr 24 kTern) cp3] (rd kTern r) := by
  refine PCon.of (Con.intro0 Tryz.func261 rfl Tryz.ntmps261 rfl fun w H => ?_)
  unfold F_rewrite_Before_1 at h
  refine SR <| Ct rfl (op_alloc 5 rfl rfl zr85) ?_
  rintro _ ⟨g4, rfl⟩
  refine Nl <| AW.seq ?_
  obtain ⟨j5, hj5, h⟩ := bsome h
  obtain ⟨j6, hj6, h⟩ := bsome h
  obtain ⟨j7, hj7, h⟩ := bsome h
  obtain ⟨x8, hx8, h⟩ := bsome h
  obtain ⟨x9, hx9, h⟩ := bsome h
  refine AW.regionAny [⟨[0], [5], [], []⟩, ⟨[1, 5], [6], [], []⟩, ⟨[6], [7], [], []⟩, ⟨[7], [8], [], []⟩, ⟨[0], [9], [], []⟩, ⟨[1, 9], [10], [], []⟩, ⟨[10], [11], [], []⟩, ⟨[11], [12], [], []⟩, ⟨[0], [13], [], []⟩, ⟨[2, 13], [14], [], []⟩, ⟨[14], [15], [], []⟩, ⟨[15], [16], [], []⟩, ⟨[12, 16], [17], [], []⟩, ⟨[8, 17], [18], [], []⟩, ⟨[18], [19], [], []⟩, ⟨[4, 19], [], [5], [5]⟩] mixed (by kernel_rfl) <| SMd rfl <| Sc (lo [1, 5] [] rfl fun S hs hr => op_indexp' rfl rfl ar87 (vh hs 1 rfl rfl) (vh hs 5 rfl rfl) hj5) rfl <| SFp lTern_0 fl85_0 rfl <| SLp ty42 rfl <| SMd rfl <| Sc (lo [1, 9] [] rfl fun S hs hr => op_indexp' rfl rfl ar87 (vh hs 1 rfl rfl) (vh hs 9 rfl rfl) hj6) rfl <| SFp lTern_1 fl85_1 rfl <| SLp ty42 rfl <| SMd rfl <| Sc (lo [2, 13] [] rfl fun S hs hr => op_indexp' rfl rfl ar101 (vh hs 2 rfl rfl) (vh hs 13 rfl rfl) hj7) rfl <| SFp lTern_1 fl85_1 rfl <| SLp ty42 rfl <| SCl [12, 16] (c_wide_Less _ _ _ hx8) e176 rfl <| Sc (lo [8, 17] [] rfl fun S hs hr => op_build (ps := [(0, .tmp 8), (1, .tmp 17)]) (x := (⟨(Vector.get cp2 j5).Value, x8⟩ : Tern)) rfl rfl rfl (by kernel_rfl) zr85 ⟨_, _, lTern_0, _, by kernel_rfl, (vh hs 8 rfl rfl), _, _, lTern_1, _, by kernel_rfl, (vh hs 17 rfl rfl), rfl⟩) rfl <| SCl [18] (c_tern_Clean _ _ hx9) e127 rfl <| SSt ty85 5 rfl <| AW.ret ?_
  obtain rfl := si h
  exact ret1 Tryz.results261 rfl (out_cell rfl (i := 5) rfl ty85)
def F_rewrite_each_Cube_l1 (f1 : (Int → Option Tern)) : Nat → Nat → (Vector Tern 24) → Option (Vector Tern 24)
  | 0, i6, b5 => some b5
  | m7 + 1, i6, b5 => (f1 (i6 : Int)).bind fun x8 => (chk 24 (i6 : Int)).bind fun j9 => (F_rewrite_each_Cube_l1 f1 m7) (i6 + 1) (Vector.set b5 j9.1 x8 j9.2)
def F_rewrite_each_Cube (f1 : (Int → Option Tern)) : Option (Vector Tern 24) :=
  F_rewrite_each_Cube_l1 f1 (24 : Int).toNat 0 (Vector.replicate 24 zTern)
theorem c_rewrite_each_Cube (f1 : (Int → Option Tern)) (r : (Vector Tern 24)) (h : F_rewrite_each_Cube f1 = some r) : PCon Tryz.prog 260 [fn1 Tryz.prog (kint .i64) kTern f1] (rd (karr 24 kTern) r) := by
  refine PCon.of (Con.intro0 Tryz.func260 rfl Tryz.ntmps260 rfl fun w H => ?_)
  unfold F_rewrite_each_Cube at h
  refine SR <| Ct rfl (op_alloc 3 rfl rfl zr87) ?_
  rintro _ ⟨g2, rfl⟩
  refine Nl <| SR <| Ct rfl (op_alloc 4 rfl rfl zr87) ?_
  rintro _ ⟨g3, rfl⟩
  refine Nl <| AW.seq <| SR <| Mk rfl <| Nl <| AW.block <| AW.loopG (d := []) (ν := Nat × Nat × (Vector Tern 24)) (fun n => Cnt 24 n.2.1 n.1 ∧ F_rewrite_each_Cube_l1 f1 n.1 n.2.1 n.2.2 = some r) (fun n => n.1) (fun n => [(0, fn1 Tryz.prog (kint .i64) kTern f1), (2, ptrL g2 (Lens.id (karr 24 kTern))), (3, ptrL g3 (Lens.id (karr 24 kTern))), (5, rd (kint .i64) (n.2.1 : Int))]) (fun n => [(3, Blk g2 87 (karr 24 kTern) (Vector.replicate 24 zTern)), (4, Blk g3 87 (karr 24 kTern) n.2.2)]) ((24 : Int).toNat, 0, (Vector.replicate 24 zTern)) ⟨Cnt.start _, h⟩ ⟨rfl, ⟨rfl, rfl, rfl, rfl, trivial⟩, ⟨rfl, rfl, trivial⟩⟩ ?_
  rintro ⟨m7, i6, b5⟩ ⟨hsf1, h⟩
  change Cnt 24 i6 m7 at hsf1
  change F_rewrite_each_Cube_l1 f1 m7 i6 b5 = some r at h
  change AW _ _ _ ⟨slots [(0, fn1 Tryz.prog (kint .i64) kTern f1), (2, ptrL g2 (Lens.id (karr 24 kTern))), (3, ptrL g3 (Lens.id (karr 24 kTern))), (5, rd (kint .i64) (i6 : Int))], ress [(3, Blk g2 87 (karr 24 kTern) (Vector.replicate 24 zTern)), (4, Blk g3 87 (karr 24 kTern) b5)], _⟩
  cases m7 with
  | zero =>
    unfold F_rewrite_each_Cube_l1 at h
    refine SR <| Ac (op_lss rfl rfl (vt rfl) (vk rfl)) rfl <| Nl <| AW.seq <| Cn rfl (fun hc => absurd (of_decide_eq_true hc) hsf1.zero) (fun hc => ?_)
    refine AW.exit <| SR <| Ld ty87 4 rfl <| Sto ty87 3 rfl <| Nl <| AW.ret ?_
    obtain rfl := si h
    exact ret1 Tryz.results260 rfl (out_cell rfl (i := 3) rfl ty87)
  | succ m7 =>
    unfold F_rewrite_each_Cube_l1 at h
    generalize hgo1 : F_rewrite_each_Cube_l1 f1 m7 = go1 at h
    refine SR <| Ac (op_lss rfl rfl (vt rfl) (vk rfl)) rfl <| Nl <| AW.seq <| Cn rfl (fun hc => ?_) (fun hc => absurd hsf1.succ (of_decide_eq_false hc))
    have hlti6 := of_decide_eq_true hc
    refine AW.skip <| AW.seq <| AW.block <| SR <| Md rfl <| As rfl <| Nl ?_
    obtain ⟨x8, hx8, h⟩ := bsome h
    obtain ⟨j9, hj9, h⟩ := bsome h
    refine Rg <| Md rfl <| Ac (op_move (A := fn1 Tryz.prog (kint .i64) kTern f1) rfl rfl (vt rfl)) rfl <| Md rfl <| Ac (op_call1 hx8 rfl rfl (vt rfl) (vt rfl)) rfl <| Ac (op_index' rfl rfl ar87 (vt rfl) (vt rfl) hj9) rfl <| Sto ty85 4 rfl <| Nl <| Rg <| Ac (op_incrc rfl rfl (vt rfl) (vk rfl) rfl hlti6) rfl <| Md rfl <| Nl ?_
    subst hgo1
    exact ⟨(m7, i6 + 1, (Vector.set b5 j9.1 x8 j9.2)), Nat.lt_succ_self _, ⟨hsf1.next, h⟩, ⟨rfl, ⟨rfl, rfl, rfl, rfl, trivial⟩, ⟨rfl, rfl, trivial⟩⟩⟩
def F_rewrite_Before_l1 (cu2 : (Vector Tern 24)) (r1 : (Vector Tern 24)) : (List Tern) → Nat → Option ((Vector Tern 24) × Bool)
  | [], i6 => (F_rewrite_each_Cube (fun x => F_rewrite_Before_1 x cu2 r1)).bind fun x8 => some (x8, true)
  | x9 :: l7, i6 => (chk 24 (i6 : Int)).bind fun j11 => (F_tern_Meet x9 (Vector.get cu2 j11)).bind fun x12 => (bif (!x12.2) then some ((Vector.replicate 24 zTern), false) else (F_rewrite_Before_l1 cu2 r1 l7) (i6 + 1))
def F_rewrite_Before (r1 : (Vector Tern 24)) (cu2 : (Vector Tern 24)) : Option ((Vector Tern 24) × Bool) :=
  F_rewrite_Before_l1 cu2 r1 (Vector.toList r1) 0
theorem c_rewrite_Before (r1 : (Vector Tern 24)) (cu2 : (Vector Tern 24)) (r : ((Vector Tern 24) × Bool)) (h : F_rewrite_Before r1 cu2 = some r) : PCon Tryz.prog 202 [rd (karr 24 kTern) r1, rd (karr 24 kTern) cu2] (tup2 (rd (karr 24 kTern) r.1) (rd kbool r.2)) := by
  refine PCon.of (Con.intro0 Tryz.func202 rfl Tryz.ntmps202 rfl fun w H => ?_)
  unfold F_rewrite_Before at h
  refine SR <| Ct rfl (op_box 3 rfl rfl (vt rfl)) ?_
  rintro _ ⟨g3, rfl⟩
  refine Ct rfl (op_box 4 rfl rfl (vt rfl)) ?_
  rintro _ ⟨g4, rfl⟩
  refine Ct rfl (op_alloc 5 rfl rfl zr87) ?_
  rintro _ ⟨g5, rfl⟩
  refine Ab rfl <| Nl <| AW.seq <| SR <| Ld ty101 3 rfl <| Mk rfl <| Nl <| AW.block <| AW.loopG (d := []) (ν := (List Tern) × Nat) (fun n => Sfx (Vector.toList r1) n.2 n.1 ∧ F_rewrite_Before_l1 cu2 r1 n.1 n.2 = some r) (fun n => n.1.length) (fun n => [(2, ptrL g3 (Lens.id (karr 24 kTern))), (3, ptrL g4 (Lens.id (karr 24 kTern))), (4, ptrL g5 (Lens.id (karr 24 kTern))), (10, rd (karr 24 kTern) r1), (11, rd (kint .i64) (n.2 : Int))]) (fun n => [(3, Blk g3 101 (karr 24 kTern) r1), (4, Blk g4 87 (karr 24 kTern) cu2), (5, Blk g5 87 (karr 24 kTern) (Vector.replicate 24 zTern))]) ((Vector.toList r1), 0) ⟨Sfx.start _, h⟩ ⟨rfl, ⟨rfl, rfl, rfl, rfl, rfl, trivial⟩, ⟨rfl, rfl, rfl, trivial⟩⟩ ?_
  rintro ⟨l7, i6⟩ ⟨hsf1, h⟩
  change Sfx (Vector.toList r1) i6 l7 at hsf1
  change F_rewrite_Before_l1 cu2 r1 l7 i6 = some r at h
  change AW _ _ _ ⟨slots [(2, ptrL g3 (Lens.id (karr 24 kTern))), (3, ptrL g4 (Lens.id (karr 24 kTern))), (4, ptrL g5 (Lens.id (karr 24 kTern))), (10, rd (karr 24 kTern) r1), (11, rd (kint .i64) (i6 : Int))], ress [(3, Blk g3 101 (karr 24 kTern) r1), (4, Blk g4 87 (karr 24 kTern) cu2), (5, Blk g5 87 (karr 24 kTern) (Vector.replicate 24 zTern))], _⟩
  cases l7 with
  | nil =>
    unfold F_rewrite_Before_l1 at h
    refine SR <| Ac (op_lss rfl rfl (vt rfl) (vk rfl)) rfl <| Nl <| AW.seq <| Cn rfl (fun hc => absurd (of_decide_eq_true hc) (hsf1.niln (by simp))) (fun hc => ?_)
    refine AW.exit <| AW.seq <| AW.freezeB 3 4 rfl rfl rfl <| AW.freezeB 2 3 rfl rfl rfl ?_
    obtain ⟨x8, hx8, h⟩ := bsome h
    refine Rg <| Ac (op_fn1 (cs := [.tmp 3, .tmp 2]) (CAs := [rp (karr 24 kTern) cu2, rp (karr 24 kTern) r1]) (fun x => F_rewrite_Before_1 x cu2 r1) rfl rfl e261 ⟨vt rfl, vt rfl, trivial⟩ (fun x y h => c_rewrite_Before_1 _ _ _ y h)) rfl <| Cl [27] (c_rewrite_each_Cube _ _ hx8) e260 rfl <| Sto ty87 5 rfl <| Ab rfl <| Nl <| AW.ret ?_
    obtain rfl := si h
    exact ret2 Tryz.results202 rfl (out_cell rfl (i := 5) rfl ty87) (out_tmp rfl)
  | cons x9 l7 =>
    unfold F_rewrite_Before_l1 at h
    generalize hgo1 : F_rewrite_Before_l1 cu2 r1 l7 = go1 at h
    refine SR <| Ac (op_lss rfl rfl (vt rfl) (vk rfl)) rfl <| Nl <| AW.seq <| Cn rfl (fun hc => ?_) (fun hc => absurd (hsf1.consn (by simp)) (of_decide_eq_false hc))
    have hlti6 := of_decide_eq_true hc
    refine AW.skip <| AW.seq <| AW.block <| SR <| Md rfl <| Ac (op_indexv rfl rfl ar101 ty85 (vt rfl) (vt rfl) hsf1.lget) rfl <| Ct rfl (op_alloc 8 rfl rfl zr85) ?_
    rintro _ ⟨g10, rfl⟩
    refine As rfl <| Sto ty85 8 rfl <| Nl <| AW.seq ?_
    obtain ⟨j11, hj11, h⟩ := bsome h
    obtain ⟨x12, hx12, h⟩ := bsome h
    refine AW.regionAny [⟨[7], [16], [8], []⟩, ⟨[6], [17], [], []⟩, ⟨[3, 17], [18], [], []⟩, ⟨[18], [19], [4], []⟩, ⟨[16, 19], [20], [], []⟩, ⟨[20], [15], [], []⟩, ⟨[15], [21], [], []⟩, ⟨[15], [22], [], []⟩, ⟨[], [8], [], []⟩, ⟨[8, 21], [8], [], []⟩, ⟨[22], [9], [], []⟩] mixed (by kernel_rfl) <| SLd ty85 8 rfl <| SMd rfl <| Sc (lo [3, 17] [] rfl fun S hs hr => op_index' rfl rfl ar87 (vh hs 3 rfl rfl) (vh hs 17 rfl rfl) hj11) rfl <| SLd ty85 4 rfl <| SCl [16, 19] (c_tern_Meet _ _ _ hx12) e259 rfl <| Sc (lo [20] [] rfl fun S hs hr => op_move (A := tup2 (rd kTern x12.1) (rd kbool x12.2)) rfl rfl (vh hs 20 rfl rfl)) rfl <| Sc (lo [15] [] rfl fun S hs hr => op_fst rfl rfl (vh hs 15 rfl rfl)) rfl <| Sc (lo [15] [] rfl fun S hs hr => op_snd rfl rfl (vh hs 15 rfl rfl)) rfl <| Sc (locs (us := [(8, ownP 85 kTern zTern)]) (ur := []) [] [] rfl fun S hs hr => op_allocO rfl rfl rfl zr85) rfl <| Sc (locs (us := [(8, ownP 85 kTern x12.1)]) (ur := []) [8, 21] [] rfl fun S hs hr => op_storeO rfl rfl ty85 ((hs 8 rfl).trans rfl) (vh hs 21 rfl rfl)) rfl <| SAs rfl <| AW.unpackP 8 9 rfl rfl fun g13 => SR <| Md rfl <| Ac (op_not rfl rfl (vt rfl)) rfl <| Nl <| Cn rfl (fun hc => ?_) (fun hc => ?_)
    · have h := cond_t hc h
      refine SR <| Ac (op_build (ps := []) (x := (Vector.replicate 24 zTern)) rfl rfl rfl (by kernel_rfl) zr87 rfl) rfl <| Sto ty87 5 rfl <| Ab rfl <| Nl <| AW.ret ?_
      obtain rfl := si h
      exact ret2 Tryz.results202 rfl (out_cell rfl (i := 5) rfl ty87) (out_tmp rfl)
    · have h := cond_f hc h
      refine AW.skip <| Rg <| Ac (op_incrc rfl rfl (vt rfl) (vk rfl) rfl hlti6) rfl <| Md rfl <| Nl ?_
      subst hgo1
      exact ⟨(l7, i6 + 1), Nat.lt_succ_self _, ⟨hsf1.next, h⟩, ⟨rfl, ⟨rfl, rfl, rfl, rfl, rfl, trivial⟩, ⟨rfl, rfl, rfl, trivial⟩⟩⟩
def F_cube_Meet_1 (i1 : Int) (cp2 : (Vector Tern 24)) (cp3 : (Vector Tern 24)) : Option (Tern × Bool) :=
  (chk 24 i1).bind fun j5 => (chk 24 i1).bind fun j6 => (F_tern_Meet (Vector.get cp2 j5) (Vector.get cp3 j6)).bind fun x7 => some (x7.1, x7.2)
theorem c_cube_Meet_1 (i1 : Int) (cp2 : (Vector Tern 24)) (cp3 : (Vector Tern 24)) (r : (Tern × Bool)) (h : F_cube_Meet_1 i1 cp2 cp3 = some r) : PCon Tryz.prog 262 [rd (kint .i64) i1, rp (karr 24 kTern) cp2, rp (karr 24 kTern) cp3] (tup2 (rd kTern r.1) (rd kbool r.2)) := by
  refine PCon.of (Con.intro0 Tryz.func262 rfl Tryz.ntmps262 rfl fun w H => ?_)
  unfold F_cube_Meet_1 at h
  refine SR <| Ct rfl (op_alloc 5 rfl rfl zr85) ?_
  rintro _ ⟨g4, rfl⟩
  refine Ab rfl <| Nl <| AW.seq ?_
  obtain ⟨j5, hj5, h⟩ := bsome h
  obtain ⟨j6, hj6, h⟩ := bsome h
  obtain ⟨x7, hx7, h⟩ := bsome h
  refine AW.regionAny [⟨[0], [6], [], []⟩, ⟨[1, 6], [7], [], []⟩, ⟨[7], [8], [], []⟩, ⟨[0], [9], [], []⟩, ⟨[2, 9], [10], [], []⟩, ⟨[10], [11], [], []⟩, ⟨[8, 11], [12], [], []⟩, ⟨[12], [13], [], []⟩, ⟨[12], [14], [], []⟩, ⟨[4, 13], [], [5], [5]⟩, ⟨[14], [5], [], []⟩] mixed (by kernel_rfl) <| SMd rfl <| Sc (lo [1, 6] [] rfl fun S hs hr => op_indexp' rfl rfl ar87 (vh hs 1 rfl rfl) (vh hs 6 rfl rfl) hj5) rfl <| SLp ty85 rfl <| SMd rfl <| Sc (lo [2, 9] [] rfl fun S hs hr => op_indexp' rfl rfl ar87 (vh hs 2 rfl rfl) (vh hs 9 rfl rfl) hj6) rfl <| SLp ty85 rfl <| SCl [8, 11] (c_tern_Meet _ _ _ hx7) e259 rfl <| Sc (lo [12] [] rfl fun S hs hr => op_fst rfl rfl (vh hs 12 rfl rfl)) rfl <| Sc (lo [12] [] rfl fun S hs hr => op_snd rfl rfl (vh hs 12 rfl rfl)) rfl <| SSt ty85 5 rfl <| SAs rfl <| AW.ret ?_
  obtain rfl := si h
  exact ret2 Tryz.results262 rfl (out_cell rfl (i := 5) rfl ty85) (out_tmp rfl)
def F_cube_Meet (a1 : (Vector Tern 24)) (b2 : (Vector Tern 24)) : Option ((Vector Tern 24) × Bool) :=
  (F_cube_each (fun x => F_cube_Meet_1 x a1 b2)).bind fun x6 => some (x6.1, x6.2)
theorem c_cube_Meet (a1 : (Vector Tern 24)) (b2 : (Vector Tern 24)) (r : ((Vector Tern 24) × Bool)) (h : F_cube_Meet a1 b2 = some r) : PCon Tryz.prog 203 [rd (karr 24 kTern) a1, rd (karr 24 kTern) b2] (tup2 (rd (karr 24 kTern) r.1) (rd kbool r.2)) := by
  refine PCon.of (Con.intro0 Tryz.func203 rfl Tryz.ntmps203 rfl fun w H => ?_)
  unfold F_cube_Meet at h
  refine SR <| Ct rfl (op_box 3 rfl rfl (vt rfl)) ?_
  rintro _ ⟨g3, rfl⟩
  refine Ct rfl (op_box 4 rfl rfl (vt rfl)) ?_
  rintro _ ⟨g4, rfl⟩
  refine Ct rfl (op_alloc 5 rfl rfl zr87) ?_
  rintro _ ⟨g5, rfl⟩
  refine Ab rfl <| Nl <| AW.seq <| AW.freezeB 2 3 rfl rfl rfl <| AW.freezeB 3 4 rfl rfl rfl ?_
  obtain ⟨x6, hx6, h⟩ := bsome h
  refine Rg <| Ac (op_fa1 (fs := []) (FAs := []) (cs := [.tmp 2, .tmp 3]) (CAs := [rp (karr 24 kTern) a1, rp (karr 24 kTern) b2]) (kx := (kint .i64)) (B := (fun (y : (Tern × Bool)) => tup2 (rd kTern y.1) (rd kbool y.2))) (fun x => F_cube_Meet_1 x a1 b2) rfl rfl e262 trivial ⟨vt rfl, vt rfl, trivial⟩ (fun x y h => c_cube_Meet_1 _ _ _ y h)) rfl <| Cl [6] (c_cube_each _ _ hx6) e196 rfl <| Ac (op_fst rfl rfl (vt rfl)) rfl <| Ac (op_snd rfl rfl (vt rfl)) rfl <| Sto ty87 5 rfl <| As rfl <| Nl <| AW.ret ?_
  obtain rfl := si h
  exact ret2 Tryz.results203 rfl (out_cell rfl (i := 5) rfl ty87) (out_tmp rfl)
def F_walk_way_meet (w1 : walk_way) (f2 : Flow) : Option (walk_way × Bool) :=
  (F_flow_Cube f2).bind fun x6 => (F_rewrite_Before w1.got x6).bind fun x7 => (bif (!x7.2) then some ((⟨(Vector.replicate 24 zTern), (Vector.replicate 24 zTern), [], []⟩ : walk_way), false) else (F_cube_Meet x7.1 w1.cube).bind fun x9 => some ({ w1 with cube := x9.1 }, x9.2))
theorem c_walk_way_meet (w1 : walk_way) (f2 : Flow) (r : (walk_way × Bool)) (h : F_walk_way_meet w1 f2 = some r) : PCon Tryz.prog 136 [rd kwalk_way w1, rd kFlow f2] (tup2 (rd kwalk_way r.1) (rd kbool r.2)) := by
  refine PCon.of (Con.intro0 Tryz.func136 rfl Tryz.ntmps136 rfl fun w H => ?_)
  unfold F_walk_way_meet at h
  refine SR <| Ct rfl (op_box 3 rfl rfl (vt rfl)) ?_
  rintro _ ⟨g3, rfl⟩
  refine Ct rfl (op_box 4 rfl rfl (vt rfl)) ?_
  rintro _ ⟨g4, rfl⟩
  refine Ct rfl (op_alloc 5 rfl rfl zr135) ?_
  rintro _ ⟨g5, rfl⟩
  refine Ab rfl <| Nl <| AW.seq ?_
  obtain ⟨x6, hx6, h⟩ := bsome h
  obtain ⟨x7, hx7, h⟩ := bsome h
  refine AW.regionAny [⟨[2], [9], [], []⟩, ⟨[9], [10], [3], []⟩, ⟨[3], [11], [4], []⟩, ⟨[11], [12], [], []⟩, ⟨[10, 12], [13], [], []⟩, ⟨[13], [8], [], []⟩, ⟨[8], [14], [], []⟩, ⟨[8], [15], [], []⟩, ⟨[], [6], [], []⟩, ⟨[6, 14], [6], [], []⟩, ⟨[15], [7], [], []⟩] mixed (by kernel_rfl) <| SFd lwalk_way_1 fl135_1 rfl <| SLd ty101 3 rfl <| SLd ty61 4 rfl <| SCl [11] (c_flow_Cube _ _ hx6) e157 rfl <| SCl [10, 12] (c_rewrite_Before _ _ _ hx7) e202 rfl <| Sc (lo [13] [] rfl fun S hs hr => op_move (A := tup2 (rd (karr 24 kTern) x7.1) (rd kbool x7.2)) rfl rfl (vh hs 13 rfl rfl)) rfl <| Sc (lo [8] [] rfl fun S hs hr => op_fst rfl rfl (vh hs 8 rfl rfl)) rfl <| Sc (lo [8] [] rfl fun S hs hr => op_snd rfl rfl (vh hs 8 rfl rfl)) rfl <| Sc (locs (us := [(6, ownP 87 (karr 24 kTern) (Vector.replicate 24 zTern))]) (ur := []) [] [] rfl fun S hs hr => op_allocO rfl rfl rfl zr87) rfl <| Sc (locs (us := [(6, ownP 87 (karr 24 kTern) x7.1)]) (ur := []) [6, 14] [] rfl fun S hs hr => op_storeO rfl rfl ty87 ((hs 6 rfl).trans rfl) (vh hs 14 rfl rfl)) rfl <| SAs rfl <| AW.unpackP 6 7 rfl rfl fun g8 => AW.seq <| SR <| Md rfl <| Ac (op_not rfl rfl (vt rfl)) rfl <| Nl <| Cn rfl (fun hc => ?_) (fun hc => ?_)
  · have h := cond_t hc h
    refine SR <| Ac (op_build (ps := []) (x := (⟨(Vector.replicate 24 zTern), (Vector.replicate 24 zTern), [], []⟩ : walk_way)) rfl rfl rfl (by kernel_rfl) zr135 rfl) rfl <| Sto ty135 5 rfl <| Ab rfl <| Nl <| AW.ret ?_
    obtain rfl := si h
    exact ret2 Tryz.results136 rfl (out_cell rfl (i := 5) rfl ty135) (out_tmp rfl)
  · have h := cond_f hc h
    refine AW.skip <| AW.seq ?_
    obtain ⟨x9, hx9, h⟩ := bsome h
    refine Rg <| Ld ty87 7 rfl <| FdA lwalk_way_0 fl135_0 rfl <| Ld ty87 3 rfl <| Cl [20, 22] (c_cube_Meet _ _ _ hx9) e203 rfl <| Mt2 rfl <| Ac (op_fst rfl rfl (vt rfl)) rfl <| Ac (op_snd rfl rfl (vt rfl)) rfl <| FdA lwalk_way_0 fl135_0 rfl <| Sto ty87 3 rfl <| As rfl <| Nl <| SR <| Ld ty135 3 rfl <| Md rfl <| Sto ty135 5 rfl <| As rfl <| Nl <| AW.ret ?_
    obtain rfl := si h
    exact ret2 Tryz.results136 rfl (out_cell rfl (i := 5) rfl ty135) (out_tmp rfl)
def F_rewrite_Then_1 (i1 : Int) (cp2 : (Vector Tern 24)) (cp3 : (Vector Tern 24)) : Option Tern :=
  (chk 24 i1).bind fun j5 => (chk 24 i1).bind fun j6 => (F_rewrite_over (Vector.get cp2 j5) (Vector.get cp3 j6)).bind fun x7 => some x7
theorem c_rewrite_Then_1 (i1 : Int) (cp2 : (Vector Tern 24)) (cp3 : (Vector Tern 24)) (r : Tern) (h : F_rewrite_Then_1 i1 cp2 cp3 = some r) : PCon Tryz.prog 332 [rd (kint .i64) i1, rp (karr 24 kTern) cp2, rp (karr 24 kTern) cp3] (rd kTern r) := by
  refine PCon.of (Con.intro0 Tryz.func332 rfl Tryz.ntmps332 rfl fun w H => ?_)
  unfold F_rewrite_Then_1 at h
  refine SR <| Ct rfl (op_alloc 5 rfl rfl zr85) ?_
  rintro _ ⟨g4, rfl⟩
  refine Nl <| AW.seq ?_
  obtain ⟨j5, hj5, h⟩ := bsome h
  obtain ⟨j6, hj6, h⟩ := bsome h
  obtain ⟨x7, hx7, h⟩ := bsome h
  refine AW.regionAny [⟨[0], [5], [], []⟩, ⟨[1, 5], [6], [], []⟩, ⟨[6], [7], [], []⟩, ⟨[0], [8], [], []⟩, ⟨[2, 8], [9], [], []⟩, ⟨[9], [10], [], []⟩, ⟨[7, 10], [11], [], []⟩, ⟨[4, 11], [], [5], [5]⟩] mixed (by kernel_rfl) <| SMd rfl <| Sc (lo [1, 5] [] rfl fun S hs hr => op_indexp' rfl rfl ar101 (vh hs 1 rfl rfl) (vh hs 5 rfl rfl) hj5) rfl <| SLp ty85 rfl <| SMd rfl <| Sc (lo [2, 8] [] rfl fun S hs hr => op_indexp' rfl rfl ar101 (vh hs 2 rfl rfl) (vh hs 8 rfl rfl) hj6) rfl <| SLp ty85 rfl <| SCl [7, 10] (c_rewrite_over _ _ _ hx7) e270 rfl <| SSt ty85 5 rfl <| AW.ret ?_
  obtain rfl := si h
  exact ret1 Tryz.results332 rfl (out_cell rfl (i := 5) rfl ty85)
end Go.Proofs.YtknpgojdkobgjaaGreat.W
set_option linter.unusedVariables false
set_option maxRecDepth 4000
set_option linter.unusedSimpArgs false
namespace Go.Proofs.YtknpgojdkobgjaaGreat.W
open Go Go.Wb
theorem e332 : Ent Tryz.prog 332 := Ent.mk Tryz.func332 rfl rfl
theorem e298 : Ent Tryz.prog 298 := Ent.mk Tryz.func298 rfl rfl
theorem e304 : Ent Tryz.prog 304 := Ent.mk Tryz.func304 rfl rfl
theorem e303 : Ent Tryz.prog 303 := Ent.mk Tryz.func303 rfl rfl
theorem e265 : Ent Tryz.prog 265 := Ent.mk Tryz.func265 rfl rfl
theorem e205 : Ent Tryz.prog 205 := Ent.mk Tryz.func205 rfl rfl
theorem e208 : Ent Tryz.prog 208 := Ent.mk Tryz.func208 rfl rfl
theorem e138 : Ent Tryz.prog 138 := Ent.mk Tryz.func138 rfl rfl
theorem e136 : Ent Tryz.prog 136 := Ent.mk Tryz.func136 rfl rfl
theorem e137 : Ent Tryz.prog 137 := Ent.mk Tryz.func137 rfl rfl
theorem e76 : Ent Tryz.prog 76 := Ent.mk Tryz.func76 rfl rfl
def F_rewrite_Then (a1 : (Vector Tern 24)) (b2 : (Vector Tern 24)) : Option (Vector Tern 24) :=
  (F_rewrite_each_Rewrite (fun x => F_rewrite_Then_1 x a1 b2)).bind fun x6 => some x6
theorem c_rewrite_Then (a1 : (Vector Tern 24)) (b2 : (Vector Tern 24)) (r : (Vector Tern 24)) (h : F_rewrite_Then a1 b2 = some r) : PCon Tryz.prog 298 [rd (karr 24 kTern) a1, rd (karr 24 kTern) b2] (rd (karr 24 kTern) r) := by
  refine PCon.of (Con.intro0 Tryz.func298 rfl Tryz.ntmps298 rfl fun w H => ?_)
  unfold F_rewrite_Then at h
  refine SR <| Ct rfl (op_box 3 rfl rfl (vt rfl)) ?_
  rintro _ ⟨g3, rfl⟩
  refine Ct rfl (op_box 4 rfl rfl (vt rfl)) ?_
  rintro _ ⟨g4, rfl⟩
  refine Ct rfl (op_alloc 5 rfl rfl zr101) ?_
  rintro _ ⟨g5, rfl⟩
  refine Nl <| AW.seq <| AW.freezeB 2 3 rfl rfl rfl <| AW.freezeB 3 4 rfl rfl rfl ?_
  obtain ⟨x6, hx6, h⟩ := bsome h
  refine Rg <| Ac (op_fn1 (cs := [.tmp 2, .tmp 3]) (CAs := [rp (karr 24 kTern) a1, rp (karr 24 kTern) b2]) (fun x => F_rewrite_Then_1 x a1 b2) rfl rfl e332 ⟨vt rfl, vt rfl, trivial⟩ (fun x y h => c_rewrite_Then_1 _ _ _ y h)) rfl <| Cl [5] (c_rewrite_each_Rewrite _ _ hx6) e305 rfl <| Sto ty101 5 rfl <| Nl <| AW.ret ?_
  obtain rfl := si h
  exact ret1 Tryz.results298 rfl (out_cell rfl (i := 5) rfl ty101)
def F_atom_trace_do_j1 (t1 : atom_trace) (b7 : Atom) : Option atom_trace :=
  (appd t1.atoms [b7]).bind fun l8 => some (⟨t1.got, l8⟩ : atom_trace)
def F_atom_trace_do (t1 : atom_trace) (a4 : Action) : Option atom_trace :=
  (bif (decide (a4.Kind = 0)) then (bif (decide (a4.Port = 4294967293)) then F_atom_trace_do_j1 t1 { { (⟨t1.got, false, 0, 0⟩ : Atom) with Port := a4.Port } with Max := a4.Max } else F_atom_trace_do_j1 t1 { (⟨t1.got, false, 0, 0⟩ : Atom) with Port := a4.Port }) else (bif (decide (a4.Kind = 22)) then F_atom_trace_do_j1 t1 { { (⟨t1.got, false, 0, 0⟩ : Atom) with Group := true } with Port := a4.Group } else (F_aset_Rewrite a4).bind fun x10 => (F_rewrite_Then t1.got x10).bind fun x11 => some (⟨x11, t1.atoms⟩ : atom_trace)))
theorem c_atom_trace_do (g2 gT : Nat) (t1 : atom_trace) (a4 : Action) (r : atom_trace) (h : F_atom_trace_do t1 a4 = some r) : Con Tryz.prog 304 [ptrL g2 (Lens.id katom_trace_o1), rd kAction a4] (BoxF g2 gT katom_trace_o1 (fun v => (⟨t1.got, v⟩ : atom_trace_o1)) 126 kAtom t1.atoms) (fun _ : Unit => top) (fun _ => BoxF g2 gT katom_trace_o1 (fun v => (⟨r.got, v⟩ : atom_trace_o1)) 126 kAtom r.atoms) := by
  refine Con.intro Tryz.func304 rfl Tryz.ntmps304 rfl fun w H X => ?_
  unfold F_atom_trace_do at h
  refine AW.unboxF 0 2001 (by decide) rfl rfl fun v3 => SR <| Ct rfl (op_box 4 rfl rfl (vt rfl)) ?_
  rintro _ ⟨g5, rfl⟩
  refine Nl <| SR <| Mp rfl <| Nc rfl <| FdA latom_trace_o1_0 flv346_0_1 rfl <| Ld ty101 0 rfl <| Ac (op_build (ps := [(0, .tmp 8)]) (x := (⟨t1.got, false, 0, 0⟩ : Atom)) rfl rfl rfl (by kernel_rfl) zr126 ⟨_, _, lAtom_0, _, by kernel_rfl, (vt rfl), rfl⟩) rfl <| Ct rfl (op_alloc 5 rfl rfl zr126) ?_
  rintro _ ⟨g6, rfl⟩
  refine Sto ty126 5 rfl <| Nl ?_
  refine AW.join (d := []) (ν := Atom) (fun n => F_atom_trace_do_j1 t1 n = some r) (fun n => [(0, ptrL g2 (Lens.id katom_trace_o1)), (4, ptrL g6 (Lens.id kAtom))]) (fun n => [(0, Blk g2 gT katom_trace_o1 (⟨t1.got, v3⟩ : atom_trace_o1)), (5, Blk g6 126 kAtom n), (2001, Row v3 126 kAtom t1.atoms)]) ?hx1 ?hy1
  case hy1 =>
    intro b7 h
    unfold F_atom_trace_do_j1 at h
    change AW _ _ _ ⟨slots [(0, ptrL g2 (Lens.id katom_trace_o1)), (4, ptrL g6 (Lens.id kAtom))], ress [(0, Blk g2 gT katom_trace_o1 (⟨t1.got, v3⟩ : atom_trace_o1)), (5, Blk g6 126 kAtom b7), (2001, Row v3 126 kAtom t1.atoms)], _⟩
    obtain ⟨l8, hl8, h⟩ := bsome h
    refine AW.endT <| AW.regionAny [⟨[0], [39], [], []⟩, ⟨[0], [40], [], []⟩, ⟨[40], [41], [], []⟩, ⟨[41], [42], [], []⟩, ⟨[42], [43], [0], []⟩, ⟨[4], [44], [5], []⟩, ⟨[44], [45], [], []⟩, ⟨[43, 45], [46], [2001], [2001]⟩, ⟨[39], [47], [], []⟩, ⟨[47], [48], [], []⟩, ⟨[48, 46], [46], [0], [0]⟩] mixed (by kernel_rfl) <| SMp rfl <| SMp rfl <| SNc rfl <| SFd latom_trace_o1_1 flv346_1_1 rfl <| Sc (lo [42] [0] rfl fun S hs hr => op_loadv v3 rfl rfl tyr88 (vh hs 42 rfl rfl) (i := 0) ((hr 0 rfl).trans rfl) rfl) rfl <| SLd ty126 5 rfl <| Sc (lo [44] [] rfl fun S hs hr => op_buildSliceR (ps := [(0, .tmp 44)]) (l := [b7]) rfl rfl sl88 zr126 rfl rfl ⟨_, _, Lens.idx 1 kAtom 0 (by decide), _, rfl, (vh hs 44 rfl rfl), rfl⟩ rfl) rfl <| Sc (locs (us := [(46, ownR 126 kAtom l8)]) (ur := [(2001, emp)]) [43, 45] [2001] rfl fun S hs hr => op_appendO 2001 hl8 rfl rfl rfl el88 (vh hs 43 rfl rfl) ((hr 2001 rfl).trans rfl) (vh hs 45 rfl rfl)) rfl <| SNc rfl <| SFd latom_trace_o1_1 flv346_1_1 rfl <| Sc (locs (us := [(46, top)]) (ur := [(0, BoxF g2 gT katom_trace_o1 (fun v => ((Lens.comp (Lens.id katom_trace_o1) latom_trace_o1_1)).set (⟨t1.got, v3⟩ : atom_trace_o1) v) 126 kAtom l8)]) [48, 46] [0] rfl fun S hs hr => op_storeR rfl rfl tyr88 (vh hs 48 rfl rfl) ((hr 0 rfl).trans rfl) ((hs 46 rfl).trans rfl)) rfl <| EndT.unboxF 0 2001 (by decide) rfl rfl fun v9 => EndT.done ?_
    obtain rfl := si h
    exact RetOK.turn (Turn.packF 0 2001 (fun v => (⟨t1.got, v⟩ : atom_trace_o1)) (by decide) rfl rfl) (ret0Y (i := 0) Tryz.results304 rfl rfl)
  case hx1 =>
    refine SR <| FdA lAction_0 fl121_0 rfl <| Ld ty3 4 rfl <| Nl <| AW.block <| SR <| Ac (op_eql rfl rfl (vt rfl) (vk rfl)) rfl <| As rfl <| Nl <| Cn rfl (fun hc => ?_) (fun hc => ?_)
    · have h := cond_t hc h
      refine SR <| FdA lAction_1 fl121_1 rfl <| Ld ty3 4 rfl <| FdA lAtom_2 fl126_2 rfl <| Sto ty3 5 rfl <| Nl <| SR <| FdA lAction_1 fl121_1 rfl <| Ld ty3 4 rfl <| Ac (op_eql rfl rfl (vt rfl) (vk rfl)) rfl <| Nl <| Cn rfl (fun hc => ?_) (fun hc => ?_)
      · have h := cond_t hc h
        refine Rg <| FdA lAction_2 fl121_2 rfl <| Ld ty3 4 rfl <| FdA lAtom_3 fl126_3 rfl <| Sto ty3 5 rfl <| Nl ?_
        exact ⟨{ { (⟨t1.got, false, 0, 0⟩ : Atom) with Port := a4.Port } with Max := a4.Max }, h, ⟨rfl, ⟨rfl, rfl, trivial⟩, ⟨rfl, rfl, rfl, trivial⟩⟩⟩
      · have h := cond_f hc h
        refine AW.skip ?_
        exact ⟨{ (⟨t1.got, false, 0, 0⟩ : Atom) with Port := a4.Port }, h, ⟨rfl, ⟨rfl, rfl, trivial⟩, ⟨rfl, rfl, rfl, trivial⟩⟩⟩
    · have h := cond_f hc h
      refine SR <| Ac (op_eql rfl rfl (vt rfl) (vk rfl)) rfl <| As rfl <| Nl <| Cn rfl (fun hc => ?_) (fun hc => ?_)
      · have h := cond_t hc h
        refine AW.regionAny [⟨[3], [35], [], []⟩, ⟨[35], [36], [4], []⟩, ⟨[4], [37], [], []⟩, ⟨[37], [], [5], [5]⟩, ⟨[4], [38], [], []⟩, ⟨[38, 36], [], [5], [5]⟩] mixed (by kernel_rfl) <| SFd lAction_3 fl121_3 rfl <| SLd ty3 4 rfl <| SFd lAtom_1 fl126_1 rfl <| Sc (locr [37] [5] rfl fun S hs hr => op_store rfl rfl ty4 (vh hs 37 rfl rfl) (i := 5) ((hr 5 rfl).trans rfl) vb) rfl <| SFd lAtom_2 fl126_2 rfl <| SSt ty3 5 rfl ?_
        exact ⟨{ { (⟨t1.got, false, 0, 0⟩ : Atom) with Group := true } with Port := a4.Group }, h, ⟨rfl, ⟨rfl, rfl, trivial⟩, ⟨rfl, rfl, rfl, trivial⟩⟩⟩
      · have h := cond_f hc h
        refine AW.seq ?_
        obtain ⟨x10, hx10, h⟩ := bsome h
        obtain ⟨x11, hx11, h⟩ := bsome h
        refine AW.regionAny [⟨[0], [12], [], []⟩, ⟨[0], [13], [], []⟩, ⟨[13], [14], [], []⟩, ⟨[14], [15], [], []⟩, ⟨[15], [16], [0], []⟩, ⟨[3], [17], [4], []⟩, ⟨[17], [18], [], []⟩, ⟨[16, 18], [19], [], []⟩, ⟨[12], [20], [], []⟩, ⟨[20], [21], [], []⟩, ⟨[21, 19], [], [0], [0]⟩] mixed (by kernel_rfl) <| SMp rfl <| SMp rfl <| SNc rfl <| SFd latom_trace_o1_0 flv346_0_1 rfl <| SLd ty101 0 rfl <| SLd ty121 4 rfl <| SCl [17] (c_aset_Rewrite _ _ hx10) e287 rfl <| SCl [16, 18] (c_rewrite_Then _ _ _ hx11) e298 rfl <| SNc rfl <| SFd latom_trace_o1_0 flv346_0_1 rfl <| SSt ty101 0 rfl <| AW.ret ?_
        obtain rfl := si h
        exact RetOK.turn (Turn.packF 0 2001 (fun v => (⟨x11, v⟩ : atom_trace_o1)) (by decide) rfl rfl) (ret0Y (i := 0) Tryz.results304 rfl rfl)
def F_atom_each_Action_l1 (sg : Type) (do2 : (sg → Action → Option sg)) : (List Action) → Nat → sg → Option sg
  | [], i6, s5 => some s5
  | x8 :: l7, i6, s5 => (do2 s5 x8).bind fun s10 => (F_atom_each_Action_l1 sg do2 l7) (i6 + 1) s10
def F_atom_each_Action (l1 : (List Action)) (sg : Type) (do2 : (sg → Action → Option sg)) (s3 : sg) : Option sg :=
  F_atom_each_Action_l1 sg do2 l1 0 s3
theorem c_atom_each_Action (l1 : (List Action)) (sg : Type) (do2 : (sg → Action → Option sg)) (L : sg → Res) (s3 : sg) (r : sg) (h : F_atom_each_Action l1 sg do2 s3 = some r) : Con Tryz.prog 303 [rd (ksl kAction) l1, stA Tryz.prog kAction do2 L] (L s3) (fun _ : Unit => top) (fun _ => L r) := by
  refine Con.intro Tryz.func303 rfl Tryz.ntmps303 rfl fun w H X => ?_
  unfold F_atom_each_Action at h
  refine SR <| Md rfl <| Ac (op_len' rfl rfl sl122 (vt rfl)) rfl <| Mk rfl <| Nl <| AW.block <| AW.loopG (d := []) (ν := (List Action) × Nat × sg) (fun n => Sfx l1 n.2.1 n.1 ∧ F_atom_each_Action_l1 sg do2 n.1 n.2.1 n.2.2 = some r) (fun n => n.1.length) (fun n => [(1, stA Tryz.prog kAction do2 L), (6, rd (ksl kAction) l1), (7, rd (kint .i64) (l1.length : Int)), (8, rd (kint .i64) (n.2.1 : Int))]) (fun n => [(0, L n.2.2)]) (l1, 0, s3) ⟨Sfx.start _, h⟩ ⟨rfl, ⟨rfl, rfl, rfl, rfl, trivial⟩, ⟨rfl, trivial⟩⟩ ?_
  rintro ⟨l7, i6, s5⟩ ⟨hsf1, h⟩
  change Sfx l1 i6 l7 at hsf1
  change F_atom_each_Action_l1 sg do2 l7 i6 s5 = some r at h
  change AW _ _ _ ⟨slots [(1, stA Tryz.prog kAction do2 L), (6, rd (ksl kAction) l1), (7, rd (kint .i64) (l1.length : Int)), (8, rd (kint .i64) (i6 : Int))], ress [(0, L s5)], _⟩
  cases l7 with
  | nil =>
    unfold F_atom_each_Action_l1 at h
    refine SR <| Ac (op_lss rfl rfl (vt rfl) (vt rfl)) rfl <| Nl <| AW.seq <| Cn rfl (fun hc => absurd (of_decide_eq_true hc) hsf1.nil) (fun hc => ?_)
    refine AW.exit ?_
    obtain rfl := si h
    exact ret0Y (i := 0) Tryz.results303 rfl rfl
  | cons x8 l7 =>
    unfold F_atom_each_Action_l1 at h
    generalize hgo1 : F_atom_each_Action_l1 sg do2 l7 = go1 at h
    refine SR <| Ac (op_lss rfl rfl (vt rfl) (vt rfl)) rfl <| Nl <| AW.seq <| Cn rfl (fun hc => ?_) (fun hc => absurd hsf1.cons (of_decide_eq_false hc))
    have hlti6 := of_decide_eq_true hc
    refine AW.skip <| AW.seq <| AW.block <| SR <| Ac (op_indexs' rfl rfl sl122 (vt rfl) (vt rfl) hsf1.lget) rfl <| Lp1 ty121 rfl <| Ct rfl (op_alloc 6 rfl rfl zr121) ?_
    rintro _ ⟨g9, rfl⟩
    refine Sto ty121 6 rfl <| Nl ?_
    obtain ⟨s10, hs10, h⟩ := bsome h
    refine Rg <| Ac (op_move (A := stA Tryz.prog kAction do2 L) rfl rfl (vt rfl)) rfl <| Ld ty121 6 rfl <| Ac (op_callst 0 hs10 rfl rfl (vt rfl) (vt rfl) rfl) rfl <| Nl <| Rg <| Ac (op_incr (t := 7) rfl rfl (vt rfl) (vk rfl) (vt rfl) hlti6) rfl <| Md rfl <| Nl ?_
    subst hgo1
    exact ⟨(l7, i6 + 1, s10), Nat.lt_succ_self _, ⟨hsf1.next, h⟩, ⟨rfl, ⟨rfl, rfl, rfl, rfl, trivial⟩, ⟨rfl, trivial⟩⟩⟩
def F_atom_Do (acts1 : (List Action)) (r2 : (Vector Tern 24)) : Option ((List Atom) × (Vector Tern 24)) :=
  (F_rewrite_Clean r2).bind fun x5 => (F_atom_each_Action acts1 atom_trace (fun s x => F_atom_trace_do s x) (⟨x5, []⟩ : atom_trace)).bind fun b7 => some (b7.atoms, b7.got)
theorem c_atom_Do (acts1 : (List Action)) (r2 : (Vector Tern 24)) (r : ((List Atom) × (Vector Tern 24))) (h : F_atom_Do acts1 r2 = some r) : PCon Tryz.prog 265 [rd (ksl kAction) acts1, rd (karr 24 kTern) r2] (tup2 (rd (ksl kAtom) r.1) (rd (karr 24 kTern) r.2)) := by
  refine PCon.of (Con.intro0 Tryz.func265 rfl Tryz.ntmps265 rfl fun w H => ?_)
  unfold F_atom_Do at h
  refine SR <| Ct rfl (op_box 4 rfl rfl (vt rfl)) ?_
  rintro _ ⟨g3, rfl⟩
  refine Ac (op_assign (A := rd (ksl kAtom) []) rfl rfl vnil) rfl <| Ct rfl (op_alloc 6 rfl rfl zr101) ?_
  rintro _ ⟨g4, rfl⟩
  refine Nl <| AW.seq <| AW.newnil 2221 126 kAtom ?_
  obtain ⟨x5, hx5, h⟩ := bsome h
  refine Rg <| Ld ty101 4 rfl <| Cl [7] (c_rewrite_Clean _ _ hx5) e268 rfl <| Ac (op_build (ps := [(0, .tmp 8)]) (x := (⟨x5, (.slice none 0 0)⟩ : atom_trace_o1)) rfl rfl rfl (by kernel_rfl) zrv346_1 ⟨_, _, latom_trace_o1_0, _, by kernel_rfl, (vt rfl), rfl⟩) rfl <| Ct rfl (op_box 11 rfl rfl (vt rfl)) ?_
  rintro _ ⟨g6, rfl⟩
  refine Ac (op_assign (A := ptrL g6 (Lens.id katom_trace_o1)) rfl rfl (vt rfl)) rfl <| Nl <| AW.seq ?_
  obtain ⟨b7, hb7, h⟩ := bsome h
  refine Rg <| Md rfl <| Mp rfl <| Ac (op_st (fs := [.tmp 12]) (cs := []) (FAs := [ptrL g6 (Lens.id katom_trace_o1)]) (CAs := []) (k := kAction) (fun s x => F_atom_trace_do s x) (fun (s : atom_trace) => BoxF g6 346 katom_trace_o1 (fun v => (⟨s.got, v⟩ : atom_trace_o1)) 126 kAtom s.atoms) rfl rfl e304 ⟨vt rfl, trivial⟩ trivial (fun s x s2 h => c_atom_trace_do _ _ s x s2 h)) rfl <| AOps.packF 11 2221 (fun v => (⟨x5, v⟩ : atom_trace_o1)) (by decide) rfl rfl <| Ct rfl (op_callR 11 (xs := [.tmp 11, .tmp 13]) (c_atom_each_Action _ atom_trace _ (fun (s : atom_trace) => BoxF g6 346 katom_trace_o1 (fun v => (⟨s.got, v⟩ : atom_trace_o1)) 126 kAtom s.atoms) _ _ hb7) e303 rfl rfl ⟨vt rfl, vt rfl, trivial⟩ rfl) ?_
  rintro _ ⟨_u, rfl⟩
  refine AOps.unboxF 11 2221 (by decide) rfl rfl fun v8 => Nl <| AW.seq <| AW.regionAny [⟨[6], [15], [], []⟩, ⟨[15], [16], [], []⟩, ⟨[16], [17], [], []⟩, ⟨[17], [18], [11], []⟩, ⟨[6], [19], [], []⟩, ⟨[19], [20], [], []⟩, ⟨[20], [21], [], []⟩, ⟨[21], [22], [11], []⟩, ⟨[18], [4], [], []⟩, ⟨[5, 22], [], [6], [6]⟩] mixed (by kernel_rfl) <| SMp rfl <| SNc rfl <| SFd latom_trace_o1_1 flv346_1_1 rfl <| Sc (lo [17] [11] rfl fun S hs hr => op_loadv v8 rfl rfl tyr88 (vh hs 17 rfl rfl) (i := 11) ((hr 11 rfl).trans rfl) rfl) rfl <| SMp rfl <| SNc rfl <| SFd latom_trace_o1_0 flv346_0_1 rfl <| SLd ty101 11 rfl <| Sc (lo [18] [] rfl fun S hs hr => op_assign (A := raw v8) rfl rfl (vh hs 18 rfl rfl)) rfl <| SSt ty101 6 rfl <| AW.freezes [4, 18] 2221 rfl ⟨rfl, rfl, trivial⟩ rfl <| AW.ret ?_
  obtain rfl := si h
  exact ret2 Tryz.results265 rfl (out_tmp rfl) (out_cell rfl (i := 6) rfl ty101)
def F_walk_way_act (w1 : walk_way) (l2 : (List Action)) : Option walk_way :=
  (F_atom_Do l2 w1.got).bind fun x5 => (otake w1.atoms (w1.atoms.length : Int)).bind fun s7 => (appd s7 x5.1).bind fun l8 => some { { w1 with atoms := l8 } with got := x5.2 }
theorem c_walk_way_act (w1 : walk_way) (l2 : (List Action)) (r : walk_way) (h : F_walk_way_act w1 l2 = some r) : PCon Tryz.prog 205 [rd kwalk_way w1, rd (ksl kAction) l2] (rd kwalk_way r) := by
  refine PCon.of (Con.intro0 Tryz.func205 rfl Tryz.ntmps205 rfl fun w H => ?_)
  unfold F_walk_way_act at h
  refine SR <| Ct rfl (op_box 3 rfl rfl (vt rfl)) ?_
  rintro _ ⟨g3, rfl⟩
  refine Ct rfl (op_alloc 5 rfl rfl zr135) ?_
  rintro _ ⟨g4, rfl⟩
  refine Nl <| AW.seq ?_
  obtain ⟨x5, hx5, h⟩ := bsome h
  refine Rg <| Md rfl <| FdA lwalk_way_1 fl135_1 rfl <| Ld ty101 3 rfl <| Cl [8, 10] (c_atom_Do _ _ _ hx5) e265 rfl <| Mt2 rfl <| Ac (op_fst rfl rfl (vt rfl)) rfl <| Ac (op_snd rfl rfl (vt rfl)) rfl <| Ct rfl (op_alloc 7 rfl rfl zr101) ?_
  rintro _ ⟨g6, rfl⟩
  refine As rfl <| Sto ty101 7 rfl <| Nl <| AW.seq ?_
  obtain ⟨s7, hs7, h⟩ := bsome h
  obtain ⟨l8, hl8, h⟩ := bsome h
  refine AW.regionAny [⟨[2], [14], [], []⟩, ⟨[14], [15], [3], []⟩, ⟨[2], [16], [], []⟩, ⟨[16], [17], [3], []⟩, ⟨[17], [18], [], []⟩, ⟨[2], [19], [], []⟩, ⟨[19], [20], [3], []⟩, ⟨[20], [21], [], []⟩, ⟨[15, 18, 21], [22], [], []⟩, ⟨[5], [23], [], []⟩, ⟨[22, 23], [24], [], []⟩, ⟨[6], [25], [7], []⟩, ⟨[2], [26], [], []⟩, ⟨[26, 24], [], [3], [3]⟩, ⟨[2], [27], [], []⟩, ⟨[27, 25], [], [3], [3]⟩] mixed (by kernel_rfl) <| SFd lwalk_way_2 fl135_2 rfl <| SLd ty88 3 rfl <| SFd lwalk_way_2 fl135_2 rfl <| SLd ty88 3 rfl <| Sc (lo [17] [] rfl fun S hs hr => op_len' rfl rfl sl88 (vh hs 17 rfl rfl)) rfl <| SFd lwalk_way_2 fl135_2 rfl <| SLd ty88 3 rfl <| Sc (lo [20] [] rfl fun S hs hr => op_len' rfl rfl sl88 (vh hs 20 rfl rfl)) rfl <| Sc (lo [15, 18, 21] [] rfl fun S hs hr => op_slice_full' hs7 rfl rfl sl88 (vh hs 15 rfl rfl) (vh hs 18 rfl rfl) (vh hs 21 rfl rfl)) rfl <| SMd rfl <| Sc (lo [22, 23] [] rfl fun S hs hr => op_appendP hl8 rfl rfl el88 (vh hs 22 rfl rfl) (vh hs 23 rfl rfl)) rfl <| SLd ty101 7 rfl <| SFd lwalk_way_2 fl135_2 rfl <| SSt ty88 3 rfl <| SFd lwalk_way_1 fl135_1 rfl <| SSt ty101 3 rfl <| SR <| Ld ty135 3 rfl <| Sto ty135 5 rfl <| Nl <| AW.ret ?_
  obtain rfl := si h
  exact ret1 Tryz.results205 rfl (out_cell rfl (i := 5) rfl ty135)
def F_walk_way_follow_j4 (l3 : (List Inst)) (at2 : Int) (b9 : walk_way) : Option (walk_way × Int × Bool) :=
  (F_inst_Of l3 1).bind fun x10 => (bif ((x10.2 && (decide (x10.1.Table > at2))) && (decide (x10.1.Table < 4))) then some (b9, x10.1.Table, true) else (F_aset_List b9.set).bind fun x12 => (F_walk_way_act b9 x12).bind fun x13 => some (x13, 0, false))
def F_walk_way_follow_j3 (l3 : (List Inst)) (at2 : Int) (b8 : walk_way) : Option (walk_way × Int × Bool) :=
  (F_inst_Of l3 2).bind fun x14 => (bif x14.2 then (F_rewrite_Set b8.got 1 x14.1.Value x14.1.Mask).bind fun x16 => F_walk_way_follow_j4 l3 at2 { b8 with got := x16 } else F_walk_way_follow_j4 l3 at2 b8)
def F_walk_way_follow_j2 (l3 : (List Inst)) (at2 : Int) (b7 : walk_way) : Option (walk_way × Int × Bool) :=
  (F_inst_Of l3 3).bind fun x17 => (bif x17.2 then (F_aset_Write b7.set x17.1.Acts).bind fun x19 => F_walk_way_follow_j3 l3 at2 { b7 with set := x19 } else F_walk_way_follow_j3 l3 at2 b7)
def F_walk_way_follow_j1 (l3 : (List Inst)) (at2 : Int) (b6 : walk_way) : Option (walk_way × Int × Bool) :=
  (F_inst_Of l3 5).bind fun x20 => (bif x20.2 then F_walk_way_follow_j2 l3 at2 { b6 with set := [] } else F_walk_way_follow_j2 l3 at2 b6)
def F_walk_way_follow (w1 : walk_way) (at2 : Int) (l3 : (List Inst)) : Option (walk_way × Int × Bool) :=
  (F_inst_Of l3 4).bind fun x22 => (bif x22.2 then (F_walk_way_act w1 x22.1.Acts).bind fun x24 => F_walk_way_follow_j1 l3 at2 x24 else F_walk_way_follow_j1 l3 at2 w1)
theorem c_walk_way_follow (w1 : walk_way) (at2 : Int) (l3 : (List Inst)) (r : (walk_way × Int × Bool)) (h : F_walk_way_follow w1 at2 l3 = some r) : PCon Tryz.prog 137 [rd kwalk_way w1, rd (kint .i64) at2, rd (ksl kInst) l3] (tup3 (rd kwalk_way r.1) (rd (kint .i64) r.2.1) (rd kbool r.2.2)) := by
  refine PCon.of (Con.intro0 Tryz.func137 rfl Tryz.ntmps137 rfl fun w H => ?_)
  unfold F_walk_way_follow at h
  refine SR <| Ct rfl (op_box 4 rfl rfl (vt rfl)) ?_
  rintro _ ⟨g4, rfl⟩
  refine Ct rfl (op_alloc 7 rfl rfl zr135) ?_
  rintro _ ⟨g5, rfl⟩
  refine Ak rfl <| Ab rfl <| Nl ?_
  refine AW.join (d := []) (ν := walk_way) (fun n => F_walk_way_follow_j1 l3 at2 n = some r) (fun n => [(1, rd (kint .i64) at2), (2, rd (ksl kInst) l3), (3, ptrL g4 (Lens.id kwalk_way)), (6, ptrL g5 (Lens.id kwalk_way))]) (fun n => [(4, Blk g4 135 kwalk_way n), (7, Blk g5 135 kwalk_way zwalk_way)]) ?hx1 ?hy1
  case hy1 =>
    intro b6 h
    unfold F_walk_way_follow_j1 at h
    change AW _ _ _ ⟨slots [(1, rd (kint .i64) at2), (2, rd (ksl kInst) l3), (3, ptrL g4 (Lens.id kwalk_way)), (6, ptrL g5 (Lens.id kwalk_way))], ress [(4, Blk g4 135 kwalk_way b6), (7, Blk g5 135 kwalk_way zwalk_way)], _⟩
    refine AW.join (d := []) (ν := walk_way) (fun n => F_walk_way_follow_j2 l3 at2 n = some r) (fun n => [(1, rd (kint .i64) at2), (2, rd (ksl kInst) l3), (3, ptrL g4 (Lens.id kwalk_way)), (6, ptrL g5 (Lens.id kwalk_way))]) (fun n => [(4, Blk g4 135 kwalk_way n), (7, Blk g5 135 kwalk_way zwalk_way)]) ?hx2 ?hy2
    case hy2 =>
      intro b7 h
      unfold F_walk_way_follow_j2 at h
      change AW _ _ _ ⟨slots [(1, rd (kint .i64) at2), (2, rd (ksl kInst) l3), (3, ptrL g4 (Lens.id kwalk_way)), (6, ptrL g5 (Lens.id kwalk_way))], ress [(4, Blk g4 135 kwalk_way b7), (7, Blk g5 135 kwalk_way zwalk_way)], _⟩
      refine AW.join (d := []) (ν := walk_way) (fun n => F_walk_way_follow_j3 l3 at2 n = some r) (fun n => [(1, rd (kint .i64) at2), (2, rd (ksl kInst) l3), (3, ptrL g4 (Lens.id kwalk_way)), (6, ptrL g5 (Lens.id kwalk_way))]) (fun n => [(4, Blk g4 135 kwalk_way n), (7, Blk g5 135 kwalk_way zwalk_way)]) ?hx3 ?hy3
      case hy3 =>
        intro b8 h
        unfold F_walk_way_follow_j3 at h
        change AW _ _ _ ⟨slots [(1, rd (kint .i64) at2), (2, rd (ksl kInst) l3), (3, ptrL g4 (Lens.id kwalk_way)), (6, ptrL g5 (Lens.id kwalk_way))], ress [(4, Blk g4 135 kwalk_way b8), (7, Blk g5 135 kwalk_way zwalk_way)], _⟩
        refine AW.join (d := []) (ν := walk_way) (fun n => F_walk_way_follow_j4 l3 at2 n = some r) (fun n => [(1, rd (kint .i64) at2), (2, rd (ksl kInst) l3), (3, ptrL g4 (Lens.id kwalk_way)), (6, ptrL g5 (Lens.id kwalk_way))]) (fun n => [(4, Blk g4 135 kwalk_way n), (7, Blk g5 135 kwalk_way zwalk_way)]) ?hx4 ?hy4
        case hy4 =>
          intro b9 h
          unfold F_walk_way_follow_j4 at h
          change AW _ _ _ ⟨slots [(1, rd (kint .i64) at2), (2, rd (ksl kInst) l3), (3, ptrL g4 (Lens.id kwalk_way)), (6, ptrL g5 (Lens.id kwalk_way))], ress [(4, Blk g4 135 kwalk_way b9), (7, Blk g5 135 kwalk_way zwalk_way)], _⟩
          refine AW.seq ?_
          obtain ⟨x10, hx10, h⟩ := bsome h
          refine Rg <| Md rfl <| Ac (op_call (xs := [.tmp 63, .const (Value.int IntKind.i64 1)]) (c_inst_Of _ _ _ hx10) e204 rfl rfl ⟨vt rfl, vk rfl, trivial⟩) rfl <| Mt2 rfl <| Ac (op_fst rfl rfl (vt rfl)) rfl <| Ac (op_snd rfl rfl (vt rfl)) rfl <| Ct rfl (op_alloc 18 rfl rfl zr124) ?_
          rintro _ ⟨g11, rfl⟩
          refine Sto ty124 18 rfl <| As rfl <| Nl <| AW.seq <| SR <| Md rfl <| Md rfl <| Gd rfl (fun hq => op_field lInst_1 rfl rfl fl124_1 (vt rfl)) <| Gd rfl (fun hq => op_load rfl rfl ty3 (vgt rfl hq) (i := 18) rfl) <| Gd rfl (fun hq => op_move (A := rd (kint .i64) at2) rfl rfl (vt rfl)) <| Gd rfl (fun hq => op_gtr rfl rfl (vgt rfl hq) (vgt rfl hq)) <| Ac (op_all rfl rfl (vt rfl) (vt rfl)) rfl <| Md rfl <| Gd rfl (fun hq => op_field lInst_1 rfl rfl fl124_1 (vt rfl)) <| Gd rfl (fun hq => op_load rfl rfl ty3 (vgt rfl hq) (i := 18) rfl) <| Gd rfl (fun hq => op_lss rfl rfl (vgt rfl hq) (vk rfl)) <| Ac (op_all rfl rfl (vt rfl) (vt rfl)) rfl <| Nl <| Cn rfl (fun hc => ?_) (fun hc => ?_)
          · have h := cond_t hc h
            refine AW.seq <| AW.regionAny [⟨[3], [79], [4], []⟩, ⟨[17], [80], [], []⟩, ⟨[80], [81], [18], []⟩, ⟨[6, 79], [], [7], [7]⟩, ⟨[81], [7], [], []⟩, ⟨[], [8], [], []⟩] mixed (by kernel_rfl) <| SLd ty135 4 rfl <| SFd lInst_1 fl124_1 rfl <| SLd ty3 18 rfl <| SSt ty135 7 rfl <| SAs rfl <| Sc (lo [] [] rfl fun S hs hr => op_assign (A := rd kbool true) rfl rfl vb) rfl <| AW.ret ?_
            obtain rfl := si h
            exact ret3 Tryz.results137 rfl (out_cell rfl (i := 7) rfl ty135) (out_tmp rfl) (out_tmp rfl)
          · have h := cond_f hc h
            refine AW.skip <| AW.seq ?_
            obtain ⟨x12, hx12, h⟩ := bsome h
            obtain ⟨x13, hx13, h⟩ := bsome h
            refine AW.regionAny [⟨[3], [82], [4], []⟩, ⟨[3], [83], [], []⟩, ⟨[83], [84], [4], []⟩, ⟨[84], [85], [], []⟩, ⟨[82, 85], [86], [], []⟩, ⟨[6, 86], [], [7], [7]⟩, ⟨[], [7], [], []⟩, ⟨[], [8], [], []⟩] mixed (by kernel_rfl) <| SLd ty135 4 rfl <| SFd lwalk_way_3 fl135_3 rfl <| SLd ty122 4 rfl <| SCl [84] (c_aset_List _ _ hx12) e149 rfl <| SCl [82, 85] (c_walk_way_act _ _ _ hx13) e205 rfl <| SSt ty135 7 rfl <| Sc (lo [] [] rfl fun S hs hr => op_assign (A := rd (kint .i64) 0) rfl rfl (vk rfl)) rfl <| Sc (lo [] [] rfl fun S hs hr => op_assign (A := rd kbool false) rfl rfl vb) rfl <| AW.ret ?_
            obtain rfl := si h
            exact ret3 Tryz.results137 rfl (out_cell rfl (i := 7) rfl ty135) (out_tmp rfl) (out_tmp rfl)
        case hx4 =>
          refine AW.seq ?_
          obtain ⟨x14, hx14, h⟩ := bsome h
          refine Rg <| Md rfl <| Ac (op_call (xs := [.tmp 49, .const (Value.int IntKind.i64 2)]) (c_inst_Of _ _ _ hx14) e204 rfl rfl ⟨vt rfl, vk rfl, trivial⟩) rfl <| Mt2 rfl <| Ac (op_fst rfl rfl (vt rfl)) rfl <| Ac (op_snd rfl rfl (vt rfl)) rfl <| Ct rfl (op_alloc 16 rfl rfl zr124) ?_
          rintro _ ⟨g15, rfl⟩
          refine Sto ty124 16 rfl <| As rfl <| Nl <| SR <| Md rfl <| Nl <| Cn rfl (fun hc => ?_) (fun hc => ?_)
          · have h := cond_t hc h
            obtain ⟨x16, hx16, h⟩ := bsome h
            refine Rg <| FdA lwalk_way_1 fl135_1 rfl <| Ld ty101 4 rfl <| FdA lInst_2 fl124_2 rfl <| Ld ty42 16 rfl <| FdA lInst_3 fl124_3 rfl <| Ld ty42 16 rfl <| Ac (op_call (xs := [.tmp 55, .const (Value.int IntKind.i64 1), .tmp 57, .tmp 59]) (c_rewrite_Set _ _ _ _ _ hx16) e207 rfl rfl ⟨vt rfl, vk rfl, vt rfl, vt rfl, trivial⟩) rfl <| FdA lwalk_way_1 fl135_1 rfl <| Sto ty101 4 rfl <| Nl ?_
            exact ⟨{ b8 with got := x16 }, h, ⟨rfl, ⟨rfl, rfl, rfl, rfl, trivial⟩, ⟨rfl, rfl, trivial⟩⟩⟩
          · have h := cond_f hc h
            refine AW.skip ?_
            exact ⟨b8, h, ⟨rfl, ⟨rfl, rfl, rfl, rfl, trivial⟩, ⟨rfl, rfl, trivial⟩⟩⟩
      case hx3 =>
        refine AW.seq ?_
        obtain ⟨x17, hx17, h⟩ := bsome h
        refine Rg <| Md rfl <| Ac (op_call (xs := [.tmp 37, .const (Value.int IntKind.i64 3)]) (c_inst_Of _ _ _ hx17) e204 rfl rfl ⟨vt rfl, vk rfl, trivial⟩) rfl <| Mt2 rfl <| Ac (op_fst rfl rfl (vt rfl)) rfl <| Ac (op_snd rfl rfl (vt rfl)) rfl <| Ct rfl (op_alloc 14 rfl rfl zr124) ?_
        rintro _ ⟨g18, rfl⟩
        refine Sto ty124 14 rfl <| As rfl <| Nl <| SR <| Md rfl <| Nl <| Cn rfl (fun hc => ?_) (fun hc => ?_)
        · have h := cond_t hc h
          obtain ⟨x19, hx19, h⟩ := bsome h
          refine Rg <| FdA lwalk_way_3 fl135_3 rfl <| Ld ty122 4 rfl <| FdA lInst_4 fl124_4 rfl <| Ld ty122 14 rfl <| Cl [43, 45] (c_aset_Write _ _ _ hx19) e206 rfl <| FdA lwalk_way_3 fl135_3 rfl <| Sto ty122 4 rfl <| Nl ?_
          exact ⟨{ b7 with set := x19 }, h, ⟨rfl, ⟨rfl, rfl, rfl, rfl, trivial⟩, ⟨rfl, rfl, trivial⟩⟩⟩
        · have h := cond_f hc h
          refine AW.skip ?_
          exact ⟨b7, h, ⟨rfl, ⟨rfl, rfl, rfl, rfl, trivial⟩, ⟨rfl, rfl, trivial⟩⟩⟩
    case hx2 =>
      refine AW.seq ?_
      obtain ⟨x20, hx20, h⟩ := bsome h
      refine Rg <| Md rfl <| Ac (op_call (xs := [.tmp 30, .const (Value.int IntKind.i64 5)]) (c_inst_Of _ _ _ hx20) e204 rfl rfl ⟨vt rfl, vk rfl, trivial⟩) rfl <| Mt2 rfl <| Ac (op_fst rfl rfl (vt rfl)) rfl <| Ac (op_snd rfl rfl (vt rfl)) rfl <| Ct rfl (op_alloc 12 rfl rfl zr124) ?_
      rintro _ ⟨g21, rfl⟩
      refine Sto ty124 12 rfl <| As rfl <| Nl <| SR <| Md rfl <| Nl <| Cn rfl (fun hc => ?_) (fun hc => ?_)
      · have h := cond_t hc h
        refine Rg <| FdA lwalk_way_3 fl135_3 rfl <| Ac (op_store rfl rfl ty122 (vt rfl) (i := 4) rfl vnil) rfl <| Nl ?_
        exact ⟨{ b6 with set := [] }, h, ⟨rfl, ⟨rfl, rfl, rfl, rfl, trivial⟩, ⟨rfl, rfl, trivial⟩⟩⟩
      · have h := cond_f hc h
        refine AW.skip ?_
        exact ⟨b6, h, ⟨rfl, ⟨rfl, rfl, rfl, rfl, trivial⟩, ⟨rfl, rfl, trivial⟩⟩⟩
  case hx1 =>
    refine AW.seq ?_
    obtain ⟨x22, hx22, h⟩ := bsome h
    refine Rg <| Md rfl <| Ac (op_call (xs := [.tmp 20, .const (Value.int IntKind.i64 4)]) (c_inst_Of _ _ _ hx22) e204 rfl rfl ⟨vt rfl, vk rfl, trivial⟩) rfl <| Mt2 rfl <| Ac (op_fst rfl rfl (vt rfl)) rfl <| Ac (op_snd rfl rfl (vt rfl)) rfl <| Ct rfl (op_alloc 10 rfl rfl zr124) ?_
    rintro _ ⟨g23, rfl⟩
    refine Sto ty124 10 rfl <| As rfl <| Nl <| SR <| Md rfl <| Nl <| Cn rfl (fun hc => ?_) (fun hc => ?_)
    · have h := cond_t hc h
      obtain ⟨x24, hx24, h⟩ := bsome h
      refine Rg <| Ld ty135 4 rfl <| FdA lInst_4 fl124_4 rfl <| Ld ty122 10 rfl <| Cl [25, 27] (c_walk_way_act _ _ _ hx24) e205 rfl <| Sto ty135 4 rfl <| Nl ?_
      exact ⟨x24, h, ⟨rfl, ⟨rfl, rfl, rfl, rfl, trivial⟩, ⟨rfl, rfl, trivial⟩⟩⟩
    · have h := cond_f hc h
      refine AW.skip ?_
      exact ⟨w1, h, ⟨rfl, ⟨rfl, rfl, rfl, rfl, trivial⟩, ⟨rfl, rfl, trivial⟩⟩⟩
def F_slices_Clone_Atom (s : List Atom) : Option (List Atom) := appd [] s
theorem c_slices_Clone_Atom_o (s : List Atom) (r : List Atom) (h : F_slices_Clone_Atom s = some r) : Con Tryz.prog 208 [rd (ksl kAtom) s] emp (fun v => raw v) (fun v => Row v 126 kAtom r) := by
  refine Con.intro0 Tryz.func208 rfl Tryz.ntmps208 rfl fun w H => ?_
  unfold F_slices_Clone_Atom at h
  refine AW.newnil 1001 126 kAtom <| SR <| Ac (op_assign (A := raw (.slice none 0 0)) rfl rfl vc) rfl <| Nl <| AW.seq <| SR <| Md rfl <| Ct rfl (op_eqnil rfl rfl sl88 (vt rfl)) ?_
  rintro _ ⟨b, hb, rfl⟩
  refine Nl <| Cn rfl (fun hc => ?_) (fun hc => ?_)
  · obtain rfl := hb hc
    refine SR <| Ac (op_assign (A := raw (.slice none 0 0)) rfl rfl vc) rfl <| Nl <| AW.ret ?_
    obtain rfl := (appd_of h).2
    exact ret1R (i := 1001) Tryz.results208 rfl rfl rfl
  · refine AW.skip <| SR <| Ct rfl (op_buildSlice 1002 (ps := []) (l := []) rfl rfl sl88 zr126 rfl rfl rfl rfl) ?_
    rintro _ ⟨v1, rfl⟩
    refine Md rfl <| Ct rfl (op_append' 1002 h rfl rfl el88 (vt rfl) rfl (vt rfl)) ?_
    rintro _ ⟨v2, rfl⟩
    refine Aw rfl <| Nl <| AW.ret ?_
    exact ret1R (i := 1002) Tryz.results208 rfl rfl rfl
theorem c_slices_Clone_Atom (s : List Atom) (r : List Atom) (h : F_slices_Clone_Atom s = some r) : PCon Tryz.prog 208 [rd (ksl kAtom) s] (rd (ksl kAtom) r) := PCon.of_row (c_slices_Clone_Atom_o s r h)
def F_walk_way_rule (w1 : walk_way) : Option Rule :=
  (F_slices_Clone_Atom w1.atoms).bind fun x4 => some (⟨w1.cube, x4⟩ : Rule)
theorem c_walk_way_rule (w1 : walk_way) (r : Rule) (h : F_walk_way_rule w1 = some r) : PCon Tryz.prog 138 [rd kwalk_way w1] (rd kRule r) := by
  refine PCon.of (Con.intro0 Tryz.func138 rfl Tryz.ntmps138 rfl fun w H => ?_)
  unfold F_walk_way_rule at h
  refine SR <| Ct rfl (op_box 2 rfl rfl (vt rfl)) ?_
  rintro _ ⟨g2, rfl⟩
  refine Ct rfl (op_alloc 3 rfl rfl zr90) ?_
  rintro _ ⟨g3, rfl⟩
  refine Nl <| AW.seq ?_
  obtain ⟨x4, hx4, h⟩ := bsome h
  refine AW.regionAny [⟨[1], [3], [], []⟩, ⟨[3], [4], [2], []⟩, ⟨[1], [5], [], []⟩, ⟨[5], [6], [2], []⟩, ⟨[6], [7], [], []⟩, ⟨[4, 7], [8], [], []⟩, ⟨[2, 8], [], [3], [3]⟩] mixed (by kernel_rfl) <| SFd lwalk_way_0 fl135_0 rfl <| SLd ty87 2 rfl <| SFd lwalk_way_2 fl135_2 rfl <| SLd ty88 2 rfl <| SCl [6] (c_slices_Clone_Atom _ _ hx4) e208 rfl <| Sc (lo [4, 7] [] rfl fun S hs hr => op_build (ps := [(0, .tmp 4), (1, .tmp 7)]) (x := (⟨w1.cube, x4⟩ : Rule)) rfl rfl rfl (by kernel_rfl) zr90 ⟨_, _, lRule_0, _, by kernel_rfl, (vh hs 4 rfl rfl), _, _, lRule_1, _, by kernel_rfl, (vh hs 7 rfl rfl), rfl⟩) rfl <| SSt ty90 3 rfl <| AW.ret ?_
  obtain rfl := si h
  exact ret1 Tryz.results138 rfl (out_cell rfl (i := 3) rfl ty90)
def F_walk_search_table_s_j2 (sg : Type) (go1 : Nat → (Lp sg) → Option (Bool × Lp sg)) (i11 : Nat) (s22 : (Lp sg)) (ok23 : Bool) : Option (Bool × Lp sg) :=
  (bif (!ok23) then some (false, s22) else go1 (i11 + 1) s22)
def F_walk_search_table_s_l1 (sg : Type) (w5 : walk_way) (y1 : (sg → Rule → Option (Lp sg))) (at4 : Int) (s3 : Switch) (R_walk_search_table : ((Lp sg) → Switch → Int → walk_way → Option (Bool × Lp sg))) : (List Int) → Nat → (Lp sg) → Option (Bool × Lp sg)
  | [], i11, s10 => (F_walk_way_rule w5).bind fun x13 => (yc y1 s10 x13).bind fun s14 => some ((Lp.isGo s14), s14)
  | x15 :: l12, i11, s10 => (chk 4 at4).bind fun j16 => (lget (Vector.get s3.Tables j16) x15).bind fun e17 => (F_walk_way_meet w5 e17).bind fun x19 => (bif (!x19.2) then (F_walk_search_table_s_l1 sg w5 y1 at4 s3 R_walk_search_table l12) (i11 + 1) s10 else (F_walk_way_follow x19.1 at4 e17.Insts).bind fun x21 => (bif x21.2.2 then (R_walk_search_table s10 s3 x21.2.1 x21.1).bind fun b24 => F_walk_search_table_s_j2 sg (F_walk_search_table_s_l1 sg w5 y1 at4 s3 R_walk_search_table l12) i11 b24.2 b24.1 else (F_walk_way_rule x21.1).bind fun x25 => (yc y1 s10 x25).bind fun s26 => F_walk_search_table_s_j2 sg (F_walk_search_table_s_l1 sg w5 y1 at4 s3 R_walk_search_table l12) i11 s26 (Lp.isGo s26)))
def F_walk_search_table_s (sg : Type) (y1 : (sg → Rule → Option (Lp sg))) (R_walk_search_table : ((Lp sg) → Switch → Int → walk_way → Option (Bool × Lp sg))) (s2 : (Lp sg)) (s3 : Switch) (at4 : Int) (w5 : walk_way) : Option (Bool × Lp sg) :=
  (chk 4 at4).bind fun j7 => (F_first_Order (Vector.get s3.Tables j7)).bind fun x8 => F_walk_search_table_s_l1 sg w5 y1 at4 s3 R_walk_search_table x8 0 s2
theorem c_walk_search_table_s (sg : Type) (y1 : (sg → Rule → Option (Lp sg))) (L : Lp sg → Res) (R_walk_search_table : ((Lp sg) → Switch → Int → walk_way → Option (Bool × Lp sg))) (hR_walk_search_table : ∀ (s2 : (Lp sg)) (s3 : Switch) (at4 : Int) (w5 : walk_way) (r : (Bool × Lp sg)), R_walk_search_table s2 s3 at4 w5 = some r → Con Tryz.prog 76 [rp (ksp kSwitch (ydA Tryz.prog kRule y1 L)) s3, rd (kint .i64) at4, rd kwalk_way w5] (L s2) (fun _ : Unit => rd kbool r.1) (fun _ => L r.2)) (s2 : (Lp sg)) (s3 : Switch) (at4 : Int) (w5 : walk_way) (r : (Bool × Lp sg)) (h : F_walk_search_table_s sg y1 R_walk_search_table s2 s3 at4 w5 = some r) : Con Tryz.prog 76 [rp (ksp kSwitch (ydA Tryz.prog kRule y1 L)) s3, rd (kint .i64) at4, rd kwalk_way w5] (L s2) (fun _ : Unit => rd kbool r.1) (fun _ => L r.2) := by
  refine Con.intro Tryz.func76 rfl Tryz.ntmps76 rfl fun w H X => ?_
  unfold F_walk_search_table_s at h
  refine SR <| Ct rfl (op_box 6 rfl rfl (vt rfl)) ?_
  rintro _ ⟨g6, rfl⟩
  refine Ab rfl <| Nl <| AW.scope <| AW.seq <| AW.label <| AW.seq <| AW.seq ?_
  obtain ⟨j7, hj7, h⟩ := bsome h
  obtain ⟨x8, hx8, h⟩ := bsome h
  refine Rg <| Mr rfl <| Md rfl <| Ac (op_nilCheckp rfl rfl (vt rfl)) rfl <| Ac (op_fieldp (lsp0 kSwitch (ydA Tryz.prog kRule y1 L)) rfl rfl (flsp131_0 _) (vt rfl)) rfl <| Fp lSwitch_0 fl26_0 rfl <| Ac (op_indexp' rfl rfl ar23 (vt rfl) (vt rfl) hj7) rfl <| Lp1 ty22 rfl <| Cl [20] (c_first_Order _ _ hx8) e135 rfl <| Ac (op_len' rfl rfl sl37 (vt rfl)) rfl <| Mk rfl <| Nl <| AW.block <| AW.loopG (d := []) (ν := (List Int) × Nat × (Lp sg)) (fun n => Sfx x8 n.2.1 n.1 ∧ F_walk_search_table_s_l1 sg w5 y1 at4 s3 R_walk_search_table n.1 n.2.1 n.2.2 = some r) (fun n => n.1.length) (fun n => [(0, rp (ksp kSwitch (ydA Tryz.prog kRule y1 L)) s3), (1, rd (kint .i64) at4), (5, ptrL g6 (Lens.id kwalk_way)), (21, rd (ksl (kint .i64)) x8), (22, rd (kint .i64) (x8.length : Int)), (23, rd (kint .i64) (n.2.1 : Int))]) (fun n => [(0, L n.2.2), (6, Blk g6 135 kwalk_way w5)]) (x8, 0, s2) ⟨Sfx.start _, h⟩ ⟨rfl, ⟨rfl, rfl, rfl, rfl, rfl, rfl, trivial⟩, ⟨rfl, rfl, trivial⟩⟩ ?_
  rintro ⟨l12, i11, s10⟩ ⟨hsf1, h⟩
  change Sfx x8 i11 l12 at hsf1
  change F_walk_search_table_s_l1 sg w5 y1 at4 s3 R_walk_search_table l12 i11 s10 = some r at h
  change AW _ _ _ ⟨slots [(0, rp (ksp kSwitch (ydA Tryz.prog kRule y1 L)) s3), (1, rd (kint .i64) at4), (5, ptrL g6 (Lens.id kwalk_way)), (21, rd (ksl (kint .i64)) x8), (22, rd (kint .i64) (x8.length : Int)), (23, rd (kint .i64) (i11 : Int))], ress [(0, L s10), (6, Blk g6 135 kwalk_way w5)], _⟩
  cases l12 with
  | nil =>
    unfold F_walk_search_table_s_l1 at h
    refine SR <| Ac (op_lss rfl rfl (vt rfl) (vt rfl)) rfl <| Nl <| AW.seq <| Cn rfl (fun hc => absurd (of_decide_eq_true hc) hsf1.nil) (fun hc => ?_)
    refine AW.exit <| AW.seq ?_
    obtain ⟨x13, hx13, h⟩ := bsome h
    obtain ⟨s14, hs14, h⟩ := bsome h
    refine AW.regionAny [⟨[0], [69], [], []⟩, ⟨[69], [70], [], []⟩, ⟨[70], [71], [], []⟩, ⟨[71], [72], [], []⟩, ⟨[5], [73], [6], []⟩, ⟨[73], [74], [], []⟩, ⟨[72, 74], [75], [0], [0]⟩, ⟨[75], [6], [], []⟩] mixed (by kernel_rfl) <| Sc (lo [0] [] rfl fun S hs hr => op_move (A := rp (ksp kSwitch (ydA Tryz.prog kRule y1 L)) s3) rfl rfl (vh hs 0 rfl rfl)) rfl <| Sc (lo [69] [] rfl fun S hs hr => op_nilCheckp rfl rfl (vh hs 69 rfl rfl)) rfl <| Sc (lo [70] [] rfl fun S hs hr => op_fieldp (lsp1 kSwitch (ydA Tryz.prog kRule y1 L)) rfl rfl (flsp131_1 _) (vh hs 70 rfl rfl)) rfl <| Sc (lo [71] [] rfl fun S hs hr => op_loadpA (A := ydA Tryz.prog kRule y1 L) rfl rfl rfl (tyk92 _) (vh hs 71 rfl rfl)) rfl <| SLd ty135 6 rfl <| SCl [73] (c_walk_way_rule _ _ hx13) e138 rfl <| Sc (locs (us := [(75, rd kbool (Lp.isGo s14))]) (ur := [(0, L s14)]) [72, 74] [0] rfl fun S hs hr => op_yield 0 hs14 rfl rfl (vh hs 72 rfl rfl) (vh hs 74 rfl rfl) ((hr 0 rfl).trans rfl)) rfl <| SAs rfl <| AW.ret ?_
    obtain rfl := si h
    exact ret1Y (i := 0) Tryz.results76 rfl (out_tmp rfl) rfl
  | cons x15 l12 =>
    unfold F_walk_search_table_s_l1 at h
    generalize hgo1 : F_walk_search_table_s_l1 sg w5 y1 at4 s3 R_walk_search_table l12 = go1 at h
    refine SR <| Ac (op_lss rfl rfl (vt rfl) (vt rfl)) rfl <| Nl <| AW.seq <| Cn rfl (fun hc => ?_) (fun hc => absurd hsf1.cons (of_decide_eq_false hc))
    have hlti11 := of_decide_eq_true hc
    refine AW.skip <| AW.seq <| AW.block <| SR <| Ac (op_indexs' rfl rfl sl37 (vt rfl) (vt rfl) hsf1.lget) rfl <| Lp1 ty3 rfl <| As rfl <| Nl <| AW.seq ?_
    obtain ⟨j16, hj16, h⟩ := bsome h
    obtain ⟨e17, he17, h⟩ := bsome h
    refine Rg <| Mr rfl <| Md rfl <| Ac (op_nilCheckp rfl rfl (vt rfl)) rfl <| Ac (op_fieldp (lsp0 kSwitch (ydA Tryz.prog kRule y1 L)) rfl rfl (flsp131_0 _) (vt rfl)) rfl <| Fp lSwitch_0 fl26_0 rfl <| Ac (op_indexp' rfl rfl ar23 (vt rfl) (vt rfl) hj16) rfl <| Lp1 ty22 rfl <| Md rfl <| Ac (op_indexs' rfl rfl sl22 (vt rfl) (vt rfl) he17) rfl <| Lp1 ty61 rfl <| Ct rfl (op_alloc 10 rfl rfl zr61) ?_
    rintro _ ⟨g18, rfl⟩
    refine Sto ty61 10 rfl <| Nl <| AW.seq ?_
    obtain ⟨x19, hx19, h⟩ := bsome h
    refine Rg <| Ld ty135 6 rfl <| Ld ty61 10 rfl <| Cl [38, 39] (c_walk_way_meet _ _ _ hx19) e136 rfl <| Mt2 rfl <| Ac (op_fst rfl rfl (vt rfl)) rfl <| Ac (op_snd rfl rfl (vt rfl)) rfl <| Ct rfl (op_alloc 11 rfl rfl zr135) ?_
    rintro _ ⟨g20, rfl⟩
    refine Sto ty135 11 rfl <| As rfl <| Nl <| AW.seq <| SR <| Md rfl <| Ac (op_not rfl rfl (vt rfl)) rfl <| Nl <| Cn rfl (fun hc => ?_) (fun hc => ?_)
    · have h := cond_t hc h
      refine AW.exit <| Rg <| Ac (op_incr (t := 22) rfl rfl (vt rfl) (vk rfl) (vt rfl) hlti11) rfl <| Md rfl <| Nl ?_
      subst hgo1
      exact ⟨(l12, i11 + 1, s10), Nat.lt_succ_self _, ⟨hsf1.next, h⟩, ⟨rfl, ⟨rfl, rfl, rfl, rfl, rfl, rfl, trivial⟩, ⟨rfl, rfl, trivial⟩⟩⟩
    · have h := cond_f hc h
      refine AW.skip <| AW.seq ?_
      obtain ⟨x21, hx21, h⟩ := bsome h
      refine Rg <| Ld ty135 11 rfl <| Md rfl <| FdA lFlow_6 fl61_6 rfl <| Ld ty59 10 rfl <| Cl [46, 47, 49] (c_walk_way_follow _ _ _ _ hx21) e137 rfl <| Ac (op_move (A := tup3 (rd kwalk_way x21.1) (rd (kint .i64) x21.2.1) (rd kbool x21.2.2)) rfl rfl (vt rfl)) rfl <| Ac (op_ext3_0 rfl rfl (vt rfl)) rfl <| Ac (op_ext3_1 rfl rfl (vt rfl)) rfl <| Ac (op_ext3_2 rfl rfl (vt rfl)) rfl <| Sto ty135 11 rfl <| As rfl <| As rfl <| Nl ?_
      refine AW.join (d := []) (ν := (Lp sg) × Bool) (fun n => F_walk_search_table_s_j2 sg go1 i11 n.1 n.2 = some r) (fun n => [(0, rp (ksp kSwitch (ydA Tryz.prog kRule y1 L)) s3), (1, rd (kint .i64) at4), (5, ptrL g6 (Lens.id kwalk_way)), (11, rd kbool n.2), (21, rd (ksl (kint .i64)) x8), (22, rd (kint .i64) (x8.length : Int)), (23, rd (kint .i64) (i11 : Int))]) (fun n => [(0, L n.1), (6, Blk g6 135 kwalk_way w5)]) ?hx2 ?hy2
      case hy2 =>
        rintro ⟨s22, ok23⟩ h
        unfold F_walk_search_table_s_j2 at h
        change AW _ _ _ ⟨slots [(0, rp (ksp kSwitch (ydA Tryz.prog kRule y1 L)) s3), (1, rd (kint .i64) at4), (5, ptrL g6 (Lens.id kwalk_way)), (11, rd kbool ok23), (21, rd (ksl (kint .i64)) x8), (22, rd (kint .i64) (x8.length : Int)), (23, rd (kint .i64) (i11 : Int))], ress [(0, L s22), (6, Blk g6 135 kwalk_way w5)], _⟩
        refine SR <| Md rfl <| Ac (op_not rfl rfl (vt rfl)) rfl <| Nl <| Cn rfl (fun hc => ?_) (fun hc => ?_)
        · have h := cond_t hc h
          refine SR <| Ab rfl <| Nl <| AW.ret ?_
          obtain rfl := si h
          exact ret1Y (i := 0) Tryz.results76 rfl (out_tmp rfl) rfl
        · have h := cond_f hc h
          refine AW.skip <| Rg <| Ac (op_incr (t := 22) rfl rfl (vt rfl) (vk rfl) (vt rfl) hlti11) rfl <| Md rfl <| Nl ?_
          subst hgo1
          exact ⟨(l12, i11 + 1, s22), Nat.lt_succ_self _, ⟨hsf1.next, h⟩, ⟨rfl, ⟨rfl, rfl, rfl, rfl, rfl, rfl, trivial⟩, ⟨rfl, rfl, trivial⟩⟩⟩
      case hx2 =>
        refine SR <| Md rfl <| Nl <| Cn rfl (fun hc => ?_) (fun hc => ?_)
        · have h := cond_t hc h
          obtain ⟨b24, hb24, h⟩ := bsome h
          refine Rg <| Mr rfl <| Md rfl <| Ld ty135 11 rfl <| Ct rfl (op_callR 0 (xs := [.tmp 55, .tmp 56, .tmp 57]) (hR_walk_search_table _ _ _ _ _ hb24) e76 rfl rfl ⟨vt rfl, vt rfl, vt rfl, trivial⟩ rfl) ?_
          rintro _ ⟨_u, rfl⟩
          refine As rfl <| Nl ?_
          exact ⟨(b24.2, b24.1), h, ⟨rfl, ⟨rfl, rfl, rfl, rfl, rfl, rfl, rfl, trivial⟩, ⟨rfl, rfl, trivial⟩⟩⟩
        · have h := cond_f hc h
          obtain ⟨x25, hx25, h⟩ := bsome h
          obtain ⟨s26, hs26, h⟩ := bsome h
          refine AW.regionAny [⟨[0], [59], [], []⟩, ⟨[59], [60], [], []⟩, ⟨[60], [61], [], []⟩, ⟨[61], [62], [], []⟩, ⟨[10], [63], [11], []⟩, ⟨[63], [64], [], []⟩, ⟨[62, 64], [65], [0], [0]⟩, ⟨[65], [11], [], []⟩] mixed (by kernel_rfl) <| Sc (lo [0] [] rfl fun S hs hr => op_move (A := rp (ksp kSwitch (ydA Tryz.prog kRule y1 L)) s3) rfl rfl (vh hs 0 rfl rfl)) rfl <| Sc (lo [59] [] rfl fun S hs hr => op_nilCheckp rfl rfl (vh hs 59 rfl rfl)) rfl <| Sc (lo [60] [] rfl fun S hs hr => op_fieldp (lsp1 kSwitch (ydA Tryz.prog kRule y1 L)) rfl rfl (flsp131_1 _) (vh hs 60 rfl rfl)) rfl <| Sc (lo [61] [] rfl fun S hs hr => op_loadpA (A := ydA Tryz.prog kRule y1 L) rfl rfl rfl (tyk92 _) (vh hs 61 rfl rfl)) rfl <| SLd ty135 11 rfl <| SCl [63] (c_walk_way_rule _ _ hx25) e138 rfl <| Sc (locs (us := [(65, rd kbool (Lp.isGo s26))]) (ur := [(0, L s26)]) [62, 64] [0] rfl fun S hs hr => op_yield 0 hs26 rfl rfl (vh hs 62 rfl rfl) (vh hs 64 rfl rfl) ((hr 0 rfl).trans rfl)) rfl <| SAs rfl ?_
          exact ⟨(s26, (Lp.isGo s26)), h, ⟨rfl, ⟨rfl, rfl, rfl, rfl, rfl, rfl, rfl, trivial⟩, ⟨rfl, rfl, trivial⟩⟩⟩
def FR_walk_search_table (sg : Type) (y1 : (sg → Rule → Option (Lp sg))) : Nat → ((Lp sg) → Switch → Int → walk_way → Option (Bool × Lp sg))
  | 0 => (fun _ _ _ _ => none)
  | n + 1 => F_walk_search_table_s sg y1 (FR_walk_search_table sg y1 n)
theorem cR_walk_search_table (sg : Type) (y1 : (sg → Rule → Option (Lp sg))) (L : Lp sg → Res) : ∀ n : Nat, (∀ (s2 : (Lp sg)) (s3 : Switch) (at4 : Int) (w5 : walk_way) (r : (Bool × Lp sg)), (FR_walk_search_table sg y1 n) s2 s3 at4 w5 = some r → Con Tryz.prog 76 [rp (ksp kSwitch (ydA Tryz.prog kRule y1 L)) s3, rd (kint .i64) at4, rd kwalk_way w5] (L s2) (fun _ : Unit => rd kbool r.1) (fun _ => L r.2))
  | 0 => (by intros; rename_i h; cases h)
  | n + 1 => c_walk_search_table_s sg y1 L (FR_walk_search_table sg y1 n) (cR_walk_search_table sg y1 L n)
def F_walk_search_table (sg : Type) (y1 : (sg → Rule → Option (Lp sg))) (s2 : (Lp sg)) (s3 : Switch) (at4 : Int) (w5 : walk_way) : Option (Bool × Lp sg) := FR_walk_search_table sg y1 fuel0 s2 s3 at4 w5
theorem c_walk_search_table (sg : Type) (y1 : (sg → Rule → Option (Lp sg))) (L : Lp sg → Res) : ∀ (s2 : (Lp sg)) (s3 : Switch) (at4 : Int) (w5 : walk_way) (r : (Bool × Lp sg)), (F_walk_search_table sg y1) s2 s3 at4 w5 = some r → Con Tryz.prog 76 [rp (ksp kSwitch (ydA Tryz.prog kRule y1 L)) s3, rd (kint .i64) at4, rd kwalk_way w5] (L s2) (fun _ : Unit => rd kbool r.1) (fun _ => L r.2) := cR_walk_search_table sg y1 L fuel0
end Go.Proofs.YtknpgojdkobgjaaGreat.W
set_option linter.unusedVariables false
set_option maxRecDepth 4000
set_option linter.unusedSimpArgs false
namespace Go.Proofs.YtknpgojdkobgjaaGreat.W
open Go Go.Wb
theorem e75 : Ent Tryz.prog 75 := Ent.mk Tryz.func75 rfl rfl
theorem e146 : Ent Tryz.prog 146 := Ent.mk Tryz.func146 rfl rfl
theorem e22 : Ent Tryz.prog 22 := Ent.mk Tryz.func22 rfl rfl
theorem e85 : Ent Tryz.prog 85 := Ent.mk Tryz.func85 rfl rfl
theorem e25 : Ent Tryz.prog 25 := Ent.mk Tryz.func25 rfl rfl
theorem e60 : Ent Tryz.prog 60 := Ent.mk Tryz.func60 rfl rfl
def F_walk_Rules_1 (sg : Type) (yield1 : (sg → Rule → Option (Lp sg))) (s2 : (Lp sg)) (cp3 : Switch) : Option (Lp sg) :=
  (F_cube_All).bind fun x5 => (F_rewrite_None).bind fun x6 => (F_walk_search_table sg yield1 s2 cp3 0 (⟨x5, x6, [], []⟩ : walk_way)).bind fun b7 => some b7.2
theorem c_walk_Rules_1 (sg : Type) (yield1 : (sg → Rule → Option (Lp sg))) (L : Lp sg → Res) (s2 : (Lp sg)) (cp3 : Switch) (r : (Lp sg)) (h : F_walk_Rules_1 sg yield1 s2 cp3 = some r) : Con Tryz.prog 75 [ydA Tryz.prog kRule yield1 L, rp kSwitch cp3] (L s2) (fun _ : Unit => top) (fun _ => L r) := by
  refine Con.intro Tryz.func75 rfl Tryz.ntmps75 rfl fun w H X => ?_
  unfold F_walk_Rules_1 at h
  refine SR <| Lp1 ty26 rfl <| Ac (op_move (A := ydA Tryz.prog kRule yield1 L) rfl rfl (vt rfl)) rfl <| Ac (op_buildsp (x := cp3) rfl rfl (by kernel_rfl) zrsp131 (by kernel_rfl) (by kernel_rfl) (vt rfl) rfl) rfl <| Ac (op_boxP rfl rfl (vt rfl)) rfl <| Ac (op_assign (A := rp (ksp kSwitch (ydA Tryz.prog kRule yield1 L)) cp3) rfl rfl (vt rfl)) rfl <| Nl ?_
  obtain ⟨x5, hx5, h⟩ := bsome h
  obtain ⟨x6, hx6, h⟩ := bsome h
  obtain ⟨b7, hb7, h⟩ := bsome h
  refine Rg <| Mr rfl <| Cl [] (c_cube_All _ hx5) e73 rfl <| Cl [] (c_rewrite_None _ hx6) e77 rfl <| Ac (op_build (ps := [(0, .tmp 9), (1, .tmp 10)]) (x := (⟨x5, x6, [], []⟩ : walk_way)) rfl rfl rfl (by kernel_rfl) zr135 ⟨_, _, lwalk_way_0, _, by kernel_rfl, (vt rfl), _, _, lwalk_way_1, _, by kernel_rfl, (vt rfl), rfl⟩) rfl <| Ct rfl (op_callR 0 (xs := [.tmp 8, .const (Value.int IntKind.i64 0), .tmp 11]) (c_walk_search_table sg yield1 L _ _ _ _ _ hb7) e76 rfl rfl ⟨vt rfl, vk rfl, vt rfl, trivial⟩ rfl) ?_
  rintro _ ⟨_u, rfl⟩
  refine Nl ?_
  obtain rfl := si h
  exact ret0Y (i := 0) Tryz.results75 rfl rfl
def F_walk_Rules (s1 : Switch) : Option (Itr Rule) :=
  some (Itr.mk fun σ y s => F_walk_Rules_1 σ y s s1)
theorem c_walk_Rules (s1 : Switch) (r : (Itr Rule)) (h : F_walk_Rules s1 = some r) : PCon Tryz.prog 22 [rd kSwitch s1] (seqA Tryz.prog kRule r) := by
  refine PCon.of (Con.intro0 Tryz.func22 rfl Tryz.ntmps22 rfl fun w H => ?_)
  unfold F_walk_Rules at h
  refine SR <| Ct rfl (op_box 2 rfl rfl (vt rfl)) ?_
  rintro _ ⟨g2, rfl⟩
  refine Ac (op_assign (A := raw .nilFunc) rfl rfl vc) rfl <| Nl <| AW.seq <| AW.freezeB 1 2 rfl rfl rfl <| Rg <| Ac (op_seq (Itr.mk fun σ y s => F_walk_Rules_1 σ y s s1) (cs := [.tmp 1]) (CAs := [rp kSwitch s1]) rfl rfl e75 ⟨vt rfl, trivial⟩ (fun σ y L s r h => c_walk_Rules_1 σ y L s s1 r h)) rfl <| Ac (op_assign (A := seqA Tryz.prog kRule (Itr.mk fun σ y s => F_walk_Rules_1 σ y s s1)) rfl rfl (vt rfl)) rfl <| Nl <| AW.ret ?_
  obtain rfl := si h
  exact ret1 Tryz.results22 rfl (out_tmp rfl)
def F_slices_AppendSeq_Rule (q : Itr Rule) : Option (List Rule) := collect q
theorem c_slices_AppendSeq_Rule_o (q : Itr Rule) (r : List Rule) (h : F_slices_AppendSeq_Rule q = some r) : Con Tryz.prog 146 [raw (.slice none 0 0), seqA Tryz.prog kRule q] emp (fun v => raw v) (fun v => Row v 90 kRule r) := by
  refine Con.intro0 Tryz.func146 rfl Tryz.ntmps146 rfl fun w H => ?_
  have h := collect_of h
  refine AW.newnil 1001 90 kRule <| SR <| Ct rfl (op_box (k := kraw) 3 rfl rfl (vkr (vt rfl) rfl)) ?_
  rintro _ ⟨g, rfl⟩
  refine Ac (op_assign (A := raw (.slice none 0 0)) rfl rfl vc) rfl <| AOps.pack 3 1001 (by decide) rfl rfl <| Nl <| AW.seq <| SR <| Ac (op_move (A := seqA Tryz.prog kRule q) rfl rfl (vt rfl)) rfl <| Nl <| AW.block <| AW.fit (d := []) (L := [(2, ptrL g (Lens.id kraw)), (6, seqA Tryz.prog kRule q)]) (M := [(3, BoxRow g 32 90 kRule [])]) ⟨rfl, ⟨rfl, rfl, trivial⟩, ⟨rfl, trivial⟩⟩ ?_
  refine AW.rangeFunc (fun x => [rd kRule x]) collectF (fun s => ress [(3, BoxRow g 32 90 kRule s)]) (fun _ _ => ress []) [(2, ptrL g (Lens.id kraw))]
    (fun s x S1 => ∃ g5, Fit S1 [] [(2, ptrL g (Lens.id kraw)), (5, ptrL g5 (Lens.id kRule))] [(3, BoxRow g 32 90 kRule s), (6, Blk g5 90 kRule x)]) 1003 (s0 := []) (sE := .go r)
    rfl (vt rfl) ⟨rfl, inferInstance, trivial⟩ rfl (fun _ => rfl) (by intro p hp; have hp : p ∈ [7] := hp; rw [List.mem_singleton.1 hp]; show 7 < 13; decide) ?ha ?hb (fun Lf => ⟨top, _, _, Lf, _, _, h, rfl, rfl, rfl, rfl⟩) ?he
  case ha =>
    intro s x r' hF l w H X
    refine Rg <| Ct rfl (op_alloc 6 rfl rfl zr90) ?_
    rintro _ ⟨g5, rfl⟩
    refine Sto ty90 6 rfl <| Nl ?_
    exact ⟨rfl, g5, rfl, ⟨rfl, rfl, trivial⟩, ⟨rfl, rfl, trivial⟩⟩
  case hb =>
    rintro s x r' hF S1 ⟨g5, hfit⟩ l w H X
    refine AW.fit hfit <| AW.bodyOf (M := fun s => [(3, BoxRow g 32 90 kRule s)]) (Mx := fun _ _ => []) ?_
    obtain ⟨m, hm, hF⟩ := bsome hF
    cases hF
    refine AW.block <| AW.unbox 3 1001 (by decide) rfl rfl fun v => Rg <| Ac (op_loadr (i := 3) rfl rfl tyr32 (vt rfl) rfl) rfl <| Ld ty90 6 rfl <| Ac (op_buildSliceR (ps := [(0, .tmp 9)]) (l := [x]) rfl rfl sl32 zr90 rfl rfl ⟨_, _, Lens.idx 1 kRule 0 (by decide), _, rfl, vt rfl, rfl⟩ rfl) rfl <| Ct rfl (op_append' 1001 hm rfl rfl el32 (vt rfl) rfl (vt rfl)) ?_
    rintro _ ⟨v2, rfl⟩
    refine Ac (op_store rfl rfl tyr32 (vt rfl) (i := 3) rfl (vrow (i := 1001) rfl rfl)) rfl <| AOps.pack 3 1001 (by decide) rfl rfl <| Nl ?_
    exact ⟨_, rfl, rfl, trivial⟩
  case he =>
    intro D
    refine AW.unbox 3 1001 (by decide) rfl rfl fun v => SR <| Ac (op_loadr (i := 3) rfl rfl tyr32 (vt rfl) rfl) rfl <| Aw rfl <| Nl <| AW.ret ?_
    exact ⟨rfl, 1003, rfl, ret1R (i := 1001) Tryz.results146 rfl rfl rfl⟩
theorem c_slices_AppendSeq_Rule (q : Itr Rule) (r : List Rule) (h : F_slices_AppendSeq_Rule q = some r) : PCon Tryz.prog 146 [raw (.slice none 0 0), seqA Tryz.prog kRule q] (rd (ksl kRule) r) := PCon.of_row (c_slices_AppendSeq_Rule_o q r h)
def F_slices_Collect_Rule (seq1 : (Itr Rule)) : Option (List Rule) :=
  (F_slices_AppendSeq_Rule seq1).bind fun x2 => some x2
theorem c_slices_Collect_Rule (seq1 : (Itr Rule)) (r : (List Rule)) (h : F_slices_Collect_Rule seq1 = some r) : PCon Tryz.prog 85 [seqA Tryz.prog kRule seq1] (rd (ksl kRule) r) := by
  refine PCon.of (Con.intro0 Tryz.func85 rfl Tryz.ntmps85 rfl fun w H => ?_)
  unfold F_slices_Collect_Rule at h
  refine SR <| Ac (op_assign (A := rd (ksl kRule) []) rfl rfl vnil) rfl <| Nl <| AW.seq ?_
  obtain ⟨x2, hx2, h⟩ := bsome h
  refine Rg <| Ac (op_move (A := seqA Tryz.prog kRule seq1) rfl rfl (vt rfl)) rfl <| Ac (op_call (xs := [.const (Value.slice none 0 0), .tmp 3]) (c_slices_AppendSeq_Rule _ _ hx2) e146 rfl rfl ⟨vc, vt rfl, trivial⟩) rfl <| As rfl <| Nl <| AW.ret ?_
  obtain rfl := si h
  exact ret1 Tryz.results85 rfl (out_tmp rfl)
def F_walk_List (s1 : Switch) : Option (List Rule) :=
  (F_walk_Rules s1).bind fun x3 => (F_slices_Collect_Rule x3).bind fun x4 => some x4
theorem c_walk_List (s1 : Switch) (r : (List Rule)) (h : F_walk_List s1 = some r) : PCon Tryz.prog 25 [rd kSwitch s1] (rd (ksl kRule) r) := by
  refine PCon.of (Con.intro0 Tryz.func25 rfl Tryz.ntmps25 rfl fun w H => ?_)
  unfold F_walk_List at h
  refine SR <| Ct rfl (op_box 2 rfl rfl (vt rfl)) ?_
  rintro _ ⟨g2, rfl⟩
  refine Ac (op_assign (A := rd (ksl kRule) []) rfl rfl vnil) rfl <| Nl <| AW.seq ?_
  obtain ⟨x3, hx3, h⟩ := bsome h
  obtain ⟨x4, hx4, h⟩ := bsome h
  refine Rg <| Ld ty26 2 rfl <| Cl [3] (c_walk_Rules _ _ hx3) e22 rfl <| Cl [4] (c_slices_Collect_Rule _ _ hx4) e85 rfl <| As rfl <| Nl <| AW.ret ?_
  obtain rfl := si h
  exact ret1 Tryz.results25 rfl (out_tmp rfl)
def F_walk_Most_l1 : (List (List Flow)) → Nat → Int → Option Int
  | [], i5, n4 => some (imin n4 1099511627776)
  | x7 :: l6, i5, n4 => (oquo .i64 1099511627776 n4).bind fun q8 => (bif (decide ((x7.length : Int) ≥ q8)) then some 1099511627776 else (F_walk_Most_l1 l6) (i5 + 1) (IntKind.i64.wrap (n4 * (IntKind.i64.wrap ((x7.length : Int) + 1)))))
def F_walk_Most (s1 : Switch) : Option Int :=
  F_walk_Most_l1 (Vector.toList s1.Tables) 0 1
theorem c_walk_Most (s1 : Switch) (r : Int) (h : F_walk_Most s1 = some r) : PCon Tryz.prog 60 [rd kSwitch s1] (rd (kint .i64) r) := by
  refine PCon.of (Con.intro0 Tryz.func60 rfl Tryz.ntmps60 rfl fun w H => ?_)
  unfold F_walk_Most at h
  refine SR <| Ct rfl (op_box 2 rfl rfl (vt rfl)) ?_
  rintro _ ⟨g2, rfl⟩
  refine Ak rfl <| Nl <| SR <| Ak rfl <| Nl <| AW.seq <| SR <| FdA lSwitch_0 fl26_0 rfl <| Ld ty23 2 rfl <| Mk rfl <| Nl <| AW.block <| AW.loopG (d := []) (ν := (List (List Flow)) × Nat × Int) (fun n => Sfx (Vector.toList s1.Tables) n.2.1 n.1 ∧ F_walk_Most_l1 n.1 n.2.1 n.2.2 = some r) (fun n => n.1.length) (fun n => [(3, rd (kint .i64) n.2.2), (7, rd (karr 4 (ksl kFlow)) s1.Tables), (8, rd (kint .i64) (n.2.1 : Int))]) (fun n => []) ((Vector.toList s1.Tables), 0, 1) ⟨Sfx.start _, h⟩ ⟨rfl, ⟨rfl, rfl, rfl, trivial⟩, trivial⟩ ?_
  rintro ⟨l6, i5, n4⟩ ⟨hsf1, h⟩
  change Sfx (Vector.toList s1.Tables) i5 l6 at hsf1
  change F_walk_Most_l1 l6 i5 n4 = some r at h
  change AW _ _ _ ⟨slots [(3, rd (kint .i64) n4), (7, rd (karr 4 (ksl kFlow)) s1.Tables), (8, rd (kint .i64) (i5 : Int))], ress [], _⟩
  cases l6 with
  | nil =>
    unfold F_walk_Most_l1 at h
    refine SR <| Ac (op_lss rfl rfl (vt rfl) (vk rfl)) rfl <| Nl <| AW.seq <| Cn rfl (fun hc => absurd (of_decide_eq_true hc) (hsf1.niln (by simp))) (fun hc => ?_)
    refine AW.exit <| SR <| Md rfl <| Ac (op_min rfl rfl (vt rfl) (vk rfl)) rfl <| As rfl <| Nl <| AW.ret ?_
    obtain rfl := si h
    exact ret1 Tryz.results60 rfl (out_tmp rfl)
  | cons x7 l6 =>
    unfold F_walk_Most_l1 at h
    generalize hgo1 : F_walk_Most_l1 l6 = go1 at h
    refine SR <| Ac (op_lss rfl rfl (vt rfl) (vk rfl)) rfl <| Nl <| AW.seq <| Cn rfl (fun hc => ?_) (fun hc => absurd (hsf1.consn (by simp)) (of_decide_eq_false hc))
    have hlti5 := of_decide_eq_true hc
    refine AW.skip <| AW.seq <| AW.block <| SR <| Ac (op_indexv rfl rfl ar23 ty22 (vt rfl) (vt rfl) hsf1.lget) rfl <| As rfl <| Nl <| AW.seq <| AW.seq ?_
    obtain ⟨q8, hq8, h⟩ := bsome h
    refine Rg <| Md rfl <| Ac (op_len' rfl rfl sl22 (vt rfl)) rfl <| Md rfl <| Ac (op_quo rfl rfl (vk rfl) (vt rfl) hq8) rfl <| Ac (op_geq rfl rfl (vt rfl) (vt rfl)) rfl <| Nl <| Cn rfl (fun hc => ?_) (fun hc => ?_)
    · have h := cond_t hc h
      refine SR <| Ak rfl <| Nl <| AW.ret ?_
      obtain rfl := si h
      exact ret1 Tryz.results60 rfl (out_tmp rfl)
    · have h := cond_f hc h
      refine AW.skip <| Rg <| Md rfl <| Md rfl <| Ac (op_len' rfl rfl sl22 (vt rfl)) rfl <| Ac (op_add rfl rfl (vt rfl) (vk rfl)) rfl <| Ac (op_mul rfl rfl (vt rfl) (vt rfl)) rfl <| As rfl <| Nl <| Rg <| Ac (op_incrc rfl rfl (vt rfl) (vk rfl) rfl hlti5) rfl <| Md rfl <| Nl ?_
      subst hgo1
      exact ⟨(l6, i5 + 1, (IntKind.i64.wrap (n4 * (IntKind.i64.wrap ((x7.length : Int) + 1))))), Nat.lt_succ_self _, ⟨hsf1.next, h⟩, ⟨rfl, ⟨rfl, rfl, rfl, trivial⟩, trivial⟩⟩
def F_l33_awake : Option Bool :=
  (F_walk_List { (⟨(Vector.replicate 4 []), []⟩ : Switch) with Tables := (Vector.set ((⟨(Vector.replicate 4 []), []⟩ : Switch).Tables) (⟨0, by decide⟩ : _root_.Fin 4).1 [(⟨0, 0, 0, 0, 0, [(⟨0, false, (⟨0, (1 : BitVec 64)⟩ : Wide), zWide⟩ : Oxm)], [(⟨3, 0, zWide, zWide, [(⟨0, 9, 0, 0, 0, zOxm⟩ : Action)]⟩ : Inst)]⟩ : Flow)] (⟨0, by decide⟩ : _root_.Fin 4).2) }).bind fun x2 => (opt (decide ((x2.length : Int) = 2)) (lget x2 0)).bind fun e3 => (opt ((decide ((x2.length : Int) = 2)) && (decide ((e3.Atoms.length : Int) = 1))) (lget x2 0)).bind fun e4 => (opt ((decide ((x2.length : Int) = 2)) && (decide ((e3.Atoms.length : Int) = 1))) (lget e4.Atoms 0)).bind fun e5 => (opt (((decide ((x2.length : Int) = 2)) && (decide ((e3.Atoms.length : Int) = 1))) && (decide (e5.Port = 9))) (lget x2 1)).bind fun e6 => (opt (((decide ((x2.length : Int) = 2)) && (decide ((e3.Atoms.length : Int) = 1))) && (decide (e5.Port = 9))) (F_cube_All)).bind fun x7 => (opt ((((decide ((x2.length : Int) = 2)) && (decide ((e3.Atoms.length : Int) = 1))) && (decide (e5.Port = 9))) && (decide (e6.Cube = x7))) (F_walk_Most { (⟨(Vector.replicate 4 []), []⟩ : Switch) with Tables := (Vector.set ((⟨(Vector.replicate 4 []), []⟩ : Switch).Tables) (⟨0, by decide⟩ : _root_.Fin 4).1 [(⟨0, 0, 0, 0, 0, [(⟨0, false, (⟨0, (1 : BitVec 64)⟩ : Wide), zWide⟩ : Oxm)], [(⟨3, 0, zWide, zWide, [(⟨0, 9, 0, 0, 0, zOxm⟩ : Action)]⟩ : Inst)]⟩ : Flow)] (⟨0, by decide⟩ : _root_.Fin 4).2) })).bind fun x8 => (opt (((((decide ((x2.length : Int) = 2)) && (decide ((e3.Atoms.length : Int) = 1))) && (decide (e5.Port = 9))) && (decide (e6.Cube = x7))) && (decide (x8 = 2))) (F_walk_Rules { (⟨(Vector.replicate 4 []), []⟩ : Switch) with Tables := (Vector.set ((⟨(Vector.replicate 4 []), []⟩ : Switch).Tables) (⟨0, by decide⟩ : _root_.Fin 4).1 [(⟨0, 0, 0, 0, 0, [(⟨0, false, (⟨0, (1 : BitVec 64)⟩ : Wide), zWide⟩ : Oxm)], [(⟨3, 0, zWide, zWide, [(⟨0, 9, 0, 0, 0, zOxm⟩ : Action)]⟩ : Inst)]⟩ : Flow)] (⟨0, by decide⟩ : _root_.Fin 4).2) })).bind fun x9 => some ((((((decide ((x2.length : Int) = 2)) && (decide ((e3.Atoms.length : Int) = 1))) && (decide (e5.Port = 9))) && (decide (e6.Cube = x7))) && (decide (x8 = 2))) && true)
theorem c_l33_awake (r : Bool) (h : F_l33_awake = some r) : PCon Tryz.prog 20 [] (rd kbool r) := by
  refine PCon.of (Con.intro0 Tryz.func20 rfl Tryz.ntmps20 rfl fun w H => ?_)
  unfold F_l33_awake at h
  refine SR <| Ab rfl <| Nl <| SR <| Ac (op_build (ps := []) (x := (⟨(Vector.replicate 4 []), []⟩ : Switch)) rfl rfl rfl (by kernel_rfl) zr26 rfl) rfl <| Ct rfl (op_alloc 2 rfl rfl zr26) ?_
  rintro _ ⟨g1, rfl⟩
  refine Sto ty26 2 rfl <| Nl <| SR <| Ac (op_build (ps := [(1, .const (Value.int IntKind.u64 1))]) (x := (⟨0, (1 : BitVec 64)⟩ : Wide)) rfl rfl rfl (by kernel_rfl) zr42 ⟨_, _, lWide_1, _, by kernel_rfl, (vku (1 : BitVec 64) rfl), rfl⟩) rfl <| Ac (op_build (ps := [(0, .const (Value.int IntKind.i64 0)), (2, .tmp 4)]) (x := (⟨0, false, (⟨0, (1 : BitVec 64)⟩ : Wide), zWide⟩ : Oxm)) rfl rfl rfl (by kernel_rfl) zr119 ⟨_, _, lOxm_0, _, by kernel_rfl, (vk rfl), _, _, lOxm_2, _, by kernel_rfl, (vt rfl), rfl⟩) rfl <| Ac (op_buildSliceR (ps := [(0, .tmp 5)]) (l := [(⟨0, false, (⟨0, (1 : BitVec 64)⟩ : Wide), zWide⟩ : Oxm)]) rfl rfl sl58 zr119 rfl rfl ⟨_, _, Lens.idx 1 kOxm 0 (by decide), _, rfl, (vt rfl), rfl⟩ rfl) rfl <| Ac (op_build (ps := [(0, .const (Value.int IntKind.i64 0)), (1, .const (Value.int IntKind.i64 9))]) (x := (⟨0, 9, 0, 0, 0, zOxm⟩ : Action)) rfl rfl rfl (by kernel_rfl) zr121 ⟨_, _, lAction_0, _, by kernel_rfl, (vk rfl), _, _, lAction_1, _, by kernel_rfl, (vk rfl), rfl⟩) rfl <| Ac (op_buildSliceR (ps := [(0, .tmp 7)]) (l := [(⟨0, 9, 0, 0, 0, zOxm⟩ : Action)]) rfl rfl sl122 zr121 rfl rfl ⟨_, _, Lens.idx 1 kAction 0 (by decide), _, rfl, (vt rfl), rfl⟩ rfl) rfl <| Ac (op_build (ps := [(0, .const (Value.int IntKind.i64 3)), (4, .tmp 8)]) (x := (⟨3, 0, zWide, zWide, [(⟨0, 9, 0, 0, 0, zOxm⟩ : Action)]⟩ : Inst)) rfl rfl rfl (by kernel_rfl) zr124 ⟨_, _, lInst_0, _, by kernel_rfl, (vk rfl), _, _, lInst_4, _, by kernel_rfl, (vt rfl), rfl⟩) rfl <| Ac (op_buildSliceR (ps := [(0, .tmp 9)]) (l := [(⟨3, 0, zWide, zWide, [(⟨0, 9, 0, 0, 0, zOxm⟩ : Action)]⟩ : Inst)]) rfl rfl sl59 zr124 rfl rfl ⟨_, _, Lens.idx 1 kInst 0 (by decide), _, rfl, (vt rfl), rfl⟩ rfl) rfl <| Ac (op_build (ps := [(5, .tmp 6), (6, .tmp 10)]) (x := (⟨0, 0, 0, 0, 0, [(⟨0, false, (⟨0, (1 : BitVec 64)⟩ : Wide), zWide⟩ : Oxm)], [(⟨3, 0, zWide, zWide, [(⟨0, 9, 0, 0, 0, zOxm⟩ : Action)]⟩ : Inst)]⟩ : Flow)) rfl rfl rfl (by kernel_rfl) zr61 ⟨_, _, lFlow_5, _, by kernel_rfl, (vt rfl), _, _, lFlow_6, _, by kernel_rfl, (vt rfl), rfl⟩) rfl <| Ac (op_buildSliceR (ps := [(0, .tmp 11)]) (l := [(⟨0, 0, 0, 0, 0, [(⟨0, false, (⟨0, (1 : BitVec 64)⟩ : Wide), zWide⟩ : Oxm)], [(⟨3, 0, zWide, zWide, [(⟨0, 9, 0, 0, 0, zOxm⟩ : Action)]⟩ : Inst)]⟩ : Flow)]) rfl rfl sl22 zr61 rfl rfl ⟨_, _, Lens.idx 1 kFlow 0 (by decide), _, rfl, (vt rfl), rfl⟩ rfl) rfl <| FdA lSwitch_0 fl26_0 rfl <| Ac (op_index' rfl rfl ar23 (vt rfl) (vk rfl) rfl) rfl <| Sto ty22 2 rfl <| Nl <| AW.seq ?_
  obtain ⟨x2, hx2, h⟩ := bsome h
  refine Rg <| Ld ty26 2 rfl <| Cl [15] (c_walk_List _ _ hx2) e25 rfl <| As rfl <| Nl <| AW.seq ?_
  obtain ⟨e3, he3, h⟩ := bsome h
  obtain ⟨e4, he4, h⟩ := bsome h
  obtain ⟨e5, he5, h⟩ := bsome h
  obtain ⟨e6, he6, h⟩ := bsome h
  obtain ⟨x7, hx7, h⟩ := bsome h
  obtain ⟨x8, hx8, h⟩ := bsome h
  obtain ⟨x9, hx9, h⟩ := bsome h
  refine AW.regionAny [⟨[2], [17], [], []⟩, ⟨[17], [18], [], []⟩, ⟨[18], [19], [], []⟩, ⟨[19], [20], [], []⟩, ⟨[2, 20], [21], [], []⟩, ⟨[21, 20], [22], [], []⟩, ⟨[22, 20], [23], [], []⟩, ⟨[23, 20], [24], [], []⟩, ⟨[24, 20], [25], [], []⟩, ⟨[25, 20], [26], [], []⟩, ⟨[26, 20], [27], [], []⟩, ⟨[27], [28], [], []⟩, ⟨[2, 28], [29], [], []⟩, ⟨[29, 28], [30], [], []⟩, ⟨[30, 28], [31], [], []⟩, ⟨[31, 28], [32], [], []⟩, ⟨[32, 28], [33], [], []⟩, ⟨[33, 28], [34], [], []⟩, ⟨[34, 28], [35], [], []⟩, ⟨[35, 28], [36], [], []⟩, ⟨[36, 28], [37], [], []⟩, ⟨[37], [38], [], []⟩, ⟨[2, 38], [39], [], []⟩, ⟨[39, 38], [40], [], []⟩, ⟨[40, 38], [41], [], []⟩, ⟨[41, 38], [42], [], []⟩, ⟨[38], [43], [], []⟩, ⟨[42, 43, 38], [44], [], []⟩, ⟨[44, 38], [45], [], []⟩, ⟨[45], [46], [], []⟩, ⟨[1, 46], [47], [2], []⟩, ⟨[47, 46], [48], [], []⟩, ⟨[48, 46], [49], [], []⟩, ⟨[49, 46], [50], [], []⟩, ⟨[50], [51], [], []⟩, ⟨[1, 51], [52], [2], []⟩, ⟨[52, 51], [53], [], []⟩, ⟨[53, 51], [54], [], []⟩, ⟨[54, 51], [55], [], []⟩, ⟨[55], [0], [], []⟩] mixed (by kernel_rfl) <| SMd rfl <| Sc (lo [17] [] rfl fun S hs hr => op_len' rfl rfl sl32 (vh hs 17 rfl rfl)) rfl <| Sc (lo [18] [] rfl fun S hs hr => op_eql rfl rfl (vh hs 18 rfl rfl) (vk rfl)) rfl <| SMd rfl <| Sc (lg [2, 20] [] rfl fun hq S hs hr => op_move (A := rd (ksl kRule) x2) rfl rfl (vh hs 2 rfl rfl)) rfl <| Sc (lg [21, 20] [] rfl fun hq S hs hr => op_indexs' rfl rfl sl32 (vgt ((hs 21 rfl).trans rfl) hq) (vk rfl) (opt_t he3 hq)) rfl <| Sc (lg [22, 20] [] rfl fun hq S hs hr => op_fieldp lRule_1 rfl rfl fl90_1 (vgt ((hs 22 rfl).trans rfl) hq)) rfl <| Sc (lg [23, 20] [] rfl fun hq S hs hr => op_loadp rfl rfl ty88 (vgt ((hs 23 rfl).trans rfl) hq)) rfl <| Sc (lg [24, 20] [] rfl fun hq S hs hr => op_len' rfl rfl sl88 (vgt ((hs 24 rfl).trans rfl) hq)) rfl <| Sc (lg [25, 20] [] rfl fun hq S hs hr => op_eql rfl rfl (vgt ((hs 25 rfl).trans rfl) hq) (vk rfl)) rfl <| Sc (lo [26, 20] [] rfl fun S hs hr => op_all rfl rfl (vh hs 20 rfl rfl) (vh hs 26 rfl rfl)) rfl <| SMd rfl <| Sc (lg [2, 28] [] rfl fun hq S hs hr => op_move (A := rd (ksl kRule) x2) rfl rfl (vh hs 2 rfl rfl)) rfl <| Sc (lg [29, 28] [] rfl fun hq S hs hr => op_indexs' rfl rfl sl32 (vgt ((hs 29 rfl).trans rfl) hq) (vk rfl) (opt_t he4 hq)) rfl <| Sc (lg [30, 28] [] rfl fun hq S hs hr => op_fieldp lRule_1 rfl rfl fl90_1 (vgt ((hs 30 rfl).trans rfl) hq)) rfl <| Sc (lg [31, 28] [] rfl fun hq S hs hr => op_loadp rfl rfl ty88 (vgt ((hs 31 rfl).trans rfl) hq)) rfl <| Sc (lg [32, 28] [] rfl fun hq S hs hr => op_indexs' rfl rfl sl88 (vgt ((hs 32 rfl).trans rfl) hq) (vk rfl) (opt_t he5 hq)) rfl <| Sc (lg [33, 28] [] rfl fun hq S hs hr => op_fieldp lAtom_2 rfl rfl fl126_2 (vgt ((hs 33 rfl).trans rfl) hq)) rfl <| Sc (lg [34, 28] [] rfl fun hq S hs hr => op_loadp rfl rfl ty3 (vgt ((hs 34 rfl).trans rfl) hq)) rfl <| Sc (lg [35, 28] [] rfl fun hq S hs hr => op_eql rfl rfl (vgt ((hs 35 rfl).trans rfl) hq) (vk rfl)) rfl <| Sc (lo [36, 28] [] rfl fun S hs hr => op_all rfl rfl (vh hs 28 rfl rfl) (vh hs 36 rfl rfl)) rfl ?_
  refine SMd rfl <| Sc (lg [2, 38] [] rfl fun hq S hs hr => op_move (A := rd (ksl kRule) x2) rfl rfl (vh hs 2 rfl rfl)) rfl <| Sc (lg [39, 38] [] rfl fun hq S hs hr => op_indexs' rfl rfl sl32 (vgt ((hs 39 rfl).trans rfl) hq) (vk rfl) (opt_t he6 hq)) rfl <| Sc (lg [40, 38] [] rfl fun hq S hs hr => op_fieldp lRule_0 rfl rfl fl90_0 (vgt ((hs 40 rfl).trans rfl) hq)) rfl <| Sc (lg [41, 38] [] rfl fun hq S hs hr => op_loadp rfl rfl ty87 (vgt ((hs 41 rfl).trans rfl) hq)) rfl <| Sc (lg [38] [] rfl fun hq S hs hr => op_call (xs := []) (c_cube_All _ (opt_t hx7 hq)) e73 rfl rfl trivial) rfl <| Sc (lg [42, 43, 38] [] rfl fun hq S hs hr => op_eqlk rfl rfl eqk87 (by decide) rfl eg87 (vgt ((hs 42 rfl).trans rfl) hq) (vgt ((hs 43 rfl).trans rfl) hq)) rfl <| Sc (lo [44, 38] [] rfl fun S hs hr => op_all rfl rfl (vh hs 38 rfl rfl) (vh hs 44 rfl rfl)) rfl <| SMd rfl <| Sc (lg [1, 46] [2] rfl fun hq S hs hr => op_load rfl rfl ty26 (vh hs 1 rfl rfl) (i := 2) ((hr 2 rfl).trans rfl)) rfl <| Sc (lg [47, 46] [] rfl fun hq S hs hr => op_call (xs := [.tmp 47]) (c_walk_Most _ _ (opt_t hx8 hq)) e60 rfl rfl ⟨vgt ((hs 47 rfl).trans rfl) hq, trivial⟩) rfl <| Sc (lg [48, 46] [] rfl fun hq S hs hr => op_eql rfl rfl (vgt ((hs 48 rfl).trans rfl) hq) (vk rfl)) rfl <| Sc (lo [49, 46] [] rfl fun S hs hr => op_all rfl rfl (vh hs 46 rfl rfl) (vh hs 49 rfl rfl)) rfl <| SMd rfl <| Sc (lg [1, 51] [2] rfl fun hq S hs hr => op_load rfl rfl ty26 (vh hs 1 rfl rfl) (i := 2) ((hr 2 rfl).trans rfl)) rfl <| Sc (lg [52, 51] [] rfl fun hq S hs hr => op_call (xs := [.tmp 52]) (c_walk_Rules _ _ (opt_t hx9 hq)) e22 rfl rfl ⟨vgt ((hs 52 rfl).trans rfl) hq, trivial⟩) rfl <| Sc (lg [53, 51] [] rfl fun hq S hs hr => op_neqseq rfl rfl uf30 (vgt ((hs 53 rfl).trans rfl) hq)) rfl <| Sc (lo [54, 51] [] rfl fun S hs hr => op_all rfl rfl (vh hs 51 rfl rfl) (vh hs 54 rfl rfl)) rfl <| SAs rfl <| AW.ret ?_
  obtain rfl := si h
  exact ret1 Tryz.results20 rfl (out_tmp rfl)
def F_l33_WalkFirst_1 (r1 : Rule) (cp2 : (Vector Wide 24)) : Option Bool :=
  (F_cube_Has r1.Cube cp2).bind fun x4 => some x4
theorem c_l33_WalkFirst_1 (r1 : Rule) (cp2 : (Vector Wide 24)) (r : Bool) (h : F_l33_WalkFirst_1 r1 cp2 = some r) : PCon Tryz.prog 49 [rd kRule r1, rp (karr 24 kWide) cp2] (rd kbool r) := by
  refine PCon.of (Con.intro0 Tryz.func49 rfl Tryz.ntmps49 rfl fun w H => ?_)
  unfold F_l33_WalkFirst_1 at h
  refine SR <| Ct rfl (op_box 3 rfl rfl (vt rfl)) ?_
  rintro _ ⟨g3, rfl⟩
  refine Ab rfl <| Nl <| AW.seq ?_
  obtain ⟨x4, hx4, h⟩ := bsome h
  refine Rg <| FdA lRule_0 fl90_0 rfl <| Ld ty87 3 rfl <| Lp1 ty44 rfl <| Cl [5, 6] (c_cube_Has _ _ _ hx4) e50 rfl <| As rfl <| Nl <| AW.ret ?_
  obtain rfl := si h
  exact ret1 Tryz.results49 rfl (out_tmp rfl)
def F_slices_IndexFunc_Rule_l1 (s1 : (List Rule)) (f2 : (Rule → Option Bool)) : Nat → Nat → Option Int
  | 0, i3 => some (-1)
  | m4 + 1, i3 => (lget s1 (i3 : Int)).bind fun e5 => (f2 e5).bind fun x6 => (bif x6 then some (i3 : Int) else (F_slices_IndexFunc_Rule_l1 s1 f2 m4) (i3 + 1))
def F_slices_IndexFunc_Rule (s1 : (List Rule)) (f2 : (Rule → Option Bool)) : Option Int :=
  F_slices_IndexFunc_Rule_l1 s1 f2 ((s1.length : Int) : Int).toNat 0
theorem c_slices_IndexFunc_Rule (s1 : (List Rule)) (f2 : (Rule → Option Bool)) (r : Int) (h : F_slices_IndexFunc_Rule s1 f2 = some r) : PCon Tryz.prog 48 [rd (ksl kRule) s1, fn1 Tryz.prog kRule kbool f2] (rd (kint .i64) r) := by
  refine PCon.of (Con.intro0 Tryz.func48 rfl Tryz.ntmps48 rfl fun w H => ?_)
  unfold F_slices_IndexFunc_Rule at h
  refine SR <| Ak rfl <| Nl <| AW.seq <| SR <| Md rfl <| Ac (op_len' rfl rfl sl32 (vt rfl)) rfl <| Mk rfl <| Nl <| AW.block <| AW.loopG (d := []) (ν := Nat × Nat) (fun n => Cnt (s1.length : Int) n.2 n.1 ∧ F_slices_IndexFunc_Rule_l1 s1 f2 n.1 n.2 = some r) (fun n => n.1) (fun n => [(0, rd (ksl kRule) s1), (1, fn1 Tryz.prog kRule kbool f2), (7, rd (kint .i64) (s1.length : Int)), (8, rd (kint .i64) (n.2 : Int))]) (fun n => []) (((s1.length : Int) : Int).toNat, 0) ⟨Cnt.start _, h⟩ ⟨rfl, ⟨rfl, rfl, rfl, rfl, trivial⟩, trivial⟩ ?_
  rintro ⟨m4, i3⟩ ⟨hsf1, h⟩
  change Cnt (s1.length : Int) i3 m4 at hsf1
  change F_slices_IndexFunc_Rule_l1 s1 f2 m4 i3 = some r at h
  change AW _ _ _ ⟨slots [(0, rd (ksl kRule) s1), (1, fn1 Tryz.prog kRule kbool f2), (7, rd (kint .i64) (s1.length : Int)), (8, rd (kint .i64) (i3 : Int))], ress [], _⟩
  cases m4 with
  | zero =>
    unfold F_slices_IndexFunc_Rule_l1 at h
    refine SR <| Ac (op_lss rfl rfl (vt rfl) (vt rfl)) rfl <| Nl <| AW.seq <| Cn rfl (fun hc => absurd (of_decide_eq_true hc) hsf1.zero) (fun hc => ?_)
    refine AW.exit <| SR <| Ak rfl <| Nl <| AW.ret ?_
    obtain rfl := si h
    exact ret1 Tryz.results48 rfl (out_tmp rfl)
  | succ m4 =>
    unfold F_slices_IndexFunc_Rule_l1 at h
    generalize hgo1 : F_slices_IndexFunc_Rule_l1 s1 f2 m4 = go1 at h
    refine SR <| Ac (op_lss rfl rfl (vt rfl) (vt rfl)) rfl <| Nl <| AW.seq <| Cn rfl (fun hc => ?_) (fun hc => absurd hsf1.succ (of_decide_eq_false hc))
    have hlti3 := of_decide_eq_true hc
    refine AW.skip <| AW.seq <| AW.block <| SR <| Md rfl <| As rfl <| Nl <| AW.seq ?_
    obtain ⟨e5, he5, h⟩ := bsome h
    obtain ⟨x6, hx6, h⟩ := bsome h
    refine Rg <| Ac (op_move (A := fn1 Tryz.prog kRule kbool f2) rfl rfl (vt rfl)) rfl <| Md rfl <| Md rfl <| Ac (op_indexs' rfl rfl sl32 (vt rfl) (vt rfl) he5) rfl <| Lp1 ty90 rfl <| Ac (op_call1 hx6 rfl rfl (vt rfl) (vt rfl)) rfl <| Nl <| Cn rfl (fun hc => ?_) (fun hc => ?_)
    · have h := cond_t hc h
      refine SR <| Md rfl <| As rfl <| Nl <| AW.ret ?_
      obtain rfl := si h
      exact ret1 Tryz.results48 rfl (out_tmp rfl)
    · have h := cond_f hc h
      refine AW.skip <| Rg <| Ac (op_incr (t := 7) rfl rfl (vt rfl) (vk rfl) (vt rfl) hlti3) rfl <| Md rfl <| Nl ?_
      subst hgo1
      exact ⟨(m4, i3 + 1), Nat.lt_succ_self _, ⟨hsf1.next, h⟩, ⟨rfl, ⟨rfl, rfl, rfl, rfl, trivial⟩, trivial⟩⟩
end Go.Proofs.YtknpgojdkobgjaaGreat.W
set_option linter.unusedVariables false
set_option maxRecDepth 4000
set_option linter.unusedSimpArgs false
namespace Go.Proofs.YtknpgojdkobgjaaGreat.W
open Go Go.Wb
theorem e110 : Ent Tryz.prog 110 := Ent.mk Tryz.func110 rfl rfl
theorem e108 : Ent Tryz.prog 108 := Ent.mk Tryz.func108 rfl rfl
theorem e107 : Ent Tryz.prog 107 := Ent.mk Tryz.func107 rfl rfl
theorem e94 : Ent Tryz.prog 94 := Ent.mk Tryz.func94 rfl rfl
theorem e20 : Ent Tryz.prog 20 := Ent.mk Tryz.func20 rfl rfl
theorem e49 : Ent Tryz.prog 49 := Ent.mk Tryz.func49 rfl rfl
theorem e48 : Ent Tryz.prog 48 := Ent.mk Tryz.func48 rfl rfl
theorem e51 : Ent Tryz.prog 51 := Ent.mk Tryz.func51 rfl rfl
theorem e38 : Ent Tryz.prog 38 := Ent.mk Tryz.func38 rfl rfl
def F_exec_Group (l1 : (List Group)) (e2 : Env) (id3 : Int) (h4 : (Vector Wide 24)) : Option (List Out) :=
  (F_exec_run_group (⟨e2, l1, [], h4, 0⟩ : exec_run) id3).bind fun b8 => some b8.out
theorem c_exec_Group (l1 : (List Group)) (e2 : Env) (id3 : Int) (h4 : (Vector Wide 24)) (r : (List Out)) (h : F_exec_Group l1 e2 id3 h4 = some r) : PCon Tryz.prog 110 [rd (ksl kGroup) l1, rd kEnv e2, rd (kint .i64) id3, rd (karr 24 kWide) h4] (rd (ksl kOut) r) := by
  refine PCon.of (Con.intro0 Tryz.func110 rfl Tryz.ntmps110 rfl fun w H => ?_)
  unfold F_exec_Group at h
  refine SR <| Ct rfl (op_box 6 rfl rfl (vt rfl)) ?_
  rintro _ ⟨g5, rfl⟩
  refine Ct rfl (op_box 8 rfl rfl (vt rfl)) ?_
  rintro _ ⟨g6, rfl⟩
  refine Ac (op_assign (A := rd (ksl kOut) []) rfl rfl vnil) rfl <| Nl <| AW.seq <| AW.newnil 2302 71 kOut <| Rg <| Ld ty39 6 rfl <| Md rfl <| Ld ty44 8 rfl <| Ac (op_build (ps := [(0, .tmp 10), (1, .tmp 11), (3, .tmp 12)]) (x := (⟨e2, l1, (.slice none 0 0), h4, 0⟩ : exec_run_o2)) rfl rfl rfl (by kernel_rfl) zrv237_2 ⟨_, _, lexec_run_o2_0, _, by kernel_rfl, (vt rfl), _, _, lexec_run_o2_1, _, by kernel_rfl, (vt rfl), _, _, lexec_run_o2_3, _, by kernel_rfl, (vt rfl), rfl⟩) rfl <| Ct rfl (op_box 15 rfl rfl (vt rfl)) ?_
  rintro _ ⟨g7, rfl⟩
  refine Ac (op_assign (A := ptrL g7 (Lens.id kexec_run_o2)) rfl rfl (vt rfl)) rfl <| Nl <| AW.seq ?_
  obtain ⟨b8, hb8, h⟩ := bsome h
  refine Rg <| Mp rfl <| Md rfl <| AOps.packF 15 2302 (fun v => (⟨e2, l1, v, h4, 0⟩ : exec_run_o2)) (by decide) rfl rfl <| Ct rfl (op_callR 15 (xs := [.tmp 15, .tmp 16]) (c_exec_run_group _ _ _ _ _ hb8) e178 rfl rfl ⟨vt rfl, vt rfl, trivial⟩ rfl) ?_
  rintro _ ⟨_u, rfl⟩
  refine AOps.unboxF 15 2302 (by decide) rfl rfl fun v9 => Nl <| SR <| Mp rfl <| Nc rfl <| FdA lexec_run_o2_2 flv237_2_2 rfl <| Ac (op_loadv v9 rfl rfl tyr46 (vt rfl) (i := 15) rfl rfl) rfl <| Aw rfl <| Nl <| AW.freezes [8, 21] 2302 rfl ⟨rfl, rfl, trivial⟩ rfl <| AW.ret ?_
  obtain rfl := si h
  exact ret1 Tryz.results110 rfl (out_tmp rfl)
def F_atom_Out_1 (x1 : Atom) (cp2 : (Vector Wide 24)) (cu3 : (List Out)) (cp6 : (List Group)) (cp7 : Env) : Option (List Out) :=
  (F_rewrite_Apply x1.Rewrite cp2).bind fun x9 => (bif x1.Group then (F_exec_Group cp6 cp7 x1.Port x9).bind fun x11 => (appd cu3 x11).bind fun l12 => some l12 else (appd cu3 [(⟨x1.Port, x1.Max, x9⟩ : Out)]).bind fun l14 => some l14)
theorem c_atom_Out_1 (g4 gT : Nat) (x1 : Atom) (cp2 : (Vector Wide 24)) (cu3 : (List Out)) (cp6 : (List Group)) (cp7 : Env) (r : (List Out)) (h : F_atom_Out_1 x1 cp2 cu3 cp6 cp7 = some r) : Con Tryz.prog 108 [rd kAtom x1, rp (karr 24 kWide) cp2, ptrL g4 (Lens.id kraw), rp (ksl kGroup) cp6, rp kEnv cp7] (BoxF g4 gT kraw (fun v => v) 71 kOut cu3) (fun _ : Unit => top) (fun _ => BoxF g4 gT kraw (fun v => v) 71 kOut r) := by
  refine Con.intro Tryz.func108 rfl Tryz.ntmps108 rfl fun w H X => ?_
  unfold F_atom_Out_1 at h
  refine AW.unboxF 0 2019 (by decide) rfl rfl fun v5 => SR <| Ct rfl (op_box 6 rfl rfl (vt rfl)) ?_
  rintro _ ⟨g8, rfl⟩
  refine Nl <| AW.seq ?_
  obtain ⟨x9, hx9, h⟩ := bsome h
  refine Rg <| FdA lAtom_0 fl126_0 rfl <| Ld ty101 6 rfl <| Lp1 ty44 rfl <| Cl [8, 9] (c_rewrite_Apply _ _ _ hx9) e109 rfl <| Ct rfl (op_alloc 7 rfl rfl zr44) ?_
  rintro _ ⟨g10, rfl⟩
  refine Sto ty44 7 rfl <| Nl <| AW.seq <| SR <| FdA lAtom_1 fl126_1 rfl <| Ld ty4 6 rfl <| Nl <| Cn rfl (fun hc => ?_) (fun hc => ?_)
  · have h := cond_t hc h
    refine AW.seq ?_
    obtain ⟨x11, hx11, h⟩ := bsome h
    obtain ⟨l12, hl12, h⟩ := bsome h
    refine AW.regionAny [⟨[2], [13], [0], []⟩, ⟨[3], [14], [], []⟩, ⟨[4], [15], [], []⟩, ⟨[5], [16], [], []⟩, ⟨[16], [17], [6], []⟩, ⟨[6], [18], [7], []⟩, ⟨[14, 15, 17, 18], [19], [], []⟩, ⟨[13, 19], [20], [2019], [2019]⟩, ⟨[2, 20], [20], [0], [0]⟩] mixed (by kernel_rfl) <| Sc (lo [2] [0] rfl fun S hs hr => op_loadv v5 rfl rfl tyr46 (vh hs 2 rfl rfl) (i := 0) ((hr 0 rfl).trans rfl) rfl) rfl <| SLp ty24 rfl <| SLp ty39 rfl <| SFd lAtom_2 fl126_2 rfl <| SLd ty3 6 rfl <| SLd ty44 7 rfl <| SCl [14, 15, 17, 18] (c_exec_Group _ _ _ _ _ hx11) e110 rfl <| Sc (locs (us := [(20, ownR 71 kOut l12)]) (ur := [(2019, emp)]) [13, 19] [2019] rfl fun S hs hr => op_appendO 2019 hl12 rfl rfl rfl el46 (vh hs 13 rfl rfl) ((hr 2019 rfl).trans rfl) (vh hs 19 rfl rfl)) rfl <| Sc (locs (us := [(20, top)]) (ur := [(0, BoxF g4 gT kraw (fun v => ((Lens.id kraw)).set v5 v) 71 kOut l12)]) [2, 20] [0] rfl fun S hs hr => op_storeR rfl rfl tyr46 (vh hs 2 rfl rfl) ((hr 0 rfl).trans rfl) ((hs 20 rfl).trans rfl)) rfl <| AW.unboxF 0 2019 (by decide) rfl rfl fun v13 => AW.ret ?_
    obtain rfl := si h
    exact RetOK.turn (Turn.packF 0 2019 (fun v => v) (by decide) rfl rfl) (ret0Y (i := 0) Tryz.results108 rfl rfl)
  · have h := cond_f hc h
    refine AW.skip ?_
    obtain ⟨l14, hl14, h⟩ := bsome h
    refine Rg <| Ac (op_loadv v5 rfl rfl tyr46 (vt rfl) (i := 0) rfl rfl) rfl <| FdA lAtom_2 fl126_2 rfl <| Ld ty3 6 rfl <| FdA lAtom_3 fl126_3 rfl <| Ld ty3 6 rfl <| Ld ty44 7 rfl <| Ac (op_build (ps := [(0, .tmp 23), (1, .tmp 25), (2, .tmp 26)]) (x := (⟨x1.Port, x1.Max, x9⟩ : Out)) rfl rfl rfl (by kernel_rfl) zr71 ⟨_, _, lOut_0, _, by kernel_rfl, (vt rfl), _, _, lOut_1, _, by kernel_rfl, (vt rfl), _, _, lOut_2, _, by kernel_rfl, (vt rfl), rfl⟩) rfl <| Ac (op_buildSliceR (ps := [(0, .tmp 27)]) (l := [(⟨x1.Port, x1.Max, x9⟩ : Out)]) rfl rfl sl46 zr71 rfl rfl ⟨_, _, Lens.idx 1 kOut 0 (by decide), _, rfl, (vt rfl), rfl⟩ rfl) rfl <| Ct rfl (op_append' 2019 hl14 rfl rfl el46 (vt rfl) rfl (vt rfl)) ?_
    rintro _ ⟨v15, rfl⟩
    refine Ac (op_store rfl rfl tyr46 (vt rfl) (i := 0) rfl (vrow (i := 2019) rfl rfl)) rfl <| Nl ?_
    obtain rfl := si h
    exact RetOK.turn (Turn.packF 0 2019 (fun v => v) (by decide) rfl rfl) (ret0Y (i := 0) Tryz.results108 rfl rfl)
def F_atom_each_Atom_l1 (sg : Type) (do2 : (sg → Atom → Option sg)) : (List Atom) → Nat → sg → Option sg
  | [], i6, s5 => some s5
  | x8 :: l7, i6, s5 => (do2 s5 x8).bind fun s10 => (F_atom_each_Atom_l1 sg do2 l7) (i6 + 1) s10
def F_atom_each_Atom (l1 : (List Atom)) (sg : Type) (do2 : (sg → Atom → Option sg)) (s3 : sg) : Option sg :=
  F_atom_each_Atom_l1 sg do2 l1 0 s3
theorem c_atom_each_Atom (l1 : (List Atom)) (sg : Type) (do2 : (sg → Atom → Option sg)) (L : sg → Res) (s3 : sg) (r : sg) (h : F_atom_each_Atom l1 sg do2 s3 = some r) : Con Tryz.prog 107 [rd (ksl kAtom) l1, stA Tryz.prog kAtom do2 L] (L s3) (fun _ : Unit => top) (fun _ => L r) := by
  refine Con.intro Tryz.func107 rfl Tryz.ntmps107 rfl fun w H X => ?_
  unfold F_atom_each_Atom at h
  refine SR <| Md rfl <| Ac (op_len' rfl rfl sl88 (vt rfl)) rfl <| Mk rfl <| Nl <| AW.block <| AW.loopG (d := []) (ν := (List Atom) × Nat × sg) (fun n => Sfx l1 n.2.1 n.1 ∧ F_atom_each_Atom_l1 sg do2 n.1 n.2.1 n.2.2 = some r) (fun n => n.1.length) (fun n => [(1, stA Tryz.prog kAtom do2 L), (6, rd (ksl kAtom) l1), (7, rd (kint .i64) (l1.length : Int)), (8, rd (kint .i64) (n.2.1 : Int))]) (fun n => [(0, L n.2.2)]) (l1, 0, s3) ⟨Sfx.start _, h⟩ ⟨rfl, ⟨rfl, rfl, rfl, rfl, trivial⟩, ⟨rfl, trivial⟩⟩ ?_
  rintro ⟨l7, i6, s5⟩ ⟨hsf1, h⟩
  change Sfx l1 i6 l7 at hsf1
  change F_atom_each_Atom_l1 sg do2 l7 i6 s5 = some r at h
  change AW _ _ _ ⟨slots [(1, stA Tryz.prog kAtom do2 L), (6, rd (ksl kAtom) l1), (7, rd (kint .i64) (l1.length : Int)), (8, rd (kint .i64) (i6 : Int))], ress [(0, L s5)], _⟩
  cases l7 with
  | nil =>
    unfold F_atom_each_Atom_l1 at h
    refine SR <| Ac (op_lss rfl rfl (vt rfl) (vt rfl)) rfl <| Nl <| AW.seq <| Cn rfl (fun hc => absurd (of_decide_eq_true hc) hsf1.nil) (fun hc => ?_)
    refine AW.exit ?_
    obtain rfl := si h
    exact ret0Y (i := 0) Tryz.results107 rfl rfl
  | cons x8 l7 =>
    unfold F_atom_each_Atom_l1 at h
    generalize hgo1 : F_atom_each_Atom_l1 sg do2 l7 = go1 at h
    refine SR <| Ac (op_lss rfl rfl (vt rfl) (vt rfl)) rfl <| Nl <| AW.seq <| Cn rfl (fun hc => ?_) (fun hc => absurd hsf1.cons (of_decide_eq_false hc))
    have hlti6 := of_decide_eq_true hc
    refine AW.skip <| AW.seq <| AW.block <| SR <| Ac (op_indexs' rfl rfl sl88 (vt rfl) (vt rfl) hsf1.lget) rfl <| Lp1 ty126 rfl <| Ct rfl (op_alloc 6 rfl rfl zr126) ?_
    rintro _ ⟨g9, rfl⟩
    refine Sto ty126 6 rfl <| Nl ?_
    obtain ⟨s10, hs10, h⟩ := bsome h
    refine Rg <| Ac (op_move (A := stA Tryz.prog kAtom do2 L) rfl rfl (vt rfl)) rfl <| Ld ty126 6 rfl <| Ac (op_callst 0 hs10 rfl rfl (vt rfl) (vt rfl) rfl) rfl <| Nl <| Rg <| Ac (op_incr (t := 7) rfl rfl (vt rfl) (vk rfl) (vt rfl) hlti6) rfl <| Md rfl <| Nl ?_
    subst hgo1
    exact ⟨(l7, i6 + 1, s10), Nat.lt_succ_self _, ⟨hsf1.next, h⟩, ⟨rfl, ⟨rfl, rfl, rfl, rfl, trivial⟩, ⟨rfl, trivial⟩⟩⟩
def F_atom_Out (l1 : (List Group)) (e2 : Env) (a3 : (List Atom)) (h4 : (Vector Wide 24)) : Option (List Out) :=
  (F_atom_each_Atom a3 (List Out) (fun s x => F_atom_Out_1 x h4 s l1 e2) []).bind fun b9 => some b9
theorem c_atom_Out (l1 : (List Group)) (e2 : Env) (a3 : (List Atom)) (h4 : (Vector Wide 24)) (r : (List Out)) (h : F_atom_Out l1 e2 a3 h4 = some r) : PCon Tryz.prog 51 [rd (ksl kGroup) l1, rd kEnv e2, rd (ksl kAtom) a3, rd (karr 24 kWide) h4] (rd (ksl kOut) r) := by
  refine PCon.of (Con.intro0 Tryz.func51 rfl Tryz.ntmps51 rfl fun w H => ?_)
  unfold F_atom_Out at h
  refine SR <| Ct rfl (op_box 5 rfl rfl (vt rfl)) ?_
  rintro _ ⟨g5, rfl⟩
  refine Ct rfl (op_box 6 rfl rfl (vt rfl)) ?_
  rintro _ ⟨g6, rfl⟩
  refine Ct rfl (op_box 8 rfl rfl (vt rfl)) ?_
  rintro _ ⟨g7, rfl⟩
  refine Ac (op_assign (A := rd (ksl kOut) []) rfl rfl vnil) rfl <| Nl <| AW.seq <| AW.newnil 2219 71 kOut <| Rg <| Ct rfl (op_alloc 10 rfl rfl zrr46) ?_
  rintro _ ⟨g8, rfl⟩
  refine Nl <| AW.seq <| AW.freezeB 7 8 rfl rfl rfl <| AW.freezeB 4 5 rfl rfl rfl <| AW.freezeB 5 6 rfl rfl rfl ?_
  obtain ⟨b9, hb9, h⟩ := bsome h
  refine Rg <| Md rfl <| Ac (op_st (fs := []) (cs := [.tmp 7, .tmp 9, .tmp 4, .tmp 5]) (FAs := []) (CAs := [rp (karr 24 kWide) h4, ptrL g8 (Lens.id kraw), rp (ksl kGroup) l1, rp kEnv e2]) (k := kAtom) (fun s x => F_atom_Out_1 x h4 s l1 e2) (fun (s : (List Out)) => BoxF g8 46 kraw (fun v => v) 71 kOut s) rfl rfl e108 trivial ⟨vt rfl, vt rfl, vt rfl, vt rfl, trivial⟩ (fun s x s2 h => c_atom_Out_1 _ _ x h4 s l1 e2 s2 h)) rfl <| AOps.packF 10 2219 (fun v => v) (by decide) rfl rfl <| Ct rfl (op_callR 10 (xs := [.tmp 10, .tmp 11]) (c_atom_each_Atom _ (List Out) _ (fun (s : (List Out)) => BoxF g8 46 kraw (fun v => v) 71 kOut s) _ _ hb9) e107 rfl rfl ⟨vt rfl, vt rfl, trivial⟩ rfl) ?_
  rintro _ ⟨_u, rfl⟩
  refine AOps.unboxF 10 2219 (by decide) rfl rfl fun v10 => Nl <| SR <| Ac (op_loadv v10 rfl rfl tyr46 (vt rfl) (i := 10) rfl rfl) rfl <| Aw rfl <| Nl <| AW.freezes [8, 13] 2219 rfl ⟨rfl, rfl, trivial⟩ rfl <| AW.ret ?_
  obtain rfl := si h
  exact ret1 Tryz.results51 rfl (out_tmp rfl)
def F_slices_Equal_Out_l1 (s11 : (List Out)) (s22 : (List Out)) : Nat → Nat → Option Bool
  | 0, i3 => some true
  | m4 + 1, i3 => (lget s11 (i3 : Int)).bind fun e5 => (lget s22 (i3 : Int)).bind fun e6 => (bif (decide (e5 ≠ e6)) then some false else (F_slices_Equal_Out_l1 s11 s22 m4) (i3 + 1))
def F_slices_Equal_Out (s11 : (List Out)) (s22 : (List Out)) : Option Bool :=
  (bif (decide ((s11.length : Int) ≠ (s22.length : Int))) then some false else F_slices_Equal_Out_l1 s11 s22 ((s11.length : Int) : Int).toNat 0)
theorem c_slices_Equal_Out (s11 : (List Out)) (s22 : (List Out)) (r : Bool) (h : F_slices_Equal_Out s11 s22 = some r) : PCon Tryz.prog 94 [rd (ksl kOut) s11, rd (ksl kOut) s22] (rd kbool r) := by
  refine PCon.of (Con.intro0 Tryz.func94 rfl Tryz.ntmps94 rfl fun w H => ?_)
  unfold F_slices_Equal_Out at h
  refine SR <| Ab rfl <| Nl <| AW.seq <| SR <| Md rfl <| Ac (op_len' rfl rfl sl46 (vt rfl)) rfl <| Md rfl <| Ac (op_len' rfl rfl sl46 (vt rfl)) rfl <| Ac (op_neq rfl rfl (vt rfl) (vt rfl)) rfl <| Nl <| Cn rfl (fun hc => ?_) (fun hc => ?_)
  · have h := cond_t hc h
    refine SR <| Ab rfl <| Nl <| AW.ret ?_
    obtain rfl := si h
    exact ret1 Tryz.results94 rfl (out_tmp rfl)
  · have h := cond_f hc h
    refine AW.skip <| AW.seq <| SR <| Md rfl <| Ac (op_len' rfl rfl sl46 (vt rfl)) rfl <| Mk rfl <| Nl <| AW.block <| AW.loopG (d := []) (ν := Nat × Nat) (fun n => Cnt (s11.length : Int) n.2 n.1 ∧ F_slices_Equal_Out_l1 s11 s22 n.1 n.2 = some r) (fun n => n.1) (fun n => [(0, rd (ksl kOut) s11), (1, rd (ksl kOut) s22), (12, rd (kint .i64) (s11.length : Int)), (13, rd (kint .i64) (n.2 : Int))]) (fun n => []) (((s11.length : Int) : Int).toNat, 0) ⟨Cnt.start _, h⟩ ⟨rfl, ⟨rfl, rfl, rfl, rfl, trivial⟩, trivial⟩ ?_
    rintro ⟨m4, i3⟩ ⟨hsf1, h⟩
    change Cnt (s11.length : Int) i3 m4 at hsf1
    change F_slices_Equal_Out_l1 s11 s22 m4 i3 = some r at h
    change AW _ _ _ ⟨slots [(0, rd (ksl kOut) s11), (1, rd (ksl kOut) s22), (12, rd (kint .i64) (s11.length : Int)), (13, rd (kint .i64) (i3 : Int))], ress [], _⟩
    cases m4 with
    | zero =>
      unfold F_slices_Equal_Out_l1 at h
      refine SR <| Ac (op_lss rfl rfl (vt rfl) (vt rfl)) rfl <| Nl <| AW.seq <| Cn rfl (fun hc => absurd (of_decide_eq_true hc) hsf1.zero) (fun hc => ?_)
      refine AW.exit <| SR <| Ab rfl <| Nl <| AW.ret ?_
      obtain rfl := si h
      exact ret1 Tryz.results94 rfl (out_tmp rfl)
    | succ m4 =>
      unfold F_slices_Equal_Out_l1 at h
      generalize hgo1 : F_slices_Equal_Out_l1 s11 s22 m4 = go1 at h
      refine SR <| Ac (op_lss rfl rfl (vt rfl) (vt rfl)) rfl <| Nl <| AW.seq <| Cn rfl (fun hc => ?_) (fun hc => absurd hsf1.succ (of_decide_eq_false hc))
      have hlti3 := of_decide_eq_true hc
      refine AW.skip <| AW.seq <| AW.block <| SR <| Md rfl <| As rfl <| Nl <| AW.seq ?_
      obtain ⟨e5, he5, h⟩ := bsome h
      obtain ⟨e6, he6, h⟩ := bsome h
      refine AW.regionAny [⟨[0], [16], [], []⟩, ⟨[5], [17], [], []⟩, ⟨[16, 17], [18], [], []⟩, ⟨[18], [19], [], []⟩, ⟨[1], [20], [], []⟩, ⟨[5], [21], [], []⟩, ⟨[20, 21], [22], [], []⟩, ⟨[22], [23], [], []⟩, ⟨[19, 23], [24], [], []⟩] mixed (by kernel_rfl) <| SMd rfl <| SMd rfl <| Sc (lo [16, 17] [] rfl fun S hs hr => op_indexs' rfl rfl sl46 (vh hs 16 rfl rfl) (vh hs 17 rfl rfl) he5) rfl <| SLp ty71 rfl <| SMd rfl <| SMd rfl <| Sc (lo [20, 21] [] rfl fun S hs hr => op_indexs' rfl rfl sl46 (vh hs 20 rfl rfl) (vh hs 21 rfl rfl) he6) rfl <| SLp ty71 rfl <| Sc (lo [19, 23] [] rfl fun S hs hr => op_neqk rfl rfl eqk71 (by decide) rfl eg71 (vh hs 19 rfl rfl) (vh hs 23 rfl rfl)) rfl <| Cn rfl (fun hc => ?_) (fun hc => ?_)
      · have h := cond_t hc h
        refine SR <| Ab rfl <| Nl <| AW.ret ?_
        obtain rfl := si h
        exact ret1 Tryz.results94 rfl (out_tmp rfl)
      · have h := cond_f hc h
        refine AW.skip <| Rg <| Ac (op_incr (t := 12) rfl rfl (vt rfl) (vk rfl) (vt rfl) hlti3) rfl <| Md rfl <| Nl ?_
        subst hgo1
        exact ⟨(m4, i3 + 1), Nat.lt_succ_self _, ⟨hsf1.next, h⟩, ⟨rfl, ⟨rfl, rfl, rfl, rfl, trivial⟩, trivial⟩⟩
def F_exec_Same (a1 : (List Out)) (b2 : (List Out)) : Option Bool :=
  (F_slices_Equal_Out a1 b2).bind fun x3 => some x3
theorem c_exec_Same (a1 : (List Out)) (b2 : (List Out)) (r : Bool) (h : F_exec_Same a1 b2 = some r) : PCon Tryz.prog 38 [rd (ksl kOut) a1, rd (ksl kOut) b2] (rd kbool r) := by
  refine PCon.of (Con.intro0 Tryz.func38 rfl Tryz.ntmps38 rfl fun w H => ?_)
  unfold F_exec_Same at h
  refine SR <| Ab rfl <| Nl <| AW.seq ?_
  obtain ⟨x3, hx3, h⟩ := bsome h
  refine Rg <| Md rfl <| Md rfl <| Cl [5, 6] (c_slices_Equal_Out _ _ _ hx3) e94 rfl <| As rfl <| Nl <| AW.ret ?_
  obtain rfl := si h
  exact ret1 Tryz.results38 rfl (out_tmp rfl)
def F_l33_WalkFirst (s1 : Switch) (e2 : Env) (h3 : (Vector Wide 24)) : Option Bool :=
  (F_pl_Switch s1 5).bind fun x7 => (bif ((!x7) || (decide ((e2.Down.length : Int) > 20))) then (F_l33_awake).bind fun x8 => some x8 else (F_walk_List s1).bind fun x9 => (F_slices_IndexFunc_Rule x9 (fun x => F_l33_WalkFirst_1 x h3)).bind fun x10 => (opt (decide (x10 ≥ 0)) (lget x9 x10)).bind fun e11 => (opt (decide (x10 ≥ 0)) (F_atom_Out s1.Groups e2 e11.Atoms h3)).bind fun x12 => (opt (decide (x10 ≥ 0)) (F_sem_Out s1 e2 h3)).bind fun x13 => (opt (decide (x10 ≥ 0)) (F_exec_Same x12 x13)).bind fun x14 => (opt ((decide (x10 ≥ 0)) && x14) (F_l33_awake)).bind fun x15 => some (((decide (x10 ≥ 0)) && x14) && x15))
theorem c_l33_WalkFirst (s1 : Switch) (e2 : Env) (h3 : (Vector Wide 24)) (r : Bool) (h : F_l33_WalkFirst s1 e2 h3 = some r) : PCon Tryz.prog 10 [rd kSwitch s1, rd kEnv e2, rd (karr 24 kWide) h3] (rd kbool r) := by
  refine PCon.of (Con.intro0 Tryz.func10 rfl Tryz.ntmps10 rfl fun w H => ?_)
  unfold F_l33_WalkFirst at h
  refine SR <| Ct rfl (op_box 4 rfl rfl (vt rfl)) ?_
  rintro _ ⟨g4, rfl⟩
  refine Ct rfl (op_box 5 rfl rfl (vt rfl)) ?_
  rintro _ ⟨g5, rfl⟩
  refine Ct rfl (op_box 6 rfl rfl (vt rfl)) ?_
  rintro _ ⟨g6, rfl⟩
  refine Ab rfl <| Nl <| AW.seq <| AW.seq ?_
  obtain ⟨x7, hx7, h⟩ := bsome h
  refine Rg <| Ld ty26 4 rfl <| Ac (op_call (xs := [.tmp 9, .const (Value.int IntKind.i64 5)]) (c_pl_Switch _ _ _ hx7) e21 rfl rfl ⟨vt rfl, vk rfl, trivial⟩) rfl <| Ac (op_not rfl rfl (vt rfl)) rfl <| Md rfl <| Gd rfl (fun hq => op_field lEnv_1 rfl rfl fl39_1 (vt rfl)) <| Gd rfl (fun hq => op_load rfl rfl ty37 (vgt rfl hq) (i := 5) rfl) <| Gd rfl (fun hq => op_len' rfl rfl sl37 (vgt rfl hq)) <| Gd rfl (fun hq => op_gtr rfl rfl (vgt rfl hq) (vk rfl)) <| Ac (op_any rfl rfl (vt rfl) (vt rfl)) rfl <| Nl <| Cn rfl (fun hc => ?_) (fun hc => ?_)
  · have h := cond_t hc h
    refine AW.seq ?_
    obtain ⟨x8, hx8, h⟩ := bsome h
    refine Rg <| Cl [] (c_l33_awake _ hx8) e20 rfl <| As rfl <| Nl <| AW.ret ?_
    obtain rfl := si h
    exact ret1 Tryz.results10 rfl (out_tmp rfl)
  · have h := cond_f hc h
    refine AW.skip <| AW.seq ?_
    obtain ⟨x9, hx9, h⟩ := bsome h
    refine Rg <| Ld ty26 4 rfl <| Cl [19] (c_walk_List _ _ hx9) e25 rfl <| As rfl <| Nl <| AW.seq <| AW.freezeB 5 6 rfl rfl rfl ?_
    obtain ⟨x10, hx10, h⟩ := bsome h
    refine Rg <| Md rfl <| Ac (op_fn1 (cs := [.tmp 5]) (CAs := [rp (karr 24 kWide) h3]) (fun x => F_l33_WalkFirst_1 x h3) rfl rfl e49 ⟨vt rfl, trivial⟩ (fun x y h => c_l33_WalkFirst_1 _ _ y h)) rfl <| Cl [21, 22] (c_slices_IndexFunc_Rule _ _ _ hx10) e48 rfl <| As rfl <| Nl <| AW.seq ?_
    obtain ⟨e11, he11, h⟩ := bsome h
    obtain ⟨x12, hx12, h⟩ := bsome h
    obtain ⟨x13, hx13, h⟩ := bsome h
    obtain ⟨x14, hx14, h⟩ := bsome h
    obtain ⟨x15, hx15, h⟩ := bsome h
    refine AW.regionAny [⟨[8], [24], [], []⟩, ⟨[24], [25], [], []⟩, ⟨[25], [26], [], []⟩, ⟨[3, 26], [27], [], []⟩, ⟨[27, 26], [28], [4], []⟩, ⟨[4, 26], [29], [5], []⟩, ⟨[7, 26], [30], [], []⟩, ⟨[8, 26], [31], [], []⟩, ⟨[30, 31, 26], [32], [], []⟩, ⟨[32, 26], [33], [], []⟩, ⟨[33, 26], [34], [], []⟩, ⟨[5, 26], [35], [], []⟩, ⟨[28, 29, 34, 35, 26], [36], [], []⟩, ⟨[3, 26], [37], [4], []⟩, ⟨[4, 26], [38], [5], []⟩, ⟨[5, 26], [39], [], []⟩, ⟨[37, 38, 39, 26], [40], [], []⟩, ⟨[36, 40, 26], [41], [], []⟩, ⟨[41, 26], [42], [], []⟩, ⟨[42], [43], [], []⟩, ⟨[43], [44], [], []⟩, ⟨[44, 43], [45], [], []⟩, ⟨[45], [6], [], []⟩] mixed (by kernel_rfl) <| SMd rfl <| Sc (lo [24] [] rfl fun S hs hr => op_geq rfl rfl (vh hs 24 rfl rfl) (vk rfl)) rfl <| SMd rfl <| Sc (lg [3, 26] [] rfl fun hq S hs hr => op_field lSwitch_1 rfl rfl fl26_1 (vh hs 3 rfl rfl)) rfl <| Sc (lg [27, 26] [4] rfl fun hq S hs hr => op_load rfl rfl ty24 (vgt ((hs 27 rfl).trans rfl) hq) (i := 4) ((hr 4 rfl).trans rfl)) rfl <| Sc (lg [4, 26] [5] rfl fun hq S hs hr => op_load rfl rfl ty39 (vh hs 4 rfl rfl) (i := 5) ((hr 5 rfl).trans rfl)) rfl <| Sc (lg [7, 26] [] rfl fun hq S hs hr => op_move (A := rd (ksl kRule) x9) rfl rfl (vh hs 7 rfl rfl)) rfl <| Sc (lg [8, 26] [] rfl fun hq S hs hr => op_move (A := rd (kint .i64) x10) rfl rfl (vh hs 8 rfl rfl)) rfl <| Sc (lg [30, 31, 26] [] rfl fun hq S hs hr => op_indexs' rfl rfl sl32 (vgt ((hs 30 rfl).trans rfl) hq) (vgt ((hs 31 rfl).trans rfl) hq) (opt_t he11 hq)) rfl <| Sc (lg [32, 26] [] rfl fun hq S hs hr => op_fieldp lRule_1 rfl rfl fl90_1 (vgt ((hs 32 rfl).trans rfl) hq)) rfl <| Sc (lg [33, 26] [] rfl fun hq S hs hr => op_loadp rfl rfl ty88 (vgt ((hs 33 rfl).trans rfl) hq)) rfl <| Sc (lg [5, 26] [] rfl fun hq S hs hr => op_loadp rfl rfl ty44 (vh hs 5 rfl rfl)) rfl <| Sc (lg [28, 29, 34, 35, 26] [] rfl fun hq S hs hr => op_call (xs := [.tmp 28, .tmp 29, .tmp 34, .tmp 35]) (c_atom_Out _ _ _ _ _ (opt_t hx12 hq)) e51 rfl rfl ⟨vgt ((hs 28 rfl).trans rfl) hq, vgt ((hs 29 rfl).trans rfl) hq, vgt ((hs 34 rfl).trans rfl) hq, vgt ((hs 35 rfl).trans rfl) hq, trivial⟩) rfl <| Sc (lg [3, 26] [4] rfl fun hq S hs hr => op_load rfl rfl ty26 (vh hs 3 rfl rfl) (i := 4) ((hr 4 rfl).trans rfl)) rfl <| Sc (lg [4, 26] [5] rfl fun hq S hs hr => op_load rfl rfl ty39 (vh hs 4 rfl rfl) (i := 5) ((hr 5 rfl).trans rfl)) rfl <| Sc (lg [5, 26] [] rfl fun hq S hs hr => op_loadp rfl rfl ty44 (vh hs 5 rfl rfl)) rfl <| Sc (lg [37, 38, 39, 26] [] rfl fun hq S hs hr => op_call (xs := [.tmp 37, .tmp 38, .tmp 39]) (c_sem_Out _ _ _ _ (opt_t hx13 hq)) e29 rfl rfl ⟨vgt ((hs 37 rfl).trans rfl) hq, vgt ((hs 38 rfl).trans rfl) hq, vgt ((hs 39 rfl).trans rfl) hq, trivial⟩) rfl <| Sc (lg [36, 40, 26] [] rfl fun hq S hs hr => op_call (xs := [.tmp 36, .tmp 40]) (c_exec_Same _ _ _ (opt_t hx14 hq)) e38 rfl rfl ⟨vgt ((hs 36 rfl).trans rfl) hq, vgt ((hs 40 rfl).trans rfl) hq, trivial⟩) rfl <| Sc (lo [41, 26] [] rfl fun S hs hr => op_all rfl rfl (vh hs 26 rfl rfl) (vh hs 41 rfl rfl)) rfl ?_
    refine SMd rfl <| Sc (lg [43] [] rfl fun hq S hs hr => op_call (xs := []) (c_l33_awake _ (opt_t hx15 hq)) e20 rfl rfl trivial) rfl <| Sc (lo [44, 43] [] rfl fun S hs hr => op_all rfl rfl (vh hs 43 rfl rfl) (vh hs 44 rfl rfl)) rfl <| SAs rfl <| AW.ret ?_
    obtain rfl := si h
    exact ret1 Tryz.results10 rfl (out_tmp rfl)
end Go.Proofs.YtknpgojdkobgjaaGreat.W
