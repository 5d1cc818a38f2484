/- A part of the proof. -/
import Derived.Test.YtokmmcflinnfiabGreatG0
set_option linter.unusedVariables false
set_option maxRecDepth 4000
set_option linter.unusedSimpArgs false
namespace Go.Proofs.YtokmmcflinnfiabGreat.W
open Go Go.Wb
def F_tern_Has (t1 : Tern) (v2 : Wide) : Option Bool :=
  (F_tern_unlike t1.Value v2 t1.Mask).bind fun x5 => (F_wide_Zero x5).bind fun x6 => some x6
theorem c_tern_Has (t1 : Tern) (v2 : Wide) (r : Bool) (h : F_tern_Has t1 v2 = some r) : PCon Tryz.prog 77 [rd kTern t1, rd kWide v2] (rd kbool r) := by
  refine PCon.of (Con.intro0 Tryz.func77 rfl Tryz.ntmps77 rfl fun w H => ?_)
  unfold F_tern_Has at h
  refine AW.seq ?_
  refine AW.region ?_
  refine AOps.consT rfl (op_box 3 rfl rfl (vt rfl)) ?_
  rintro _ ⟨g3, rfl⟩
  refine AOps.consT rfl (op_box 4 rfl rfl (vt rfl)) ?_
  rintro _ ⟨g4, rfl⟩
  refine AOps.cons (op_assign (A := rd kbool false) rfl rfl vb) rfl ?_
  refine AOps.nil ?_
  refine AW.seq ?_
  obtain ⟨x5, hx5, h⟩ := bsome h
  obtain ⟨x6, hx6, h⟩ := bsome h
  refine AW.region ?_
  refine AOps.cons (op_field lTern_0 rfl rfl fl36_0 (vt rfl)) rfl ?_
  refine AOps.cons (op_load rfl rfl ty34 (vt rfl) (i := 3) rfl) rfl ?_
  refine AOps.cons (op_load rfl rfl ty34 (vt rfl) (i := 4) rfl) rfl ?_
  refine AOps.cons (op_field lTern_1 rfl rfl fl36_1 (vt rfl)) rfl ?_
  refine AOps.cons (op_load rfl rfl ty34 (vt rfl) (i := 3) rfl) rfl ?_
  refine AOps.cons (op_call (xs := [.tmp 6, .tmp 7, .tmp 9]) (c_tern_unlike _ _ _ _ hx5) (Ent.mk Tryz.func90 rfl rfl) rfl rfl ⟨vt rfl, vt rfl, vt rfl, trivial⟩) rfl ?_
  refine AOps.cons (op_call (xs := [.tmp 10]) (c_wide_Zero _ _ hx6) (Ent.mk Tryz.func89 rfl rfl) rfl rfl ⟨vt rfl, trivial⟩) rfl ?_
  refine AOps.cons (op_assign (A := rd kbool x6) rfl rfl (vt rfl)) rfl ?_
  refine AOps.nil ?_
  refine AW.ret ?_
  obtain rfl := Option.some.inj h
  exact ret1 Tryz.results77 rfl (out_tmp rfl)
def F_wide_Or (a1 : Wide) (b2 : Wide) : Option Wide :=
  some (⟨(a1.Hi ||| b2.Hi), (a1.Lo ||| b2.Lo)⟩ : Wide)
theorem c_wide_Or (a1 : Wide) (b2 : Wide) (r : Wide) (h : F_wide_Or a1 b2 = some r) : PCon Tryz.prog 79 [rd kWide a1, rd kWide b2] (rd kWide r) := by
  refine PCon.of (Con.intro0 Tryz.func79 rfl Tryz.ntmps79 rfl fun w H => ?_)
  unfold F_wide_Or at h
  refine AW.seq ?_
  refine AW.region ?_
  refine AOps.consT rfl (op_box 3 rfl rfl (vt rfl)) ?_
  rintro _ ⟨g3, rfl⟩
  refine AOps.consT rfl (op_box 4 rfl rfl (vt rfl)) ?_
  rintro _ ⟨g4, rfl⟩
  refine AOps.consT rfl (op_alloc 5 rfl rfl zr34) ?_
  rintro _ ⟨g5, rfl⟩
  refine AOps.nil ?_
  refine AW.seq ?_
  refine AW.region ?_
  refine AOps.cons (op_field lWide_0 rfl rfl fl34_0 (vt rfl)) rfl ?_
  refine AOps.cons (op_load rfl rfl ty32 (vt rfl) (i := 3) rfl) rfl ?_
  refine AOps.cons (op_field lWide_0 rfl rfl fl34_0 (vt rfl)) rfl ?_
  refine AOps.cons (op_load rfl rfl ty32 (vt rfl) (i := 4) rfl) rfl ?_
  refine AOps.cons (op_or rfl rfl (vt rfl) (vt rfl)) rfl ?_
  refine AOps.cons (op_field lWide_1 rfl rfl fl34_1 (vt rfl)) rfl ?_
  refine AOps.cons (op_load rfl rfl ty32 (vt rfl) (i := 3) rfl) rfl ?_
  refine AOps.cons (op_field lWide_1 rfl rfl fl34_1 (vt rfl)) rfl ?_
  refine AOps.cons (op_load rfl rfl ty32 (vt rfl) (i := 4) rfl) rfl ?_
  refine AOps.cons (op_or rfl rfl (vt rfl) (vt rfl)) rfl ?_
  refine AOps.cons (op_build (ps := [(0, .tmp 9), (1, .tmp 14)]) (x := (⟨(a1.Hi ||| b2.Hi), (a1.Lo ||| b2.Lo)⟩ : Wide)) rfl rfl rfl (by kernel_rfl) zr34 ⟨_, _, lWide_0, _, by kernel_rfl, (vt rfl), _, _, lWide_1, _, by kernel_rfl, (vt rfl), rfl⟩) rfl ?_
  refine AOps.cons (op_store rfl rfl ty34 (vt rfl) (i := 5) rfl (vt rfl)) rfl ?_
  refine AOps.nil ?_
  refine AW.ret ?_
  obtain rfl := Option.some.inj h
  exact ret1 Tryz.results79 rfl (out_cell rfl (i := 5) rfl ty34)
def F_tern_Meet (a1 : Tern) (b2 : Tern) : Option (Tern × Bool) :=
  (F_wide_And a1.Mask b2.Mask).bind fun x6 => (F_tern_Has (⟨a1.Value, x6⟩ : Tern) b2.Value).bind fun x7 => (bif (!x7) then some ((⟨zWide, zWide⟩ : Tern), false) else (F_tern_Clean a1).bind fun x8 => (F_tern_Clean b2).bind fun x9 => (F_wide_Or x8.Value x9.Value).bind fun x10 => (F_wide_Or x8.Mask x9.Mask).bind fun x11 => some ((⟨x10, x11⟩ : Tern), true))
theorem c_tern_Meet (a1 : Tern) (b2 : Tern) (r : (Tern × Bool)) (h : F_tern_Meet a1 b2 = some r) : PCon Tryz.prog 49 [rd kTern a1, rd kTern b2] (tup2 (rd kTern r.1) (rd kbool r.2)) := by
  refine PCon.of (Con.intro0 Tryz.func49 rfl Tryz.ntmps49 rfl fun w H => ?_)
  unfold F_tern_Meet at h
  refine AW.seq ?_
  refine AW.region ?_
  refine AOps.consT rfl (op_box 3 rfl rfl (vt rfl)) ?_
  rintro _ ⟨g3, rfl⟩
  refine AOps.consT rfl (op_box 4 rfl rfl (vt rfl)) ?_
  rintro _ ⟨g4, rfl⟩
  refine AOps.consT rfl (op_alloc 5 rfl rfl zr36) ?_
  rintro _ ⟨g5, rfl⟩
  refine AOps.cons (op_assign (A := rd kbool false) rfl rfl vb) rfl ?_
  refine AOps.nil ?_
  refine AW.seq ?_
  refine AW.seq ?_
  obtain ⟨x6, hx6, h⟩ := bsome h
  obtain ⟨x7, hx7, h⟩ := bsome h
  refine AW.regionAny [⟨[2], [6], [], []⟩, ⟨[6], [7], [3], []⟩, ⟨[2], [8], [], []⟩, ⟨[8], [9], [3], []⟩, ⟨[3], [10], [], []⟩, ⟨[10], [11], [4], []⟩, ⟨[9, 11], [12], [], []⟩, ⟨[7, 12], [13], [], []⟩, ⟨[3], [14], [], []⟩, ⟨[14], [15], [4], []⟩, ⟨[13, 15], [16], [], []⟩, ⟨[16], [17], [], []⟩] mixed (by kernel_rfl) ?_
  refine SeqA.cons (loc [2] [] rfl rfl fun S hs hr => op_field lTern_0 rfl rfl fl36_0 (vt ((hs 2 rfl).trans rfl))) ⟨rfl, rfl, rfl, rfl⟩ ?_
  refine SeqA.cons (loc [6] [3] rfl rfl fun S hs hr => op_load rfl rfl ty34 (vt ((hs 6 rfl).trans rfl)) (i := 3) ((hr 3 rfl).trans rfl)) ⟨rfl, rfl, rfl, rfl⟩ ?_
  refine SeqA.cons (loc [2] [] rfl rfl fun S hs hr => op_field lTern_1 rfl rfl fl36_1 (vt ((hs 2 rfl).trans rfl))) ⟨rfl, rfl, rfl, rfl⟩ ?_
  refine SeqA.cons (loc [8] [3] rfl rfl fun S hs hr => op_load rfl rfl ty34 (vt ((hs 8 rfl).trans rfl)) (i := 3) ((hr 3 rfl).trans rfl)) ⟨rfl, rfl, rfl, rfl⟩ ?_
  refine SeqA.cons (loc [3] [] rfl rfl fun S hs hr => op_field lTern_1 rfl rfl fl36_1 (vt ((hs 3 rfl).trans rfl))) ⟨rfl, rfl, rfl, rfl⟩ ?_
  refine SeqA.cons (loc [10] [4] rfl rfl fun S hs hr => op_load rfl rfl ty34 (vt ((hs 10 rfl).trans rfl)) (i := 4) ((hr 4 rfl).trans rfl)) ⟨rfl, rfl, rfl, rfl⟩ ?_
  refine SeqA.cons (loc [9, 11] [] rfl rfl fun S hs hr => op_call (xs := [.tmp 9, .tmp 11]) (c_wide_And _ _ _ hx6) (Ent.mk Tryz.func78 rfl rfl) rfl rfl ⟨vt ((hs 9 rfl).trans rfl), vt ((hs 11 rfl).trans rfl), trivial⟩) ⟨rfl, rfl, rfl, rfl⟩ ?_
  refine SeqA.cons (loc [7, 12] [] rfl rfl fun S hs hr => op_build (ps := [(0, .tmp 7), (1, .tmp 12)]) (x := (⟨a1.Value, x6⟩ : Tern)) rfl rfl rfl (by kernel_rfl) zr36 ⟨_, _, lTern_0, _, by kernel_rfl, (vt ((hs 7 rfl).trans rfl)), _, _, lTern_1, _, by kernel_rfl, (vt ((hs 12 rfl).trans rfl)), rfl⟩) ⟨rfl, rfl, rfl, rfl⟩ ?_
  refine SeqA.cons (loc [3] [] rfl rfl fun S hs hr => op_field lTern_0 rfl rfl fl36_0 (vt ((hs 3 rfl).trans rfl))) ⟨rfl, rfl, rfl, rfl⟩ ?_
  refine SeqA.cons (loc [14] [4] rfl rfl fun S hs hr => op_load rfl rfl ty34 (vt ((hs 14 rfl).trans rfl)) (i := 4) ((hr 4 rfl).trans rfl)) ⟨rfl, rfl, rfl, rfl⟩ ?_
  refine SeqA.cons (loc [13, 15] [] rfl rfl fun S hs hr => op_call (xs := [.tmp 13, .tmp 15]) (c_tern_Has _ _ _ hx7) (Ent.mk Tryz.func77 rfl rfl) rfl rfl ⟨vt ((hs 13 rfl).trans rfl), vt ((hs 15 rfl).trans rfl), trivial⟩) ⟨rfl, rfl, rfl, rfl⟩ ?_
  refine SeqA.cons (loc [16] [] rfl rfl fun S hs hr => op_not rfl rfl (vt ((hs 16 rfl).trans rfl))) ⟨rfl, rfl, rfl, rfl⟩ ?_
  refine AW.cond (vt rfl) (fun hc => ?_) (fun hc => ?_)
  · have h := cond_t hc h
    refine AW.seq ?_
    refine AW.region ?_
    refine AOps.cons (op_build (ps := []) (x := (⟨zWide, zWide⟩ : Tern)) rfl rfl rfl (by kernel_rfl) zr36 rfl) rfl ?_
    refine AOps.cons (op_store rfl rfl ty36 (vt rfl) (i := 5) rfl (vt rfl)) rfl ?_
    refine AOps.cons (op_assign (A := rd kbool false) rfl rfl vb) rfl ?_
    refine AOps.nil ?_
    refine AW.ret ?_
    obtain rfl := Option.some.inj h
    exact ret2 Tryz.results49 rfl (out_cell rfl (i := 5) rfl ty36) (out_tmp rfl)
  · have h := cond_f hc h
    refine AW.skip ?_
    refine AW.seq ?_
    obtain ⟨x8, hx8, h⟩ := bsome h
    obtain ⟨x9, hx9, h⟩ := bsome h
    refine AW.regionAny [⟨[2], [19], [3], []⟩, ⟨[19], [20], [], []⟩, ⟨[3], [21], [4], []⟩, ⟨[21], [22], [], []⟩, ⟨[2, 20], [], [3], [3]⟩, ⟨[3, 22], [], [4], [4]⟩] mixed (by kernel_rfl) ?_
    refine SeqA.cons (loc [2] [3] rfl rfl fun S hs hr => op_load rfl rfl ty36 (vt ((hs 2 rfl).trans rfl)) (i := 3) ((hr 3 rfl).trans rfl)) ⟨rfl, rfl, rfl, rfl⟩ ?_
    refine SeqA.cons (loc [19] [] rfl rfl fun S hs hr => op_call (xs := [.tmp 19]) (c_tern_Clean _ _ hx8) (Ent.mk Tryz.func52 rfl rfl) rfl rfl ⟨vt ((hs 19 rfl).trans rfl), trivial⟩) ⟨rfl, rfl, rfl, rfl⟩ ?_
    refine SeqA.cons (loc [3] [4] rfl rfl fun S hs hr => op_load rfl rfl ty36 (vt ((hs 3 rfl).trans rfl)) (i := 4) ((hr 4 rfl).trans rfl)) ⟨rfl, rfl, rfl, rfl⟩ ?_
    refine SeqA.cons (loc [21] [] rfl rfl fun S hs hr => op_call (xs := [.tmp 21]) (c_tern_Clean _ _ hx9) (Ent.mk Tryz.func52 rfl rfl) rfl rfl ⟨vt ((hs 21 rfl).trans rfl), trivial⟩) ⟨rfl, rfl, rfl, rfl⟩ ?_
    refine SeqA.cons (locr [2, 20] [3] rfl fun S hs hr => op_store rfl rfl ty36 (vt ((hs 2 rfl).trans rfl)) (i := 3) ((hr 3 rfl).trans rfl) (vt ((hs 20 rfl).trans rfl))) ⟨rfl, rfl, rfl, rfl⟩ ?_
    refine SeqA.cons (locr [3, 22] [4] rfl fun S hs hr => op_store rfl rfl ty36 (vt ((hs 3 rfl).trans rfl)) (i := 4) ((hr 4 rfl).trans rfl) (vt ((hs 22 rfl).trans rfl))) ⟨rfl, rfl, rfl, rfl⟩ ?_
    refine AW.seq ?_
    obtain ⟨x10, hx10, h⟩ := bsome h
    obtain ⟨x11, hx11, h⟩ := bsome h
    refine AW.regionAny [⟨[2], [23], [], []⟩, ⟨[23], [24], [3], []⟩, ⟨[3], [25], [], []⟩, ⟨[25], [26], [4], []⟩, ⟨[24, 26], [27], [], []⟩, ⟨[2], [28], [], []⟩, ⟨[28], [29], [3], []⟩, ⟨[3], [30], [], []⟩, ⟨[30], [31], [4], []⟩, ⟨[29, 31], [32], [], []⟩, ⟨[27, 32], [33], [], []⟩, ⟨[4, 33], [], [5], [5]⟩, ⟨[], [5], [], []⟩] mixed (by kernel_rfl) ?_
    refine SeqA.cons (loc [2] [] rfl rfl fun S hs hr => op_field lTern_0 rfl rfl fl36_0 (vt ((hs 2 rfl).trans rfl))) ⟨rfl, rfl, rfl, rfl⟩ ?_
    refine SeqA.cons (loc [23] [3] rfl rfl fun S hs hr => op_load rfl rfl ty34 (vt ((hs 23 rfl).trans rfl)) (i := 3) ((hr 3 rfl).trans rfl)) ⟨rfl, rfl, rfl, rfl⟩ ?_
    refine SeqA.cons (loc [3] [] rfl rfl fun S hs hr => op_field lTern_0 rfl rfl fl36_0 (vt ((hs 3 rfl).trans rfl))) ⟨rfl, rfl, rfl, rfl⟩ ?_
    refine SeqA.cons (loc [25] [4] rfl rfl fun S hs hr => op_load rfl rfl ty34 (vt ((hs 25 rfl).trans rfl)) (i := 4) ((hr 4 rfl).trans rfl)) ⟨rfl, rfl, rfl, rfl⟩ ?_
    refine SeqA.cons (loc [24, 26] [] rfl rfl fun S hs hr => op_call (xs := [.tmp 24, .tmp 26]) (c_wide_Or _ _ _ hx10) (Ent.mk Tryz.func79 rfl rfl) rfl rfl ⟨vt ((hs 24 rfl).trans rfl), vt ((hs 26 rfl).trans rfl), trivial⟩) ⟨rfl, rfl, rfl, rfl⟩ ?_
    refine SeqA.cons (loc [2] [] rfl rfl fun S hs hr => op_field lTern_1 rfl rfl fl36_1 (vt ((hs 2 rfl).trans rfl))) ⟨rfl, rfl, rfl, rfl⟩ ?_
    refine SeqA.cons (loc [28] [3] rfl rfl fun S hs hr => op_load rfl rfl ty34 (vt ((hs 28 rfl).trans rfl)) (i := 3) ((hr 3 rfl).trans rfl)) ⟨rfl, rfl, rfl, rfl⟩ ?_
    refine SeqA.cons (loc [3] [] rfl rfl fun S hs hr => op_field lTern_1 rfl rfl fl36_1 (vt ((hs 3 rfl).trans rfl))) ⟨rfl, rfl, rfl, rfl⟩ ?_
    refine SeqA.cons (loc [30] [4] rfl rfl fun S hs hr => op_load rfl rfl ty34 (vt ((hs 30 rfl).trans rfl)) (i := 4) ((hr 4 rfl).trans rfl)) ⟨rfl, rfl, rfl, rfl⟩ ?_
    refine SeqA.cons (loc [29, 31] [] rfl rfl fun S hs hr => op_call (xs := [.tmp 29, .tmp 31]) (c_wide_Or _ _ _ hx11) (Ent.mk Tryz.func79 rfl rfl) rfl rfl ⟨vt ((hs 29 rfl).trans rfl), vt ((hs 31 rfl).trans rfl), trivial⟩) ⟨rfl, rfl, rfl, rfl⟩ ?_
    refine SeqA.cons (loc [27, 32] [] rfl rfl fun S hs hr => op_build (ps := [(0, .tmp 27), (1, .tmp 32)]) (x := (⟨x10, x11⟩ : Tern)) rfl rfl rfl (by kernel_rfl) zr36 ⟨_, _, lTern_0, _, by kernel_rfl, (vt ((hs 27 rfl).trans rfl)), _, _, lTern_1, _, by kernel_rfl, (vt ((hs 32 rfl).trans rfl)), rfl⟩) ⟨rfl, rfl, rfl, rfl⟩ ?_
    refine SeqA.cons (locr [4, 33] [5] rfl fun S hs hr => op_store rfl rfl ty36 (vt ((hs 4 rfl).trans rfl)) (i := 5) ((hr 5 rfl).trans rfl) (vt ((hs 33 rfl).trans rfl))) ⟨rfl, rfl, rfl, rfl⟩ ?_
    refine SeqA.cons (loc [] [] rfl rfl fun S hs hr => op_assign (A := rd kbool true) rfl rfl vb) ⟨rfl, rfl, rfl, rfl⟩ ?_
    refine AW.ret ?_
    obtain rfl := Option.some.inj h
    exact ret2 Tryz.results49 rfl (out_cell rfl (i := 5) rfl ty36) (out_tmp rfl)
def F_wide_Less (a1 : Wide) (b2 : Wide) : Option Wide :=
  some (⟨(a1.Hi &&& ~~~b2.Hi), (a1.Lo &&& ~~~b2.Lo)⟩ : Wide)
theorem c_wide_Less (a1 : Wide) (b2 : Wide) (r : Wide) (h : F_wide_Less a1 b2 = some r) : PCon Tryz.prog 53 [rd kWide a1, rd kWide b2] (rd kWide r) := by
  refine PCon.of (Con.intro0 Tryz.func53 rfl Tryz.ntmps53 rfl fun w H => ?_)
  unfold F_wide_Less at h
  refine AW.seq ?_
  refine AW.region ?_
  refine AOps.consT rfl (op_box 3 rfl rfl (vt rfl)) ?_
  rintro _ ⟨g3, rfl⟩
  refine AOps.consT rfl (op_box 4 rfl rfl (vt rfl)) ?_
  rintro _ ⟨g4, rfl⟩
  refine AOps.consT rfl (op_alloc 5 rfl rfl zr34) ?_
  rintro _ ⟨g5, rfl⟩
  refine AOps.nil ?_
  refine AW.seq ?_
  refine AW.region ?_
  refine AOps.cons (op_field lWide_0 rfl rfl fl34_0 (vt rfl)) rfl ?_
  refine AOps.cons (op_load rfl rfl ty32 (vt rfl) (i := 3) rfl) rfl ?_
  refine AOps.cons (op_field lWide_0 rfl rfl fl34_0 (vt rfl)) rfl ?_
  refine AOps.cons (op_load rfl rfl ty32 (vt rfl) (i := 4) rfl) rfl ?_
  refine AOps.cons (op_andNot rfl rfl (vt rfl) (vt rfl)) rfl ?_
  refine AOps.cons (op_field lWide_1 rfl rfl fl34_1 (vt rfl)) rfl ?_
  refine AOps.cons (op_load rfl rfl ty32 (vt rfl) (i := 3) rfl) rfl ?_
  refine AOps.cons (op_field lWide_1 rfl rfl fl34_1 (vt rfl)) rfl ?_
  refine AOps.cons (op_load rfl rfl ty32 (vt rfl) (i := 4) rfl) rfl ?_
  refine AOps.cons (op_andNot rfl rfl (vt rfl) (vt rfl)) rfl ?_
  refine AOps.cons (op_build (ps := [(0, .tmp 9), (1, .tmp 14)]) (x := (⟨(a1.Hi &&& ~~~b2.Hi), (a1.Lo &&& ~~~b2.Lo)⟩ : Wide)) rfl rfl rfl (by kernel_rfl) zr34 ⟨_, _, lWide_0, _, by kernel_rfl, (vt rfl), _, _, lWide_1, _, by kernel_rfl, (vt rfl), rfl⟩) rfl ?_
  refine AOps.cons (op_store rfl rfl ty34 (vt rfl) (i := 5) rfl (vt rfl)) rfl ?_
  refine AOps.nil ?_
  refine AW.ret ?_
  obtain rfl := Option.some.inj h
  exact ret1 Tryz.results53 rfl (out_cell rfl (i := 5) rfl ty34)
def F_rewrite_Before_1 (i1 : Int) (cp2 : (Vector Tern 24)) (cp3 : (Vector Tern 24)) : Option Tern :=
  (chk 24 i1).bind fun j5 => (chk 24 i1).bind fun j6 => (chk 24 i1).bind fun j7 => (F_wide_Less ((Vector.get cp2 j6).Mask) ((Vector.get cp3 j7).Mask)).bind fun x8 => (F_tern_Clean (⟨(Vector.get cp2 j5).Value, x8⟩ : Tern)).bind fun x9 => some x9
theorem c_rewrite_Before_1 (i1 : Int) (cp2 : (Vector Tern 24)) (cp3 : (Vector Tern 24)) (r : Tern) (h : F_rewrite_Before_1 i1 cp2 cp3 = some r) : PCon Tryz.prog 51 [rd (kint .i64) i1, rp (karr 24 kTern) cp2, rp (karr 24 kTern) cp3] (rd kTern r) := by
  refine PCon.of (Con.intro0 Tryz.func51 rfl Tryz.ntmps51 rfl fun w H => ?_)
  unfold F_rewrite_Before_1 at h
  refine AW.seq ?_
  refine AW.region ?_
  refine AOps.consT rfl (op_alloc 5 rfl rfl zr36) ?_
  rintro _ ⟨g4, rfl⟩
  refine AOps.nil ?_
  refine AW.seq ?_
  obtain ⟨j5, hj5, h⟩ := bsome h
  obtain ⟨j6, hj6, h⟩ := bsome h
  obtain ⟨j7, hj7, h⟩ := bsome h
  obtain ⟨x8, hx8, h⟩ := bsome h
  obtain ⟨x9, hx9, h⟩ := bsome h
  refine AW.regionAny [⟨[0], [5], [], []⟩, ⟨[1, 5], [6], [], []⟩, ⟨[6], [7], [], []⟩, ⟨[7], [8], [], []⟩, ⟨[0], [9], [], []⟩, ⟨[1, 9], [10], [], []⟩, ⟨[10], [11], [], []⟩, ⟨[11], [12], [], []⟩, ⟨[0], [13], [], []⟩, ⟨[2, 13], [14], [], []⟩, ⟨[14], [15], [], []⟩, ⟨[15], [16], [], []⟩, ⟨[12, 16], [17], [], []⟩, ⟨[8, 17], [18], [], []⟩, ⟨[18], [19], [], []⟩, ⟨[4, 19], [], [5], [5]⟩] mixed (by kernel_rfl) ?_
  refine SeqA.cons (loc [0] [] rfl rfl fun S hs hr => op_move (A := rd (kint .i64) i1) rfl rfl (vt ((hs 0 rfl).trans rfl))) ⟨rfl, rfl, rfl, rfl⟩ ?_
  refine SeqA.cons (loc [1, 5] [] rfl rfl fun S hs hr => op_indexp' rfl rfl ar38 (vt ((hs 1 rfl).trans rfl)) (vt ((hs 5 rfl).trans rfl)) hj5) ⟨rfl, rfl, rfl, rfl⟩ ?_
  refine SeqA.cons (loc [6] [] rfl rfl fun S hs hr => op_fieldp lTern_0 rfl rfl fl36_0 (vt ((hs 6 rfl).trans rfl))) ⟨rfl, rfl, rfl, rfl⟩ ?_
  refine SeqA.cons (loc [7] [] rfl rfl fun S hs hr => op_loadp rfl rfl ty34 (vt ((hs 7 rfl).trans rfl))) ⟨rfl, rfl, rfl, rfl⟩ ?_
  refine SeqA.cons (loc [0] [] rfl rfl fun S hs hr => op_move (A := rd (kint .i64) i1) rfl rfl (vt ((hs 0 rfl).trans rfl))) ⟨rfl, rfl, rfl, rfl⟩ ?_
  refine SeqA.cons (loc [1, 9] [] rfl rfl fun S hs hr => op_indexp' rfl rfl ar38 (vt ((hs 1 rfl).trans rfl)) (vt ((hs 9 rfl).trans rfl)) hj6) ⟨rfl, rfl, rfl, rfl⟩ ?_
  refine SeqA.cons (loc [10] [] rfl rfl fun S hs hr => op_fieldp lTern_1 rfl rfl fl36_1 (vt ((hs 10 rfl).trans rfl))) ⟨rfl, rfl, rfl, rfl⟩ ?_
  refine SeqA.cons (loc [11] [] rfl rfl fun S hs hr => op_loadp rfl rfl ty34 (vt ((hs 11 rfl).trans rfl))) ⟨rfl, rfl, rfl, rfl⟩ ?_
  refine SeqA.cons (loc [0] [] rfl rfl fun S hs hr => op_move (A := rd (kint .i64) i1) rfl rfl (vt ((hs 0 rfl).trans rfl))) ⟨rfl, rfl, rfl, rfl⟩ ?_
  refine SeqA.cons (loc [2, 13] [] rfl rfl fun S hs hr => op_indexp' rfl rfl ar55 (vt ((hs 2 rfl).trans rfl)) (vt ((hs 13 rfl).trans rfl)) hj7) ⟨rfl, rfl, rfl, rfl⟩ ?_
  refine SeqA.cons (loc [14] [] rfl rfl fun S hs hr => op_fieldp lTern_1 rfl rfl fl36_1 (vt ((hs 14 rfl).trans rfl))) ⟨rfl, rfl, rfl, rfl⟩ ?_
  refine SeqA.cons (loc [15] [] rfl rfl fun S hs hr => op_loadp rfl rfl ty34 (vt ((hs 15 rfl).trans rfl))) ⟨rfl, rfl, rfl, rfl⟩ ?_
  refine SeqA.cons (loc [12, 16] [] rfl rfl fun S hs hr => op_call (xs := [.tmp 12, .tmp 16]) (c_wide_Less _ _ _ hx8) (Ent.mk Tryz.func53 rfl rfl) rfl rfl ⟨vt ((hs 12 rfl).trans rfl), vt ((hs 16 rfl).trans rfl), trivial⟩) ⟨rfl, rfl, rfl, rfl⟩ ?_
  refine SeqA.cons (loc [8, 17] [] rfl rfl fun S hs hr => op_build (ps := [(0, .tmp 8), (1, .tmp 17)]) (x := (⟨(Vector.get cp2 j5).Value, x8⟩ : Tern)) rfl rfl rfl (by kernel_rfl) zr36 ⟨_, _, lTern_0, _, by kernel_rfl, (vt ((hs 8 rfl).trans rfl)), _, _, lTern_1, _, by kernel_rfl, (vt ((hs 17 rfl).trans rfl)), rfl⟩) ⟨rfl, rfl, rfl, rfl⟩ ?_
  refine SeqA.cons (loc [18] [] rfl rfl fun S hs hr => op_call (xs := [.tmp 18]) (c_tern_Clean _ _ hx9) (Ent.mk Tryz.func52 rfl rfl) rfl rfl ⟨vt ((hs 18 rfl).trans rfl), trivial⟩) ⟨rfl, rfl, rfl, rfl⟩ ?_
  refine SeqA.cons (locr [4, 19] [5] rfl fun S hs hr => op_store rfl rfl ty36 (vt ((hs 4 rfl).trans rfl)) (i := 5) ((hr 5 rfl).trans rfl) (vt ((hs 19 rfl).trans rfl))) ⟨rfl, rfl, rfl, rfl⟩ ?_
  refine AW.ret ?_
  obtain rfl := Option.some.inj h
  exact ret1 Tryz.results51 rfl (out_cell rfl (i := 5) rfl ty36)
def F_rewrite_each_Cube_l1 (f1 : (Int → Option Tern)) : Nat → Nat → (Vector Tern 24) → Option (Vector Tern 24)
  | 0, i6, b5 => some b5
  | m7 + 1, i6, b5 => (f1 (i6 : Int)).bind fun x8 => (chk 24 (i6 : Int)).bind fun j9 => (F_rewrite_each_Cube_l1 f1 m7) (i6 + 1) (Vector.set b5 j9.1 x8 j9.2)
def F_rewrite_each_Cube (f1 : (Int → Option Tern)) : Option (Vector Tern 24) :=
  F_rewrite_each_Cube_l1 f1 (24 : Int).toNat 0 (Vector.replicate 24 zTern)
theorem c_rewrite_each_Cube (f1 : (Int → Option Tern)) (r : (Vector Tern 24)) (h : F_rewrite_each_Cube f1 = some r) : PCon Tryz.prog 50 [fn1 Tryz.prog (kint .i64) kTern f1] (rd (karr 24 kTern) r) := by
  refine PCon.of (Con.intro0 Tryz.func50 rfl Tryz.ntmps50 rfl fun w H => ?_)
  unfold F_rewrite_each_Cube at h
  refine AW.seq ?_
  refine AW.region ?_
  refine AOps.consT rfl (op_alloc 3 rfl rfl zr38) ?_
  rintro _ ⟨g2, rfl⟩
  refine AOps.nil ?_
  refine AW.seq ?_
  refine AW.region ?_
  refine AOps.consT rfl (op_alloc 4 rfl rfl zr38) ?_
  rintro _ ⟨g3, rfl⟩
  refine AOps.nil ?_
  refine AW.seq ?_
  refine AW.seq ?_
  refine AW.region ?_
  refine AOps.cons (op_move (A := rd (kint .i64) 0) rfl rfl (vk rfl)) rfl ?_
  refine AOps.nil ?_
  refine AW.block ?_
  refine AW.loopG (d := []) (ν := Nat × Nat × (Vector Tern 24)) (fun n => Cnt 24 n.2.1 n.1 ∧ F_rewrite_each_Cube_l1 f1 n.1 n.2.1 n.2.2 = some r) (fun n => n.1) (fun n => [(0, fn1 Tryz.prog (kint .i64) kTern f1), (2, ptrL g2 (Lens.id (karr 24 kTern))), (3, ptrL g3 (Lens.id (karr 24 kTern))), (5, rd (kint .i64) (n.2.1 : Int))]) (fun n => [(3, Blk g2 38 (karr 24 kTern) (Vector.replicate 24 zTern)), (4, Blk g3 38 (karr 24 kTern) n.2.2)]) ((24 : Int).toNat, 0, (Vector.replicate 24 zTern)) ⟨Cnt.start _, h⟩ ⟨rfl, ⟨rfl, rfl, rfl, rfl, trivial⟩, ⟨rfl, rfl, trivial⟩⟩ ?_
  rintro ⟨m7, i6, b5⟩ ⟨hsf1, h⟩
  change Cnt 24 i6 m7 at hsf1
  change F_rewrite_each_Cube_l1 f1 m7 i6 b5 = some r at h
  change AW _ _ _ ⟨slots [(0, fn1 Tryz.prog (kint .i64) kTern f1), (2, ptrL g2 (Lens.id (karr 24 kTern))), (3, ptrL g3 (Lens.id (karr 24 kTern))), (5, rd (kint .i64) (i6 : Int))], ress [(3, Blk g2 38 (karr 24 kTern) (Vector.replicate 24 zTern)), (4, Blk g3 38 (karr 24 kTern) b5)], _⟩
  cases m7 with
  | zero =>
    unfold F_rewrite_each_Cube_l1 at h
    refine AW.seq ?_
    refine AW.region ?_
    refine AOps.cons (op_lss rfl rfl (vt rfl) (vk rfl)) rfl ?_
    refine AOps.nil ?_
    refine AW.seq ?_
    refine AW.cond (vt rfl) (fun hc => absurd (of_decide_eq_true hc) hsf1.zero) (fun hc => ?_)
    refine AW.exit ?_
    refine AW.seq ?_
    refine AW.region ?_
    refine AOps.cons (op_load rfl rfl ty38 (vt rfl) (i := 4) rfl) rfl ?_
    refine AOps.cons (op_store rfl rfl ty38 (vt rfl) (i := 3) rfl (vt rfl)) rfl ?_
    refine AOps.nil ?_
    refine AW.ret ?_
    obtain rfl := Option.some.inj h
    exact ret1 Tryz.results50 rfl (out_cell rfl (i := 3) rfl ty38)
  | succ m7 =>
    unfold F_rewrite_each_Cube_l1 at h
    generalize hgo1 : F_rewrite_each_Cube_l1 f1 m7 = go1 at h
    refine AW.seq ?_
    refine AW.region ?_
    refine AOps.cons (op_lss rfl rfl (vt rfl) (vk rfl)) rfl ?_
    refine AOps.nil ?_
    refine AW.seq ?_
    refine AW.cond (vt rfl) (fun hc => ?_) (fun hc => absurd hsf1.succ (of_decide_eq_false hc))
    have hlti6 := of_decide_eq_true hc
    refine AW.skip ?_
    refine AW.seq ?_
    refine AW.block ?_
    refine AW.seq ?_
    refine AW.region ?_
    refine AOps.cons (op_move (A := rd (kint .i64) (i6 : Int)) rfl rfl (vt rfl)) rfl ?_
    refine AOps.cons (op_assign (A := rd (kint .i64) (i6 : Int)) rfl rfl (vt rfl)) rfl ?_
    refine AOps.nil ?_
    obtain ⟨x8, hx8, h⟩ := bsome h
    obtain ⟨j9, hj9, h⟩ := bsome h
    refine AW.region ?_
    refine AOps.cons (op_move (A := rd (kint .i64) (i6 : Int)) rfl rfl (vt rfl)) rfl ?_
    refine AOps.cons (op_move (A := fn1 Tryz.prog (kint .i64) kTern f1) rfl rfl (vt rfl)) rfl ?_
    refine AOps.cons (op_move (A := rd (kint .i64) (i6 : Int)) rfl rfl (vt rfl)) rfl ?_
    refine AOps.cons (op_call1 hx8 rfl rfl (vt rfl) (vt rfl)) rfl ?_
    refine AOps.cons (op_index' rfl rfl ar38 (vt rfl) (vt rfl) hj9) rfl ?_
    refine AOps.cons (op_store rfl rfl ty36 (vt rfl) (i := 4) rfl (vt rfl)) rfl ?_
    refine AOps.nil ?_
    refine AW.region ?_
    refine AOps.cons (op_incrc rfl rfl (vt rfl) (vk rfl) rfl hlti6) rfl ?_
    refine AOps.cons (op_move (A := rd (kint .i64) ((i6 + 1 : Nat) : Int)) rfl rfl (vt rfl)) rfl ?_
    refine AOps.nil ?_
    subst hgo1
    exact ⟨(m7, i6 + 1, (Vector.set b5 j9.1 x8 j9.2)), Nat.lt_succ_self _, ⟨hsf1.next, h⟩, ⟨rfl, ⟨rfl, rfl, rfl, rfl, trivial⟩, ⟨rfl, rfl, trivial⟩⟩⟩
def F_rewrite_Before_l1 (c_gosem_cut_init : (Vector Tern 24)) (r1 : (Vector Tern 24)) : (List Tern) → Nat → Option ((Vector Tern 24) × Bool)
  | [], i6 => (F_rewrite_each_Cube (fun x => F_rewrite_Before_1 x c_gosem_cut_init r1)).bind fun x8 => some (x8, true)
  | x9 :: l7, i6 => (chk 24 (i6 : Int)).bind fun j11 => (F_tern_Meet x9 (Vector.get c_gosem_cut_init j11)).bind fun x12 => (bif (!x12.2) then some ((Vector.replicate 24 zTern), false) else (F_rewrite_Before_l1 c_gosem_cut_init r1 l7) (i6 + 1))
def F_rewrite_Before (r1 : (Vector Tern 24)) (c_gosem_cut_init : (Vector Tern 24)) : Option ((Vector Tern 24) × Bool) :=
  F_rewrite_Before_l1 c_gosem_cut_init r1 (Vector.toList r1) 0
theorem c_rewrite_Before (r1 : (Vector Tern 24)) (c_gosem_cut_init : (Vector Tern 24)) (r : ((Vector Tern 24) × Bool)) (h : F_rewrite_Before r1 c_gosem_cut_init = some r) : PCon Tryz.prog 36 [rd (karr 24 kTern) r1, rd (karr 24 kTern) c_gosem_cut_init] (tup2 (rd (karr 24 kTern) r.1) (rd kbool r.2)) := by
  refine PCon.of (Con.intro0 Tryz.func36 rfl Tryz.ntmps36 rfl fun w H => ?_)
  unfold F_rewrite_Before at h
  refine AW.seq ?_
  refine AW.region ?_
  refine AOps.consT rfl (op_box 3 rfl rfl (vt rfl)) ?_
  rintro _ ⟨g3, rfl⟩
  refine AOps.consT rfl (op_box 4 rfl rfl (vt rfl)) ?_
  rintro _ ⟨g4, rfl⟩
  refine AOps.consT rfl (op_alloc 5 rfl rfl zr38) ?_
  rintro _ ⟨g5, rfl⟩
  refine AOps.cons (op_assign (A := rd kbool false) rfl rfl vb) rfl ?_
  refine AOps.nil ?_
  refine AW.seq ?_
  refine AW.seq ?_
  refine AW.region ?_
  refine AOps.cons (op_load rfl rfl ty55 (vt rfl) (i := 3) rfl) rfl ?_
  refine AOps.cons (op_move (A := rd (kint .i64) 0) rfl rfl (vk rfl)) rfl ?_
  refine AOps.nil ?_
  refine AW.block ?_
  refine AW.loopG (d := []) (ν := (List Tern) × Nat) (fun n => Sfx (Vector.toList r1) n.2 n.1 ∧ F_rewrite_Before_l1 c_gosem_cut_init r1 n.1 n.2 = some r) (fun n => n.1.length) (fun n => [(2, ptrL g3 (Lens.id (karr 24 kTern))), (3, ptrL g4 (Lens.id (karr 24 kTern))), (4, ptrL g5 (Lens.id (karr 24 kTern))), (10, rd (karr 24 kTern) r1), (11, rd (kint .i64) (n.2 : Int))]) (fun n => [(3, Blk g3 55 (karr 24 kTern) r1), (4, Blk g4 38 (karr 24 kTern) c_gosem_cut_init), (5, Blk g5 38 (karr 24 kTern) (Vector.replicate 24 zTern))]) ((Vector.toList r1), 0) ⟨Sfx.start _, h⟩ ⟨rfl, ⟨rfl, rfl, rfl, rfl, rfl, trivial⟩, ⟨rfl, rfl, rfl, trivial⟩⟩ ?_
  rintro ⟨l7, i6⟩ ⟨hsf1, h⟩
  change Sfx (Vector.toList r1) i6 l7 at hsf1
  change F_rewrite_Before_l1 c_gosem_cut_init r1 l7 i6 = some r at h
  change AW _ _ _ ⟨slots [(2, ptrL g3 (Lens.id (karr 24 kTern))), (3, ptrL g4 (Lens.id (karr 24 kTern))), (4, ptrL g5 (Lens.id (karr 24 kTern))), (10, rd (karr 24 kTern) r1), (11, rd (kint .i64) (i6 : Int))], ress [(3, Blk g3 55 (karr 24 kTern) r1), (4, Blk g4 38 (karr 24 kTern) c_gosem_cut_init), (5, Blk g5 38 (karr 24 kTern) (Vector.replicate 24 zTern))], _⟩
  cases l7 with
  | nil =>
    unfold F_rewrite_Before_l1 at h
    refine AW.seq ?_
    refine AW.region ?_
    refine AOps.cons (op_lss rfl rfl (vt rfl) (vk rfl)) rfl ?_
    refine AOps.nil ?_
    refine AW.seq ?_
    refine AW.cond (vt rfl) (fun hc => absurd (of_decide_eq_true hc) (hsf1.niln (by simp))) (fun hc => ?_)
    refine AW.exit ?_
    refine AW.seq ?_
    refine AW.freezeB 3 4 rfl rfl rfl ?_
    refine AW.freezeB 2 3 rfl rfl rfl ?_
    obtain ⟨x8, hx8, h⟩ := bsome h
    refine AW.region ?_
    refine AOps.cons (op_fn1 (cs := [.tmp 3, .tmp 2]) (CAs := [rp (karr 24 kTern) c_gosem_cut_init, rp (karr 24 kTern) r1]) (fun x => F_rewrite_Before_1 x c_gosem_cut_init r1) rfl rfl (Ent.mk Tryz.func51 rfl rfl) ⟨vt rfl, vt rfl, trivial⟩ (fun x y h => c_rewrite_Before_1 _ _ _ y h)) rfl ?_
    refine AOps.cons (op_call (xs := [.tmp 27]) (c_rewrite_each_Cube _ _ hx8) (Ent.mk Tryz.func50 rfl rfl) rfl rfl ⟨vt rfl, trivial⟩) rfl ?_
    refine AOps.cons (op_store rfl rfl ty38 (vt rfl) (i := 5) rfl (vt rfl)) rfl ?_
    refine AOps.cons (op_assign (A := rd kbool true) rfl rfl vb) rfl ?_
    refine AOps.nil ?_
    refine AW.ret ?_
    obtain rfl := Option.some.inj h
    exact ret2 Tryz.results36 rfl (out_cell rfl (i := 5) rfl ty38) (out_tmp rfl)
  | cons x9 l7 =>
    unfold F_rewrite_Before_l1 at h
    generalize hgo1 : F_rewrite_Before_l1 c_gosem_cut_init r1 l7 = go1 at h
    refine AW.seq ?_
    refine AW.region ?_
    refine AOps.cons (op_lss rfl rfl (vt rfl) (vk rfl)) rfl ?_
    refine AOps.nil ?_
    refine AW.seq ?_
    refine AW.cond (vt rfl) (fun hc => ?_) (fun hc => absurd (hsf1.consn (by simp)) (of_decide_eq_false hc))
    have hlti6 := of_decide_eq_true hc
    refine AW.skip ?_
    refine AW.seq ?_
    refine AW.block ?_
    refine AW.seq ?_
    refine AW.region ?_
    refine AOps.cons (op_move (A := rd (kint .i64) (i6 : Int)) rfl rfl (vt rfl)) rfl ?_
    refine AOps.cons (op_indexv rfl rfl ar55 ty36 (vt rfl) (vt rfl) hsf1.lget) rfl ?_
    refine AOps.consT rfl (op_alloc 8 rfl rfl zr36) ?_
    rintro _ ⟨g10, rfl⟩
    refine AOps.cons (op_assign (A := rd (kint .i64) (i6 : Int)) rfl rfl (vt rfl)) rfl ?_
    refine AOps.cons (op_store rfl rfl ty36 (vt rfl) (i := 8) rfl (vt rfl)) rfl ?_
    refine AOps.nil ?_
    refine AW.seq ?_
    obtain ⟨j11, hj11, h⟩ := bsome h
    obtain ⟨x12, hx12, h⟩ := bsome h
    refine AW.regionAny [⟨[7], [16], [8], []⟩, ⟨[6], [17], [], []⟩, ⟨[3, 17], [18], [], []⟩, ⟨[18], [19], [4], []⟩, ⟨[16, 19], [20], [], []⟩, ⟨[20], [15], [], []⟩, ⟨[15], [21], [], []⟩, ⟨[15], [22], [], []⟩, ⟨[], [8], [], []⟩, ⟨[8, 21], [8], [], []⟩, ⟨[22], [9], [], []⟩] mixed (by kernel_rfl) ?_
    refine SeqA.cons (loc [7] [8] rfl rfl fun S hs hr => op_load rfl rfl ty36 (vt ((hs 7 rfl).trans rfl)) (i := 8) ((hr 8 rfl).trans rfl)) ⟨rfl, rfl, rfl, rfl⟩ ?_
    refine SeqA.cons (loc [6] [] rfl rfl fun S hs hr => op_move (A := rd (kint .i64) (i6 : Int)) rfl rfl (vt ((hs 6 rfl).trans rfl))) ⟨rfl, rfl, rfl, rfl⟩ ?_
    refine SeqA.cons (loc [3, 17] [] rfl rfl fun S hs hr => op_index' rfl rfl ar38 (vt ((hs 3 rfl).trans rfl)) (vt ((hs 17 rfl).trans rfl)) hj11) ⟨rfl, rfl, rfl, rfl⟩ ?_
    refine SeqA.cons (loc [18] [4] rfl rfl fun S hs hr => op_load rfl rfl ty36 (vt ((hs 18 rfl).trans rfl)) (i := 4) ((hr 4 rfl).trans rfl)) ⟨rfl, rfl, rfl, rfl⟩ ?_
    refine SeqA.cons (loc [16, 19] [] rfl rfl fun S hs hr => op_call (xs := [.tmp 16, .tmp 19]) (c_tern_Meet _ _ _ hx12) (Ent.mk Tryz.func49 rfl rfl) rfl rfl ⟨vt ((hs 16 rfl).trans rfl), vt ((hs 19 rfl).trans rfl), trivial⟩) ⟨rfl, rfl, rfl, rfl⟩ ?_
    refine SeqA.cons (loc [20] [] rfl rfl fun S hs hr => op_move (A := tup2 (rd kTern x12.1) (rd kbool x12.2)) rfl rfl (vt ((hs 20 rfl).trans rfl))) ⟨rfl, rfl, rfl, rfl⟩ ?_
    refine SeqA.cons (loc [15] [] rfl rfl fun S hs hr => op_fst rfl rfl (vt ((hs 15 rfl).trans rfl))) ⟨rfl, rfl, rfl, rfl⟩ ?_
    refine SeqA.cons (loc [15] [] rfl rfl fun S hs hr => op_snd rfl rfl (vt ((hs 15 rfl).trans rfl))) ⟨rfl, rfl, rfl, rfl⟩ ?_
    refine SeqA.cons (locs (us := [(8, ownP 36 kTern zTern)]) (ur := []) [] [] rfl fun S hs hr => op_allocO rfl rfl rfl zr36) ⟨rfl, rfl, rfl, rfl⟩ ?_
    refine SeqA.cons (locs (us := [(8, ownP 36 kTern x12.1)]) (ur := []) [8, 21] [] rfl fun S hs hr => op_storeO rfl rfl ty36 ((hs 8 rfl).trans rfl) (vt ((hs 21 rfl).trans rfl))) ⟨rfl, rfl, rfl, rfl⟩ ?_
    refine SeqA.cons (loc [22] [] rfl rfl fun S hs hr => op_assign (A := rd kbool x12.2) rfl rfl (vt ((hs 22 rfl).trans rfl))) ⟨rfl, rfl, rfl, rfl⟩ ?_
    refine AW.unpackP 8 9 rfl rfl fun g13 => ?_
    refine AW.seq ?_
    refine AW.region ?_
    refine AOps.cons (op_move (A := rd kbool x12.2) rfl rfl (vt rfl)) rfl ?_
    refine AOps.cons (op_not rfl rfl (vt rfl)) rfl ?_
    refine AOps.nil ?_
    refine AW.cond (vt rfl) (fun hc => ?_) (fun hc => ?_)
    · have h := cond_t hc h
      refine AW.seq ?_
      refine AW.region ?_
      refine AOps.cons (op_build (ps := []) (x := (Vector.replicate 24 zTern)) rfl rfl rfl (by kernel_rfl) zr38 rfl) rfl ?_
      refine AOps.cons (op_store rfl rfl ty38 (vt rfl) (i := 5) rfl (vt rfl)) rfl ?_
      refine AOps.cons (op_assign (A := rd kbool false) rfl rfl vb) rfl ?_
      refine AOps.nil ?_
      refine AW.ret ?_
      obtain rfl := Option.some.inj h
      exact ret2 Tryz.results36 rfl (out_cell rfl (i := 5) rfl ty38) (out_tmp rfl)
    · have h := cond_f hc h
      refine AW.skip ?_
      refine AW.region ?_
      refine AOps.cons (op_incrc rfl rfl (vt rfl) (vk rfl) rfl hlti6) rfl ?_
      refine AOps.cons (op_move (A := rd (kint .i64) ((i6 + 1 : Nat) : Int)) rfl rfl (vt rfl)) rfl ?_
      refine AOps.nil ?_
      subst hgo1
      exact ⟨(l7, i6 + 1), Nat.lt_succ_self _, ⟨hsf1.next, h⟩, ⟨rfl, ⟨rfl, rfl, rfl, rfl, rfl, trivial⟩, ⟨rfl, rfl, rfl, trivial⟩⟩⟩
def F_cube_Meet_1 (i1 : Int) (cp2 : (Vector Tern 24)) (cp3 : (Vector Tern 24)) : Option (Tern × Bool) :=
  (chk 24 i1).bind fun j5 => (chk 24 i1).bind fun j6 => (F_tern_Meet (Vector.get cp2 j5) (Vector.get cp3 j6)).bind fun x7 => some (x7.1, x7.2)
theorem c_cube_Meet_1 (i1 : Int) (cp2 : (Vector Tern 24)) (cp3 : (Vector Tern 24)) (r : (Tern × Bool)) (h : F_cube_Meet_1 i1 cp2 cp3 = some r) : PCon Tryz.prog 57 [rd (kint .i64) i1, rp (karr 24 kTern) cp2, rp (karr 24 kTern) cp3] (tup2 (rd kTern r.1) (rd kbool r.2)) := by
  refine PCon.of (Con.intro0 Tryz.func57 rfl Tryz.ntmps57 rfl fun w H => ?_)
  unfold F_cube_Meet_1 at h
  refine AW.seq ?_
  refine AW.region ?_
  refine AOps.consT rfl (op_alloc 5 rfl rfl zr36) ?_
  rintro _ ⟨g4, rfl⟩
  refine AOps.cons (op_assign (A := rd kbool false) rfl rfl vb) rfl ?_
  refine AOps.nil ?_
  refine AW.seq ?_
  obtain ⟨j5, hj5, h⟩ := bsome h
  obtain ⟨j6, hj6, h⟩ := bsome h
  obtain ⟨x7, hx7, h⟩ := bsome h
  refine AW.regionAny [⟨[0], [6], [], []⟩, ⟨[1, 6], [7], [], []⟩, ⟨[7], [8], [], []⟩, ⟨[0], [9], [], []⟩, ⟨[2, 9], [10], [], []⟩, ⟨[10], [11], [], []⟩, ⟨[8, 11], [12], [], []⟩, ⟨[12], [13], [], []⟩, ⟨[12], [14], [], []⟩, ⟨[4, 13], [], [5], [5]⟩, ⟨[14], [5], [], []⟩] mixed (by kernel_rfl) ?_
  refine SeqA.cons (loc [0] [] rfl rfl fun S hs hr => op_move (A := rd (kint .i64) i1) rfl rfl (vt ((hs 0 rfl).trans rfl))) ⟨rfl, rfl, rfl, rfl⟩ ?_
  refine SeqA.cons (loc [1, 6] [] rfl rfl fun S hs hr => op_indexp' rfl rfl ar38 (vt ((hs 1 rfl).trans rfl)) (vt ((hs 6 rfl).trans rfl)) hj5) ⟨rfl, rfl, rfl, rfl⟩ ?_
  refine SeqA.cons (loc [7] [] rfl rfl fun S hs hr => op_loadp rfl rfl ty36 (vt ((hs 7 rfl).trans rfl))) ⟨rfl, rfl, rfl, rfl⟩ ?_
  refine SeqA.cons (loc [0] [] rfl rfl fun S hs hr => op_move (A := rd (kint .i64) i1) rfl rfl (vt ((hs 0 rfl).trans rfl))) ⟨rfl, rfl, rfl, rfl⟩ ?_
  refine SeqA.cons (loc [2, 9] [] rfl rfl fun S hs hr => op_indexp' rfl rfl ar38 (vt ((hs 2 rfl).trans rfl)) (vt ((hs 9 rfl).trans rfl)) hj6) ⟨rfl, rfl, rfl, rfl⟩ ?_
  refine SeqA.cons (loc [10] [] rfl rfl fun S hs hr => op_loadp rfl rfl ty36 (vt ((hs 10 rfl).trans rfl))) ⟨rfl, rfl, rfl, rfl⟩ ?_
  refine SeqA.cons (loc [8, 11] [] rfl rfl fun S hs hr => op_call (xs := [.tmp 8, .tmp 11]) (c_tern_Meet _ _ _ hx7) (Ent.mk Tryz.func49 rfl rfl) rfl rfl ⟨vt ((hs 8 rfl).trans rfl), vt ((hs 11 rfl).trans rfl), trivial⟩) ⟨rfl, rfl, rfl, rfl⟩ ?_
  refine SeqA.cons (loc [12] [] rfl rfl fun S hs hr => op_fst rfl rfl (vt ((hs 12 rfl).trans rfl))) ⟨rfl, rfl, rfl, rfl⟩ ?_
  refine SeqA.cons (loc [12] [] rfl rfl fun S hs hr => op_snd rfl rfl (vt ((hs 12 rfl).trans rfl))) ⟨rfl, rfl, rfl, rfl⟩ ?_
  refine SeqA.cons (locr [4, 13] [5] rfl fun S hs hr => op_store rfl rfl ty36 (vt ((hs 4 rfl).trans rfl)) (i := 5) ((hr 5 rfl).trans rfl) (vt ((hs 13 rfl).trans rfl))) ⟨rfl, rfl, rfl, rfl⟩ ?_
  refine SeqA.cons (loc [14] [] rfl rfl fun S hs hr => op_assign (A := rd kbool x7.2) rfl rfl (vt ((hs 14 rfl).trans rfl))) ⟨rfl, rfl, rfl, rfl⟩ ?_
  refine AW.ret ?_
  obtain rfl := Option.some.inj h
  exact ret2 Tryz.results57 rfl (out_cell rfl (i := 5) rfl ty36) (out_tmp rfl)
def F_cube_Meet (a1 : (Vector Tern 24)) (b2 : (Vector Tern 24)) : Option ((Vector Tern 24) × Bool) :=
  (F_cube_each (fun x => F_cube_Meet_1 x a1 b2)).bind fun x6 => some (x6.1, x6.2)
theorem c_cube_Meet (a1 : (Vector Tern 24)) (b2 : (Vector Tern 24)) (r : ((Vector Tern 24) × Bool)) (h : F_cube_Meet a1 b2 = some r) : PCon Tryz.prog 38 [rd (karr 24 kTern) a1, rd (karr 24 kTern) b2] (tup2 (rd (karr 24 kTern) r.1) (rd kbool r.2)) := by
  refine PCon.of (Con.intro0 Tryz.func38 rfl Tryz.ntmps38 rfl fun w H => ?_)
  unfold F_cube_Meet at h
  refine AW.seq ?_
  refine AW.region ?_
  refine AOps.consT rfl (op_box 3 rfl rfl (vt rfl)) ?_
  rintro _ ⟨g3, rfl⟩
  refine AOps.consT rfl (op_box 4 rfl rfl (vt rfl)) ?_
  rintro _ ⟨g4, rfl⟩
  refine AOps.consT rfl (op_alloc 5 rfl rfl zr38) ?_
  rintro _ ⟨g5, rfl⟩
  refine AOps.cons (op_assign (A := rd kbool false) rfl rfl vb) rfl ?_
  refine AOps.nil ?_
  refine AW.seq ?_
  refine AW.freezeB 2 3 rfl rfl rfl ?_
  refine AW.freezeB 3 4 rfl rfl rfl ?_
  obtain ⟨x6, hx6, h⟩ := bsome h
  refine AW.region ?_
  refine AOps.cons (op_fa1 (fs := []) (FAs := []) (cs := [.tmp 2, .tmp 3]) (CAs := [rp (karr 24 kTern) a1, rp (karr 24 kTern) b2]) (kx := (kint .i64)) (B := (fun (y : (Tern × Bool)) => tup2 (rd kTern y.1) (rd kbool y.2))) (fun x => F_cube_Meet_1 x a1 b2) rfl rfl (Ent.mk Tryz.func57 rfl rfl) trivial ⟨vt rfl, vt rfl, trivial⟩ (fun x y h => c_cube_Meet_1 _ _ _ y h)) rfl ?_
  refine AOps.cons (op_call (xs := [.tmp 6]) (c_cube_each _ _ hx6) (Ent.mk Tryz.func56 rfl rfl) rfl rfl ⟨vt rfl, trivial⟩) rfl ?_
  refine AOps.cons (op_fst rfl rfl (vt rfl)) rfl ?_
  refine AOps.cons (op_snd rfl rfl (vt rfl)) rfl ?_
  refine AOps.cons (op_store rfl rfl ty38 (vt rfl) (i := 5) rfl (vt rfl)) rfl ?_
  refine AOps.cons (op_assign (A := rd kbool x6.2) rfl rfl (vt rfl)) rfl ?_
  refine AOps.nil ?_
  refine AW.ret ?_
  obtain rfl := Option.some.inj h
  exact ret2 Tryz.results38 rfl (out_cell rfl (i := 5) rfl ty38) (out_tmp rfl)
end Go.Proofs.YtokmmcflinnfiabGreat.W
set_option linter.unusedVariables false
set_option maxRecDepth 4000
set_option linter.unusedSimpArgs false
namespace Go.Proofs.YtokmmcflinnfiabGreat.W
open Go Go.Wb
def F_walk_way_meet (w1 : walk_way) (f2 : Flow) : Option (walk_way × Bool) :=
  (F_flow_Cube f2).bind fun x6 => (F_rewrite_Before w1.got x6).bind fun x7 => (bif (!x7.2) then some ((⟨(Vector.replicate 24 zTern), (Vector.replicate 24 zTern), [], []⟩ : walk_way), false) else (F_cube_Meet x7.1 w1.cube).bind fun x9 => some ({ w1 with cube := x9.1 }, x9.2))
theorem c_walk_way_meet (w1 : walk_way) (f2 : Flow) (r : (walk_way × Bool)) (h : F_walk_way_meet w1 f2 = some r) : PCon Tryz.prog 25 [rd kwalk_way w1, rd kFlow f2] (tup2 (rd kwalk_way r.1) (rd kbool r.2)) := by
  refine PCon.of (Con.intro0 Tryz.func25 rfl Tryz.ntmps25 rfl fun w H => ?_)
  unfold F_walk_way_meet at h
  refine AW.seq ?_
  refine AW.region ?_
  refine AOps.consT rfl (op_box 3 rfl rfl (vt rfl)) ?_
  rintro _ ⟨g3, rfl⟩
  refine AOps.consT rfl (op_box 4 rfl rfl (vt rfl)) ?_
  rintro _ ⟨g4, rfl⟩
  refine AOps.consT rfl (op_alloc 5 rfl rfl zr71) ?_
  rintro _ ⟨g5, rfl⟩
  refine AOps.cons (op_assign (A := rd kbool false) rfl rfl vb) rfl ?_
  refine AOps.nil ?_
  refine AW.seq ?_
  obtain ⟨x6, hx6, h⟩ := bsome h
  obtain ⟨x7, hx7, h⟩ := bsome h
  refine AW.regionAny [⟨[2], [9], [], []⟩, ⟨[9], [10], [3], []⟩, ⟨[3], [11], [4], []⟩, ⟨[11], [12], [], []⟩, ⟨[10, 12], [13], [], []⟩, ⟨[13], [8], [], []⟩, ⟨[8], [14], [], []⟩, ⟨[8], [15], [], []⟩, ⟨[], [6], [], []⟩, ⟨[6, 14], [6], [], []⟩, ⟨[15], [7], [], []⟩] mixed (by kernel_rfl) ?_
  refine SeqA.cons (loc [2] [] rfl rfl fun S hs hr => op_field lwalk_way_1 rfl rfl fl71_1 (vt ((hs 2 rfl).trans rfl))) ⟨rfl, rfl, rfl, rfl⟩ ?_
  refine SeqA.cons (loc [9] [3] rfl rfl fun S hs hr => op_load rfl rfl ty55 (vt ((hs 9 rfl).trans rfl)) (i := 3) ((hr 3 rfl).trans rfl)) ⟨rfl, rfl, rfl, rfl⟩ ?_
  refine SeqA.cons (loc [3] [4] rfl rfl fun S hs hr => op_load rfl rfl ty54 (vt ((hs 3 rfl).trans rfl)) (i := 4) ((hr 4 rfl).trans rfl)) ⟨rfl, rfl, rfl, rfl⟩ ?_
  refine SeqA.cons (loc [11] [] rfl rfl fun S hs hr => op_call (xs := [.tmp 11]) (c_flow_Cube _ _ hx6) (Ent.mk Tryz.func37 rfl rfl) rfl rfl ⟨vt ((hs 11 rfl).trans rfl), trivial⟩) ⟨rfl, rfl, rfl, rfl⟩ ?_
  refine SeqA.cons (loc [10, 12] [] rfl rfl fun S hs hr => op_call (xs := [.tmp 10, .tmp 12]) (c_rewrite_Before _ _ _ hx7) (Ent.mk Tryz.func36 rfl rfl) rfl rfl ⟨vt ((hs 10 rfl).trans rfl), vt ((hs 12 rfl).trans rfl), trivial⟩) ⟨rfl, rfl, rfl, rfl⟩ ?_
  refine SeqA.cons (loc [13] [] rfl rfl fun S hs hr => op_move (A := tup2 (rd (karr 24 kTern) x7.1) (rd kbool x7.2)) rfl rfl (vt ((hs 13 rfl).trans rfl))) ⟨rfl, rfl, rfl, rfl⟩ ?_
  refine SeqA.cons (loc [8] [] rfl rfl fun S hs hr => op_fst rfl rfl (vt ((hs 8 rfl).trans rfl))) ⟨rfl, rfl, rfl, rfl⟩ ?_
  refine SeqA.cons (loc [8] [] rfl rfl fun S hs hr => op_snd rfl rfl (vt ((hs 8 rfl).trans rfl))) ⟨rfl, rfl, rfl, rfl⟩ ?_
  refine SeqA.cons (locs (us := [(6, ownP 38 (karr 24 kTern) (Vector.replicate 24 zTern))]) (ur := []) [] [] rfl fun S hs hr => op_allocO rfl rfl rfl zr38) ⟨rfl, rfl, rfl, rfl⟩ ?_
  refine SeqA.cons (locs (us := [(6, ownP 38 (karr 24 kTern) x7.1)]) (ur := []) [6, 14] [] rfl fun S hs hr => op_storeO rfl rfl ty38 ((hs 6 rfl).trans rfl) (vt ((hs 14 rfl).trans rfl))) ⟨rfl, rfl, rfl, rfl⟩ ?_
  refine SeqA.cons (loc [15] [] rfl rfl fun S hs hr => op_assign (A := rd kbool x7.2) rfl rfl (vt ((hs 15 rfl).trans rfl))) ⟨rfl, rfl, rfl, rfl⟩ ?_
  refine AW.unpackP 6 7 rfl rfl fun g8 => ?_
  refine AW.seq ?_
  refine AW.seq ?_
  refine AW.region ?_
  refine AOps.cons (op_move (A := rd kbool x7.2) rfl rfl (vt rfl)) rfl ?_
  refine AOps.cons (op_not rfl rfl (vt rfl)) rfl ?_
  refine AOps.nil ?_
  refine AW.cond (vt rfl) (fun hc => ?_) (fun hc => ?_)
  · have h := cond_t hc h
    refine AW.seq ?_
    refine AW.region ?_
    refine AOps.cons (op_build (ps := []) (x := (⟨(Vector.replicate 24 zTern), (Vector.replicate 24 zTern), [], []⟩ : walk_way)) rfl rfl rfl (by kernel_rfl) zr71 rfl) rfl ?_
    refine AOps.cons (op_store rfl rfl ty71 (vt rfl) (i := 5) rfl (vt rfl)) rfl ?_
    refine AOps.cons (op_assign (A := rd kbool false) rfl rfl vb) rfl ?_
    refine AOps.nil ?_
    refine AW.ret ?_
    obtain rfl := Option.some.inj h
    exact ret2 Tryz.results25 rfl (out_cell rfl (i := 5) rfl ty71) (out_tmp rfl)
  · have h := cond_f hc h
    refine AW.skip ?_
    refine AW.seq ?_
    obtain ⟨x9, hx9, h⟩ := bsome h
    refine AW.region ?_
    refine AOps.cons (op_load rfl rfl ty38 (vt rfl) (i := 7) rfl) rfl ?_
    refine AOps.cons (op_field lwalk_way_0 rfl rfl fl71_0 (vt rfl)) rfl ?_
    refine AOps.cons (op_load rfl rfl ty38 (vt rfl) (i := 3) rfl) rfl ?_
    refine AOps.cons (op_call (xs := [.tmp 20, .tmp 22]) (c_cube_Meet _ _ _ hx9) (Ent.mk Tryz.func38 rfl rfl) rfl rfl ⟨vt rfl, vt rfl, trivial⟩) rfl ?_
    refine AOps.cons (op_move (A := tup2 (rd (karr 24 kTern) x9.1) (rd kbool x9.2)) rfl rfl (vt rfl)) rfl ?_
    refine AOps.cons (op_fst rfl rfl (vt rfl)) rfl ?_
    refine AOps.cons (op_snd rfl rfl (vt rfl)) rfl ?_
    refine AOps.cons (op_field lwalk_way_0 rfl rfl fl71_0 (vt rfl)) rfl ?_
    refine AOps.cons (op_store rfl rfl ty38 (vt rfl) (i := 3) rfl (vt rfl)) rfl ?_
    refine AOps.cons (op_assign (A := rd kbool x9.2) rfl rfl (vt rfl)) rfl ?_
    refine AOps.nil ?_
    refine AW.seq ?_
    refine AW.region ?_
    refine AOps.cons (op_load rfl rfl ty71 (vt rfl) (i := 3) rfl) rfl ?_
    refine AOps.cons (op_move (A := rd kbool x9.2) rfl rfl (vt rfl)) rfl ?_
    refine AOps.cons (op_store rfl rfl ty71 (vt rfl) (i := 5) rfl (vt rfl)) rfl ?_
    refine AOps.cons (op_assign (A := rd kbool x9.2) rfl rfl (vt rfl)) rfl ?_
    refine AOps.nil ?_
    refine AW.ret ?_
    obtain rfl := Option.some.inj h
    exact ret2 Tryz.results25 rfl (out_cell rfl (i := 5) rfl ty71) (out_tmp rfl)
def F_inst_Of_1 (i1 : Inst) (cp2 : Int) : Option Bool :=
  some (decide (i1.Kind = cp2))
theorem c_inst_Of_1 (i1 : Inst) (cp2 : Int) (r : Bool) (h : F_inst_Of_1 i1 cp2 = some r) : PCon Tryz.prog 59 [rd kInst i1, rp (kint .i64) cp2] (rd kbool r) := by
  refine PCon.of (Con.intro0 Tryz.func59 rfl Tryz.ntmps59 rfl fun w H => ?_)
  unfold F_inst_Of_1 at h
  refine AW.seq ?_
  refine AW.region ?_
  refine AOps.consT rfl (op_box 3 rfl rfl (vt rfl)) ?_
  rintro _ ⟨g3, rfl⟩
  refine AOps.cons (op_assign (A := rd kbool false) rfl rfl vb) rfl ?_
  refine AOps.nil ?_
  refine AW.seq ?_
  refine AW.region ?_
  refine AOps.cons (op_field lInst_0 rfl rfl fl51_0 (vt rfl)) rfl ?_
  refine AOps.cons (op_load rfl rfl ty3 (vt rfl) (i := 3) rfl) rfl ?_
  refine AOps.cons (op_loadp rfl rfl ty3 (vt rfl)) rfl ?_
  refine AOps.cons (op_eql rfl rfl (vt rfl) (vt rfl)) rfl ?_
  refine AOps.cons (op_assign (A := rd kbool (decide (i1.Kind = cp2))) rfl rfl (vt rfl)) rfl ?_
  refine AOps.nil ?_
  refine AW.ret ?_
  obtain rfl := Option.some.inj h
  exact ret1 Tryz.results59 rfl (out_tmp rfl)
def F_slices_IndexFunc_Inst_l1 (s1 : (List Inst)) (f2 : (Inst → Option Bool)) : Nat → Nat → Option Int
  | 0, i3 => some (-1)
  | m4 + 1, i3 => (lget s1 (i3 : Int)).bind fun e5 => (f2 e5).bind fun x6 => (bif x6 then some (i3 : Int) else (F_slices_IndexFunc_Inst_l1 s1 f2 m4) (i3 + 1))
def F_slices_IndexFunc_Inst (s1 : (List Inst)) (f2 : (Inst → Option Bool)) : Option Int :=
  F_slices_IndexFunc_Inst_l1 s1 f2 ((s1.length : Int) : Int).toNat 0
theorem c_slices_IndexFunc_Inst (s1 : (List Inst)) (f2 : (Inst → Option Bool)) (r : Int) (h : F_slices_IndexFunc_Inst s1 f2 = some r) : PCon Tryz.prog 58 [rd (ksl kInst) s1, fn1 Tryz.prog kInst kbool f2] (rd (kint .i64) r) := by
  refine PCon.of (Con.intro0 Tryz.func58 rfl Tryz.ntmps58 rfl fun w H => ?_)
  unfold F_slices_IndexFunc_Inst at h
  refine AW.seq ?_
  refine AW.region ?_
  refine AOps.cons (op_assign (A := rd (kint .i64) 0) rfl rfl (vk rfl)) rfl ?_
  refine AOps.nil ?_
  refine AW.seq ?_
  refine AW.seq ?_
  refine AW.region ?_
  refine AOps.cons (op_move (A := rd (ksl kInst) s1) rfl rfl (vt rfl)) rfl ?_
  refine AOps.cons (op_len' rfl rfl sl52 (vt rfl)) rfl ?_
  refine AOps.cons (op_move (A := rd (kint .i64) 0) rfl rfl (vk rfl)) rfl ?_
  refine AOps.nil ?_
  refine AW.block ?_
  refine AW.loopG (d := []) (ν := Nat × Nat) (fun n => Cnt (s1.length : Int) n.2 n.1 ∧ F_slices_IndexFunc_Inst_l1 s1 f2 n.1 n.2 = some r) (fun n => n.1) (fun n => [(0, rd (ksl kInst) s1), (1, fn1 Tryz.prog kInst kbool f2), (7, rd (kint .i64) (s1.length : Int)), (8, rd (kint .i64) (n.2 : Int))]) (fun n => []) (((s1.length : Int) : Int).toNat, 0) ⟨Cnt.start _, h⟩ ⟨rfl, ⟨rfl, rfl, rfl, rfl, trivial⟩, trivial⟩ ?_
  rintro ⟨m4, i3⟩ ⟨hsf1, h⟩
  change Cnt (s1.length : Int) i3 m4 at hsf1
  change F_slices_IndexFunc_Inst_l1 s1 f2 m4 i3 = some r at h
  change AW _ _ _ ⟨slots [(0, rd (ksl kInst) s1), (1, fn1 Tryz.prog kInst kbool f2), (7, rd (kint .i64) (s1.length : Int)), (8, rd (kint .i64) (i3 : Int))], ress [], _⟩
  cases m4 with
  | zero =>
    unfold F_slices_IndexFunc_Inst_l1 at h
    refine AW.seq ?_
    refine AW.region ?_
    refine AOps.cons (op_lss rfl rfl (vt rfl) (vt rfl)) rfl ?_
    refine AOps.nil ?_
    refine AW.seq ?_
    refine AW.cond (vt rfl) (fun hc => absurd (of_decide_eq_true hc) hsf1.zero) (fun hc => ?_)
    refine AW.exit ?_
    refine AW.seq ?_
    refine AW.region ?_
    refine AOps.cons (op_assign (A := rd (kint .i64) (-1)) rfl rfl (vk rfl)) rfl ?_
    refine AOps.nil ?_
    refine AW.ret ?_
    obtain rfl := Option.some.inj h
    exact ret1 Tryz.results58 rfl (out_tmp rfl)
  | succ m4 =>
    unfold F_slices_IndexFunc_Inst_l1 at h
    generalize hgo1 : F_slices_IndexFunc_Inst_l1 s1 f2 m4 = go1 at h
    refine AW.seq ?_
    refine AW.region ?_
    refine AOps.cons (op_lss rfl rfl (vt rfl) (vt rfl)) rfl ?_
    refine AOps.nil ?_
    refine AW.seq ?_
    refine AW.cond (vt rfl) (fun hc => ?_) (fun hc => absurd hsf1.succ (of_decide_eq_false hc))
    have hlti3 := of_decide_eq_true hc
    refine AW.skip ?_
    refine AW.seq ?_
    refine AW.block ?_
    refine AW.seq ?_
    refine AW.region ?_
    refine AOps.cons (op_move (A := rd (kint .i64) (i3 : Int)) rfl rfl (vt rfl)) rfl ?_
    refine AOps.cons (op_assign (A := rd (kint .i64) (i3 : Int)) rfl rfl (vt rfl)) rfl ?_
    refine AOps.nil ?_
    refine AW.seq ?_
    obtain ⟨e5, he5, h⟩ := bsome h
    obtain ⟨x6, hx6, h⟩ := bsome h
    refine AW.region ?_
    refine AOps.cons (op_move (A := fn1 Tryz.prog kInst kbool f2) rfl rfl (vt rfl)) rfl ?_
    refine AOps.cons (op_move (A := rd (ksl kInst) s1) rfl rfl (vt rfl)) rfl ?_
    refine AOps.cons (op_move (A := rd (kint .i64) (i3 : Int)) rfl rfl (vt rfl)) rfl ?_
    refine AOps.cons (op_indexs' rfl rfl sl52 (vt rfl) (vt rfl) he5) rfl ?_
    refine AOps.cons (op_loadp rfl rfl ty51 (vt rfl)) rfl ?_
    refine AOps.cons (op_call1 hx6 rfl rfl (vt rfl) (vt rfl)) rfl ?_
    refine AOps.nil ?_
    refine AW.cond (vt rfl) (fun hc => ?_) (fun hc => ?_)
    · have h := cond_t hc h
      refine AW.seq ?_
      refine AW.region ?_
      refine AOps.cons (op_move (A := rd (kint .i64) (i3 : Int)) rfl rfl (vt rfl)) rfl ?_
      refine AOps.cons (op_assign (A := rd (kint .i64) (i3 : Int)) rfl rfl (vt rfl)) rfl ?_
      refine AOps.nil ?_
      refine AW.ret ?_
      obtain rfl := Option.some.inj h
      exact ret1 Tryz.results58 rfl (out_tmp rfl)
    · have h := cond_f hc h
      refine AW.skip ?_
      refine AW.region ?_
      refine AOps.cons (op_incr (t := 7) rfl rfl (vt rfl) (vk rfl) (vt rfl) hlti3) rfl ?_
      refine AOps.cons (op_move (A := rd (kint .i64) ((i3 + 1 : Nat) : Int)) rfl rfl (vt rfl)) rfl ?_
      refine AOps.nil ?_
      subst hgo1
      exact ⟨(m4, i3 + 1), Nat.lt_succ_self _, ⟨hsf1.next, h⟩, ⟨rfl, ⟨rfl, rfl, rfl, rfl, trivial⟩, trivial⟩⟩
def F_slices_Clone_Action (s : List Action) : Option (List Action) := appd [] s
theorem c_slices_Clone_Action_o (s : List Action) (r : List Action) (h : F_slices_Clone_Action s = some r) : Con Tryz.prog 60 [rd (ksl kAction) s] emp (fun v => raw v) (fun v => Row v 48 kAction r) := by
  refine Con.intro0 Tryz.func60 rfl Tryz.ntmps60 rfl fun w H => ?_
  unfold F_slices_Clone_Action at h
  refine AW.newnil 1001 48 kAction ?_
  refine AW.seq ?_
  refine AW.region ?_
  refine AOps.cons (op_assign (A := raw (.slice none 0 0)) rfl rfl vc) rfl ?_
  refine AOps.nil ?_
  refine AW.seq ?_
  refine AW.seq ?_
  refine AW.region ?_
  refine AOps.cons (op_move (A := rd (ksl kAction) s) rfl rfl (vt rfl)) rfl ?_
  refine AOps.consT rfl (op_eqnil rfl rfl sl49 (vt rfl)) ?_
  rintro _ ⟨b, hb, rfl⟩
  refine AOps.nil ?_
  refine AW.cond (vt rfl) (fun hc => ?_) (fun hc => ?_)
  · obtain rfl := hb hc
    refine AW.seq ?_
    refine AW.region ?_
    refine AOps.cons (op_assign (A := raw (.slice none 0 0)) rfl rfl vc) rfl ?_
    refine AOps.nil ?_
    refine AW.ret ?_
    obtain rfl := (appd_of h).2
    exact ret1R (i := 1001) Tryz.results60 rfl rfl rfl
  · refine AW.skip ?_
    refine AW.seq ?_
    refine AW.region ?_
    refine AOps.consT rfl (op_buildSlice 1002 (ps := []) (l := []) rfl rfl sl49 zr48 rfl rfl rfl rfl) ?_
    rintro _ ⟨v1, rfl⟩
    refine AOps.cons (op_move (A := rd (ksl kAction) s) rfl rfl (vt rfl)) rfl ?_
    refine AOps.consT rfl (op_append' 1002 h rfl rfl el49 (vt rfl) rfl (vt rfl)) ?_
    rintro _ ⟨v2, rfl⟩
    refine AOps.cons (op_assign (A := raw v2) rfl rfl (vt rfl)) rfl ?_
    refine AOps.nil ?_
    refine AW.ret ?_
    exact ret1R (i := 1002) Tryz.results60 rfl rfl rfl
theorem c_slices_Clone_Action (s : List Action) (r : List Action) (h : F_slices_Clone_Action s = some r) : PCon Tryz.prog 60 [rd (ksl kAction) s] (rd (ksl kAction) r) := PCon.of_row (c_slices_Clone_Action_o s r h)
def F_inst_Of (l1 : (List Inst)) (kind2 : Int) : Option (Inst × Bool) :=
  (F_slices_IndexFunc_Inst l1 (fun x => F_inst_Of_1 x kind2)).bind fun x5 => (bif (decide (x5 < 0)) then some ((⟨0, 0, zWide, zWide, []⟩ : Inst), false) else (lget l1 x5).bind fun e6 => (F_slices_Clone_Action e6.Acts).bind fun x8 => some ({ e6 with Acts := x8 }, true))
theorem c_inst_Of (l1 : (List Inst)) (kind2 : Int) (r : (Inst × Bool)) (h : F_inst_Of l1 kind2 = some r) : PCon Tryz.prog 39 [rd (ksl kInst) l1, rd (kint .i64) kind2] (tup2 (rd kInst r.1) (rd kbool r.2)) := by
  refine PCon.of (Con.intro0 Tryz.func39 rfl Tryz.ntmps39 rfl fun w H => ?_)
  unfold F_inst_Of at h
  refine AW.seq ?_
  refine AW.region ?_
  refine AOps.consT rfl (op_box 4 rfl rfl (vt rfl)) ?_
  rintro _ ⟨g3, rfl⟩
  refine AOps.consT rfl (op_alloc 5 rfl rfl zr51) ?_
  rintro _ ⟨g4, rfl⟩
  refine AOps.cons (op_assign (A := rd kbool false) rfl rfl vb) rfl ?_
  refine AOps.nil ?_
  refine AW.seq ?_
  refine AW.freezeB 3 4 rfl rfl rfl ?_
  obtain ⟨x5, hx5, h⟩ := bsome h
  refine AW.region ?_
  refine AOps.cons (op_move (A := rd (ksl kInst) l1) rfl rfl (vt rfl)) rfl ?_
  refine AOps.cons (op_fn1 (cs := [.tmp 3]) (CAs := [rp (kint .i64) kind2]) (fun x => F_inst_Of_1 x kind2) rfl rfl (Ent.mk Tryz.func59 rfl rfl) ⟨vt rfl, trivial⟩ (fun x y h => c_inst_Of_1 _ _ y h)) rfl ?_
  refine AOps.cons (op_call (xs := [.tmp 8, .tmp 9]) (c_slices_IndexFunc_Inst _ _ _ hx5) (Ent.mk Tryz.func58 rfl rfl) rfl rfl ⟨vt rfl, vt rfl, trivial⟩) rfl ?_
  refine AOps.cons (op_assign (A := rd (kint .i64) x5) rfl rfl (vt rfl)) rfl ?_
  refine AOps.nil ?_
  refine AW.seq ?_
  refine AW.seq ?_
  refine AW.region ?_
  refine AOps.cons (op_move (A := rd (kint .i64) x5) rfl rfl (vt rfl)) rfl ?_
  refine AOps.cons (op_lss rfl rfl (vt rfl) (vk rfl)) rfl ?_
  refine AOps.nil ?_
  refine AW.cond (vt rfl) (fun hc => ?_) (fun hc => ?_)
  · have h := cond_t hc h
    refine AW.seq ?_
    refine AW.region ?_
    refine AOps.cons (op_build (ps := []) (x := (⟨0, 0, zWide, zWide, []⟩ : Inst)) rfl rfl rfl (by kernel_rfl) zr51 rfl) rfl ?_
    refine AOps.cons (op_store rfl rfl ty51 (vt rfl) (i := 5) rfl (vt rfl)) rfl ?_
    refine AOps.cons (op_assign (A := rd kbool false) rfl rfl vb) rfl ?_
    refine AOps.nil ?_
    refine AW.ret ?_
    obtain rfl := Option.some.inj h
    exact ret2 Tryz.results39 rfl (out_cell rfl (i := 5) rfl ty51) (out_tmp rfl)
  · have h := cond_f hc h
    refine AW.skip ?_
    refine AW.seq ?_
    obtain ⟨e6, he6, h⟩ := bsome h
    refine AW.region ?_
    refine AOps.cons (op_move (A := rd (ksl kInst) l1) rfl rfl (vt rfl)) rfl ?_
    refine AOps.cons (op_move (A := rd (kint .i64) x5) rfl rfl (vt rfl)) rfl ?_
    refine AOps.cons (op_indexs' rfl rfl sl52 (vt rfl) (vt rfl) he6) rfl ?_
    refine AOps.cons (op_loadp rfl rfl ty51 (vt rfl)) rfl ?_
    refine AOps.consT rfl (op_alloc 8 rfl rfl zr51) ?_
    rintro _ ⟨g7, rfl⟩
    refine AOps.cons (op_store rfl rfl ty51 (vt rfl) (i := 8) rfl (vt rfl)) rfl ?_
    refine AOps.nil ?_
    refine AW.seq ?_
    obtain ⟨x8, hx8, h⟩ := bsome h
    refine AW.region ?_
    refine AOps.cons (op_field lInst_4 rfl rfl fl51_4 (vt rfl)) rfl ?_
    refine AOps.cons (op_load rfl rfl ty49 (vt rfl) (i := 8) rfl) rfl ?_
    refine AOps.cons (op_call (xs := [.tmp 19]) (c_slices_Clone_Action _ _ hx8) (Ent.mk Tryz.func60 rfl rfl) rfl rfl ⟨vt rfl, trivial⟩) rfl ?_
    refine AOps.cons (op_field lInst_4 rfl rfl fl51_4 (vt rfl)) rfl ?_
    refine AOps.cons (op_store rfl rfl ty49 (vt rfl) (i := 8) rfl (vt rfl)) rfl ?_
    refine AOps.nil ?_
    refine AW.seq ?_
    refine AW.region ?_
    refine AOps.cons (op_load rfl rfl ty51 (vt rfl) (i := 8) rfl) rfl ?_
    refine AOps.cons (op_store rfl rfl ty51 (vt rfl) (i := 5) rfl (vt rfl)) rfl ?_
    refine AOps.cons (op_assign (A := rd kbool true) rfl rfl vb) rfl ?_
    refine AOps.nil ?_
    refine AW.ret ?_
    obtain rfl := Option.some.inj h
    exact ret2 Tryz.results39 rfl (out_cell rfl (i := 5) rfl ty51) (out_tmp rfl)
def F_rewrite_Clean_1 (i1 : Int) (cp2 : (Vector Tern 24)) : Option Tern :=
  (chk 24 i1).bind fun j4 => (F_tern_Clean (Vector.get cp2 j4)).bind fun x5 => some x5
theorem c_rewrite_Clean_1 (i1 : Int) (cp2 : (Vector Tern 24)) (r : Tern) (h : F_rewrite_Clean_1 i1 cp2 = some r) : PCon Tryz.prog 85 [rd (kint .i64) i1, rp (karr 24 kTern) cp2] (rd kTern r) := by
  refine PCon.of (Con.intro0 Tryz.func85 rfl Tryz.ntmps85 rfl fun w H => ?_)
  unfold F_rewrite_Clean_1 at h
  refine AW.seq ?_
  refine AW.region ?_
  refine AOps.consT rfl (op_alloc 4 rfl rfl zr36) ?_
  rintro _ ⟨g3, rfl⟩
  refine AOps.nil ?_
  refine AW.seq ?_
  obtain ⟨j4, hj4, h⟩ := bsome h
  obtain ⟨x5, hx5, h⟩ := bsome h
  refine AW.region ?_
  refine AOps.cons (op_move (A := rd (kint .i64) i1) rfl rfl (vt rfl)) rfl ?_
  refine AOps.cons (op_indexp' rfl rfl ar55 (vt rfl) (vt rfl) hj4) rfl ?_
  refine AOps.cons (op_loadp rfl rfl ty36 (vt rfl)) rfl ?_
  refine AOps.cons (op_call (xs := [.tmp 6]) (c_tern_Clean _ _ hx5) (Ent.mk Tryz.func52 rfl rfl) rfl rfl ⟨vt rfl, trivial⟩) rfl ?_
  refine AOps.cons (op_store rfl rfl ty36 (vt rfl) (i := 4) rfl (vt rfl)) rfl ?_
  refine AOps.nil ?_
  refine AW.ret ?_
  obtain rfl := Option.some.inj h
  exact ret1 Tryz.results85 rfl (out_cell rfl (i := 4) rfl ty36)
def F_rewrite_each_Rewrite_l1 (f1 : (Int → Option Tern)) : Nat → Nat → (Vector Tern 24) → Option (Vector Tern 24)
  | 0, i6, b5 => some b5
  | m7 + 1, i6, b5 => (f1 (i6 : Int)).bind fun x8 => (chk 24 (i6 : Int)).bind fun j9 => (F_rewrite_each_Rewrite_l1 f1 m7) (i6 + 1) (Vector.set b5 j9.1 x8 j9.2)
def F_rewrite_each_Rewrite (f1 : (Int → Option Tern)) : Option (Vector Tern 24) :=
  F_rewrite_each_Rewrite_l1 f1 (24 : Int).toNat 0 (Vector.replicate 24 zTern)
theorem c_rewrite_each_Rewrite (f1 : (Int → Option Tern)) (r : (Vector Tern 24)) (h : F_rewrite_each_Rewrite f1 = some r) : PCon Tryz.prog 84 [fn1 Tryz.prog (kint .i64) kTern f1] (rd (karr 24 kTern) r) := by
  refine PCon.of (Con.intro0 Tryz.func84 rfl Tryz.ntmps84 rfl fun w H => ?_)
  unfold F_rewrite_each_Rewrite at h
  refine AW.seq ?_
  refine AW.region ?_
  refine AOps.consT rfl (op_alloc 3 rfl rfl zr55) ?_
  rintro _ ⟨g2, rfl⟩
  refine AOps.nil ?_
  refine AW.seq ?_
  refine AW.region ?_
  refine AOps.consT rfl (op_alloc 4 rfl rfl zr55) ?_
  rintro _ ⟨g3, rfl⟩
  refine AOps.nil ?_
  refine AW.seq ?_
  refine AW.seq ?_
  refine AW.region ?_
  refine AOps.cons (op_move (A := rd (kint .i64) 0) rfl rfl (vk rfl)) rfl ?_
  refine AOps.nil ?_
  refine AW.block ?_
  refine AW.loopG (d := []) (ν := Nat × Nat × (Vector Tern 24)) (fun n => Cnt 24 n.2.1 n.1 ∧ F_rewrite_each_Rewrite_l1 f1 n.1 n.2.1 n.2.2 = some r) (fun n => n.1) (fun n => [(0, fn1 Tryz.prog (kint .i64) kTern f1), (2, ptrL g2 (Lens.id (karr 24 kTern))), (3, ptrL g3 (Lens.id (karr 24 kTern))), (5, rd (kint .i64) (n.2.1 : Int))]) (fun n => [(3, Blk g2 55 (karr 24 kTern) (Vector.replicate 24 zTern)), (4, Blk g3 55 (karr 24 kTern) n.2.2)]) ((24 : Int).toNat, 0, (Vector.replicate 24 zTern)) ⟨Cnt.start _, h⟩ ⟨rfl, ⟨rfl, rfl, rfl, rfl, trivial⟩, ⟨rfl, rfl, trivial⟩⟩ ?_
  rintro ⟨m7, i6, b5⟩ ⟨hsf1, h⟩
  change Cnt 24 i6 m7 at hsf1
  change F_rewrite_each_Rewrite_l1 f1 m7 i6 b5 = some r at h
  change AW _ _ _ ⟨slots [(0, fn1 Tryz.prog (kint .i64) kTern f1), (2, ptrL g2 (Lens.id (karr 24 kTern))), (3, ptrL g3 (Lens.id (karr 24 kTern))), (5, rd (kint .i64) (i6 : Int))], ress [(3, Blk g2 55 (karr 24 kTern) (Vector.replicate 24 zTern)), (4, Blk g3 55 (karr 24 kTern) b5)], _⟩
  cases m7 with
  | zero =>
    unfold F_rewrite_each_Rewrite_l1 at h
    refine AW.seq ?_
    refine AW.region ?_
    refine AOps.cons (op_lss rfl rfl (vt rfl) (vk rfl)) rfl ?_
    refine AOps.nil ?_
    refine AW.seq ?_
    refine AW.cond (vt rfl) (fun hc => absurd (of_decide_eq_true hc) hsf1.zero) (fun hc => ?_)
    refine AW.exit ?_
    refine AW.seq ?_
    refine AW.region ?_
    refine AOps.cons (op_load rfl rfl ty55 (vt rfl) (i := 4) rfl) rfl ?_
    refine AOps.cons (op_store rfl rfl ty55 (vt rfl) (i := 3) rfl (vt rfl)) rfl ?_
    refine AOps.nil ?_
    refine AW.ret ?_
    obtain rfl := Option.some.inj h
    exact ret1 Tryz.results84 rfl (out_cell rfl (i := 3) rfl ty55)
  | succ m7 =>
    unfold F_rewrite_each_Rewrite_l1 at h
    generalize hgo1 : F_rewrite_each_Rewrite_l1 f1 m7 = go1 at h
    refine AW.seq ?_
    refine AW.region ?_
    refine AOps.cons (op_lss rfl rfl (vt rfl) (vk rfl)) rfl ?_
    refine AOps.nil ?_
    refine AW.seq ?_
    refine AW.cond (vt rfl) (fun hc => ?_) (fun hc => absurd hsf1.succ (of_decide_eq_false hc))
    have hlti6 := of_decide_eq_true hc
    refine AW.skip ?_
    refine AW.seq ?_
    refine AW.block ?_
    refine AW.seq ?_
    refine AW.region ?_
    refine AOps.cons (op_move (A := rd (kint .i64) (i6 : Int)) rfl rfl (vt rfl)) rfl ?_
    refine AOps.cons (op_assign (A := rd (kint .i64) (i6 : Int)) rfl rfl (vt rfl)) rfl ?_
    refine AOps.nil ?_
    obtain ⟨x8, hx8, h⟩ := bsome h
    obtain ⟨j9, hj9, h⟩ := bsome h
    refine AW.region ?_
    refine AOps.cons (op_move (A := rd (kint .i64) (i6 : Int)) rfl rfl (vt rfl)) rfl ?_
    refine AOps.cons (op_move (A := fn1 Tryz.prog (kint .i64) kTern f1) rfl rfl (vt rfl)) rfl ?_
    refine AOps.cons (op_move (A := rd (kint .i64) (i6 : Int)) rfl rfl (vt rfl)) rfl ?_
    refine AOps.cons (op_call1 hx8 rfl rfl (vt rfl) (vt rfl)) rfl ?_
    refine AOps.cons (op_index' rfl rfl ar55 (vt rfl) (vt rfl) hj9) rfl ?_
    refine AOps.cons (op_store rfl rfl ty36 (vt rfl) (i := 4) rfl (vt rfl)) rfl ?_
    refine AOps.nil ?_
    refine AW.region ?_
    refine AOps.cons (op_incrc rfl rfl (vt rfl) (vk rfl) rfl hlti6) rfl ?_
    refine AOps.cons (op_move (A := rd (kint .i64) ((i6 + 1 : Nat) : Int)) rfl rfl (vt rfl)) rfl ?_
    refine AOps.nil ?_
    subst hgo1
    exact ⟨(m7, i6 + 1, (Vector.set b5 j9.1 x8 j9.2)), Nat.lt_succ_self _, ⟨hsf1.next, h⟩, ⟨rfl, ⟨rfl, rfl, rfl, rfl, trivial⟩, ⟨rfl, rfl, trivial⟩⟩⟩
def F_rewrite_Clean (r1 : (Vector Tern 24)) : Option (Vector Tern 24) :=
  (F_rewrite_each_Rewrite (fun x => F_rewrite_Clean_1 x r1)).bind fun x4 => some x4
theorem c_rewrite_Clean (r1 : (Vector Tern 24)) (r : (Vector Tern 24)) (h : F_rewrite_Clean r1 = some r) : PCon Tryz.prog 65 [rd (karr 24 kTern) r1] (rd (karr 24 kTern) r) := by
  refine PCon.of (Con.intro0 Tryz.func65 rfl Tryz.ntmps65 rfl fun w H => ?_)
  unfold F_rewrite_Clean at h
  refine AW.seq ?_
  refine AW.region ?_
  refine AOps.consT rfl (op_box 2 rfl rfl (vt rfl)) ?_
  rintro _ ⟨g2, rfl⟩
  refine AOps.consT rfl (op_alloc 3 rfl rfl zr55) ?_
  rintro _ ⟨g3, rfl⟩
  refine AOps.nil ?_
  refine AW.seq ?_
  refine AW.freezeB 1 2 rfl rfl rfl ?_
  obtain ⟨x4, hx4, h⟩ := bsome h
  refine AW.region ?_
  refine AOps.cons (op_fn1 (cs := [.tmp 1]) (CAs := [rp (karr 24 kTern) r1]) (fun x => F_rewrite_Clean_1 x r1) rfl rfl (Ent.mk Tryz.func85 rfl rfl) ⟨vt rfl, trivial⟩ (fun x y h => c_rewrite_Clean_1 _ _ y h)) rfl ?_
  refine AOps.cons (op_call (xs := [.tmp 3]) (c_rewrite_each_Rewrite _ _ hx4) (Ent.mk Tryz.func84 rfl rfl) rfl rfl ⟨vt rfl, trivial⟩) rfl ?_
  refine AOps.cons (op_store rfl rfl ty55 (vt rfl) (i := 3) rfl (vt rfl)) rfl ?_
  refine AOps.nil ?_
  refine AW.ret ?_
  obtain rfl := Option.some.inj h
  exact ret1 Tryz.results65 rfl (out_cell rfl (i := 3) rfl ty55)
def F_rewrite_over (a1 : Tern) (b2 : Tern) : Option Tern :=
  (F_tern_Clean a1).bind fun x6 => (F_tern_Clean b2).bind fun x7 => (F_wide_Less x6.Value x7.Mask).bind fun x8 => (F_wide_Or x8 x7.Value).bind fun x9 => (F_wide_Or x6.Mask x7.Mask).bind fun x10 => some (⟨x9, x10⟩ : Tern)
theorem c_rewrite_over (a1 : Tern) (b2 : Tern) (r : Tern) (h : F_rewrite_over a1 b2 = some r) : PCon Tryz.prog 67 [rd kTern a1, rd kTern b2] (rd kTern r) := by
  refine PCon.of (Con.intro0 Tryz.func67 rfl Tryz.ntmps67 rfl fun w H => ?_)
  unfold F_rewrite_over at h
  refine AW.seq ?_
  refine AW.region ?_
  refine AOps.consT rfl (op_box 3 rfl rfl (vt rfl)) ?_
  rintro _ ⟨g3, rfl⟩
  refine AOps.consT rfl (op_box 4 rfl rfl (vt rfl)) ?_
  rintro _ ⟨g4, rfl⟩
  refine AOps.consT rfl (op_alloc 5 rfl rfl zr36) ?_
  rintro _ ⟨g5, rfl⟩
  refine AOps.nil ?_
  refine AW.seq ?_
  obtain ⟨x6, hx6, h⟩ := bsome h
  obtain ⟨x7, hx7, h⟩ := bsome h
  refine AW.regionAny [⟨[2], [5], [3], []⟩, ⟨[5], [6], [], []⟩, ⟨[3], [7], [4], []⟩, ⟨[7], [8], [], []⟩, ⟨[2, 6], [], [3], [3]⟩, ⟨[3, 8], [], [4], [4]⟩] mixed (by kernel_rfl) ?_
  refine SeqA.cons (loc [2] [3] rfl rfl fun S hs hr => op_load rfl rfl ty36 (vt ((hs 2 rfl).trans rfl)) (i := 3) ((hr 3 rfl).trans rfl)) ⟨rfl, rfl, rfl, rfl⟩ ?_
  refine SeqA.cons (loc [5] [] rfl rfl fun S hs hr => op_call (xs := [.tmp 5]) (c_tern_Clean _ _ hx6) (Ent.mk Tryz.func52 rfl rfl) rfl rfl ⟨vt ((hs 5 rfl).trans rfl), trivial⟩) ⟨rfl, rfl, rfl, rfl⟩ ?_
  refine SeqA.cons (loc [3] [4] rfl rfl fun S hs hr => op_load rfl rfl ty36 (vt ((hs 3 rfl).trans rfl)) (i := 4) ((hr 4 rfl).trans rfl)) ⟨rfl, rfl, rfl, rfl⟩ ?_
  refine SeqA.cons (loc [7] [] rfl rfl fun S hs hr => op_call (xs := [.tmp 7]) (c_tern_Clean _ _ hx7) (Ent.mk Tryz.func52 rfl rfl) rfl rfl ⟨vt ((hs 7 rfl).trans rfl), trivial⟩) ⟨rfl, rfl, rfl, rfl⟩ ?_
  refine SeqA.cons (locr [2, 6] [3] rfl fun S hs hr => op_store rfl rfl ty36 (vt ((hs 2 rfl).trans rfl)) (i := 3) ((hr 3 rfl).trans rfl) (vt ((hs 6 rfl).trans rfl))) ⟨rfl, rfl, rfl, rfl⟩ ?_
  refine SeqA.cons (locr [3, 8] [4] rfl fun S hs hr => op_store rfl rfl ty36 (vt ((hs 3 rfl).trans rfl)) (i := 4) ((hr 4 rfl).trans rfl) (vt ((hs 8 rfl).trans rfl))) ⟨rfl, rfl, rfl, rfl⟩ ?_
  refine AW.seq ?_
  obtain ⟨x8, hx8, h⟩ := bsome h
  obtain ⟨x9, hx9, h⟩ := bsome h
  obtain ⟨x10, hx10, h⟩ := bsome h
  refine AW.regionAny [⟨[2], [9], [], []⟩, ⟨[9], [10], [3], []⟩, ⟨[3], [11], [], []⟩, ⟨[11], [12], [4], []⟩, ⟨[10, 12], [13], [], []⟩, ⟨[3], [14], [], []⟩, ⟨[14], [15], [4], []⟩, ⟨[13, 15], [16], [], []⟩, ⟨[2], [17], [], []⟩, ⟨[17], [18], [3], []⟩, ⟨[3], [19], [], []⟩, ⟨[19], [20], [4], []⟩, ⟨[18, 20], [21], [], []⟩, ⟨[16, 21], [22], [], []⟩, ⟨[4, 22], [], [5], [5]⟩] mixed (by kernel_rfl) ?_
  refine SeqA.cons (loc [2] [] rfl rfl fun S hs hr => op_field lTern_0 rfl rfl fl36_0 (vt ((hs 2 rfl).trans rfl))) ⟨rfl, rfl, rfl, rfl⟩ ?_
  refine SeqA.cons (loc [9] [3] rfl rfl fun S hs hr => op_load rfl rfl ty34 (vt ((hs 9 rfl).trans rfl)) (i := 3) ((hr 3 rfl).trans rfl)) ⟨rfl, rfl, rfl, rfl⟩ ?_
  refine SeqA.cons (loc [3] [] rfl rfl fun S hs hr => op_field lTern_1 rfl rfl fl36_1 (vt ((hs 3 rfl).trans rfl))) ⟨rfl, rfl, rfl, rfl⟩ ?_
  refine SeqA.cons (loc [11] [4] rfl rfl fun S hs hr => op_load rfl rfl ty34 (vt ((hs 11 rfl).trans rfl)) (i := 4) ((hr 4 rfl).trans rfl)) ⟨rfl, rfl, rfl, rfl⟩ ?_
  refine SeqA.cons (loc [10, 12] [] rfl rfl fun S hs hr => op_call (xs := [.tmp 10, .tmp 12]) (c_wide_Less _ _ _ hx8) (Ent.mk Tryz.func53 rfl rfl) rfl rfl ⟨vt ((hs 10 rfl).trans rfl), vt ((hs 12 rfl).trans rfl), trivial⟩) ⟨rfl, rfl, rfl, rfl⟩ ?_
  refine SeqA.cons (loc [3] [] rfl rfl fun S hs hr => op_field lTern_0 rfl rfl fl36_0 (vt ((hs 3 rfl).trans rfl))) ⟨rfl, rfl, rfl, rfl⟩ ?_
  refine SeqA.cons (loc [14] [4] rfl rfl fun S hs hr => op_load rfl rfl ty34 (vt ((hs 14 rfl).trans rfl)) (i := 4) ((hr 4 rfl).trans rfl)) ⟨rfl, rfl, rfl, rfl⟩ ?_
  refine SeqA.cons (loc [13, 15] [] rfl rfl fun S hs hr => op_call (xs := [.tmp 13, .tmp 15]) (c_wide_Or _ _ _ hx9) (Ent.mk Tryz.func79 rfl rfl) rfl rfl ⟨vt ((hs 13 rfl).trans rfl), vt ((hs 15 rfl).trans rfl), trivial⟩) ⟨rfl, rfl, rfl, rfl⟩ ?_
  refine SeqA.cons (loc [2] [] rfl rfl fun S hs hr => op_field lTern_1 rfl rfl fl36_1 (vt ((hs 2 rfl).trans rfl))) ⟨rfl, rfl, rfl, rfl⟩ ?_
  refine SeqA.cons (loc [17] [3] rfl rfl fun S hs hr => op_load rfl rfl ty34 (vt ((hs 17 rfl).trans rfl)) (i := 3) ((hr 3 rfl).trans rfl)) ⟨rfl, rfl, rfl, rfl⟩ ?_
  refine SeqA.cons (loc [3] [] rfl rfl fun S hs hr => op_field lTern_1 rfl rfl fl36_1 (vt ((hs 3 rfl).trans rfl))) ⟨rfl, rfl, rfl, rfl⟩ ?_
  refine SeqA.cons (loc [19] [4] rfl rfl fun S hs hr => op_load rfl rfl ty34 (vt ((hs 19 rfl).trans rfl)) (i := 4) ((hr 4 rfl).trans rfl)) ⟨rfl, rfl, rfl, rfl⟩ ?_
  refine SeqA.cons (loc [18, 20] [] rfl rfl fun S hs hr => op_call (xs := [.tmp 18, .tmp 20]) (c_wide_Or _ _ _ hx10) (Ent.mk Tryz.func79 rfl rfl) rfl rfl ⟨vt ((hs 18 rfl).trans rfl), vt ((hs 20 rfl).trans rfl), trivial⟩) ⟨rfl, rfl, rfl, rfl⟩ ?_
  refine SeqA.cons (loc [16, 21] [] rfl rfl fun S hs hr => op_build (ps := [(0, .tmp 16), (1, .tmp 21)]) (x := (⟨x9, x10⟩ : Tern)) rfl rfl rfl (by kernel_rfl) zr36 ⟨_, _, lTern_0, _, by kernel_rfl, (vt ((hs 16 rfl).trans rfl)), _, _, lTern_1, _, by kernel_rfl, (vt ((hs 21 rfl).trans rfl)), rfl⟩) ⟨rfl, rfl, rfl, rfl⟩ ?_
  refine SeqA.cons (locr [4, 22] [5] rfl fun S hs hr => op_store rfl rfl ty36 (vt ((hs 4 rfl).trans rfl)) (i := 5) ((hr 5 rfl).trans rfl) (vt ((hs 22 rfl).trans rfl))) ⟨rfl, rfl, rfl, rfl⟩ ?_
  refine AW.ret ?_
  obtain rfl := Option.some.inj h
  exact ret1 Tryz.results67 rfl (out_cell rfl (i := 5) rfl ty36)
end Go.Proofs.YtokmmcflinnfiabGreat.W
set_option linter.unusedVariables false
set_option maxRecDepth 4000
set_option linter.unusedSimpArgs false
namespace Go.Proofs.YtokmmcflinnfiabGreat.W
open Go Go.Wb
def F_rewrite_Set (r1 : (Vector Tern 24)) (f2 : Int) (value3 : Wide) (mask4 : Wide) : Option (Vector Tern 24) :=
  (F_rewrite_Clean r1).bind fun x9 => (F_field_Right f2).bind fun x10 => (bif x10 then (chk 24 f2).bind fun j11 => (F_rewrite_over (Vector.get x9 j11) (⟨value3, mask4⟩ : Tern)).bind fun x12 => (chk 24 f2).bind fun j13 => some (Vector.set x9 j13.1 x12 j13.2) else some x9)
theorem c_rewrite_Set (r1 : (Vector Tern 24)) (f2 : Int) (value3 : Wide) (mask4 : Wide) (r : (Vector Tern 24)) (h : F_rewrite_Set r1 f2 value3 mask4 = some r) : PCon Tryz.prog 42 [rd (karr 24 kTern) r1, rd (kint .i64) f2, rd kWide value3, rd kWide mask4] (rd (karr 24 kTern) r) := by
  refine PCon.of (Con.intro0 Tryz.func42 rfl Tryz.ntmps42 rfl fun w H => ?_)
  unfold F_rewrite_Set at h
  refine AW.seq ?_
  refine AW.region ?_
  refine AOps.consT rfl (op_box 5 rfl rfl (vt rfl)) ?_
  rintro _ ⟨g5, rfl⟩
  refine AOps.consT rfl (op_box 7 rfl rfl (vt rfl)) ?_
  rintro _ ⟨g6, rfl⟩
  refine AOps.consT rfl (op_box 8 rfl rfl (vt rfl)) ?_
  rintro _ ⟨g7, rfl⟩
  refine AOps.consT rfl (op_alloc 9 rfl rfl zr55) ?_
  rintro _ ⟨g8, rfl⟩
  refine AOps.nil ?_
  refine AW.seq ?_
  obtain ⟨x9, hx9, h⟩ := bsome h
  refine AW.region ?_
  refine AOps.cons (op_load rfl rfl ty55 (vt rfl) (i := 5) rfl) rfl ?_
  refine AOps.cons (op_call (xs := [.tmp 9]) (c_rewrite_Clean _ _ hx9) (Ent.mk Tryz.func65 rfl rfl) rfl rfl ⟨vt rfl, trivial⟩) rfl ?_
  refine AOps.cons (op_store rfl rfl ty55 (vt rfl) (i := 5) rfl (vt rfl)) rfl ?_
  refine AOps.nil ?_
  refine AW.seq ?_
  refine AW.seq ?_
  obtain ⟨x10, hx10, h⟩ := bsome h
  refine AW.region ?_
  refine AOps.cons (op_move (A := rd (kint .i64) f2) rfl rfl (vt rfl)) rfl ?_
  refine AOps.cons (op_call (xs := [.tmp 11]) (c_field_Right _ _ hx10) (Ent.mk Tryz.func66 rfl rfl) rfl rfl ⟨vt rfl, trivial⟩) rfl ?_
  refine AOps.nil ?_
  refine AW.cond (vt rfl) (fun hc => ?_) (fun hc => ?_)
  · have h := cond_t hc h
    obtain ⟨j11, hj11, h⟩ := bsome h
    obtain ⟨x12, hx12, h⟩ := bsome h
    obtain ⟨j13, hj13, h⟩ := bsome h
    refine AW.regionAny [⟨[1], [13], [], []⟩, ⟨[1], [14], [], []⟩, ⟨[4, 14], [15], [], []⟩, ⟨[15], [16], [5], []⟩, ⟨[6], [17], [7], []⟩, ⟨[7], [18], [8], []⟩, ⟨[17, 18], [19], [], []⟩, ⟨[16, 19], [20], [], []⟩, ⟨[4, 13], [21], [], []⟩, ⟨[21, 20], [], [5], [5]⟩] mixed (by kernel_rfl) ?_
    refine SeqA.cons (loc [1] [] rfl rfl fun S hs hr => op_move (A := rd (kint .i64) f2) rfl rfl (vt ((hs 1 rfl).trans rfl))) ⟨rfl, rfl, rfl, rfl⟩ ?_
    refine SeqA.cons (loc [1] [] rfl rfl fun S hs hr => op_move (A := rd (kint .i64) f2) rfl rfl (vt ((hs 1 rfl).trans rfl))) ⟨rfl, rfl, rfl, rfl⟩ ?_
    refine SeqA.cons (loc [4, 14] [] rfl rfl fun S hs hr => op_index' rfl rfl ar55 (vt ((hs 4 rfl).trans rfl)) (vt ((hs 14 rfl).trans rfl)) hj11) ⟨rfl, rfl, rfl, rfl⟩ ?_
    refine SeqA.cons (loc [15] [5] rfl rfl fun S hs hr => op_load rfl rfl ty36 (vt ((hs 15 rfl).trans rfl)) (i := 5) ((hr 5 rfl).trans rfl)) ⟨rfl, rfl, rfl, rfl⟩ ?_
    refine SeqA.cons (loc [6] [7] rfl rfl fun S hs hr => op_load rfl rfl ty34 (vt ((hs 6 rfl).trans rfl)) (i := 7) ((hr 7 rfl).trans rfl)) ⟨rfl, rfl, rfl, rfl⟩ ?_
    refine SeqA.cons (loc [7] [8] rfl rfl fun S hs hr => op_load rfl rfl ty34 (vt ((hs 7 rfl).trans rfl)) (i := 8) ((hr 8 rfl).trans rfl)) ⟨rfl, rfl, rfl, rfl⟩ ?_
    refine SeqA.cons (loc [17, 18] [] rfl rfl fun S hs hr => op_build (ps := [(0, .tmp 17), (1, .tmp 18)]) (x := (⟨value3, mask4⟩ : Tern)) rfl rfl rfl (by kernel_rfl) zr36 ⟨_, _, lTern_0, _, by kernel_rfl, (vt ((hs 17 rfl).trans rfl)), _, _, lTern_1, _, by kernel_rfl, (vt ((hs 18 rfl).trans rfl)), rfl⟩) ⟨rfl, rfl, rfl, rfl⟩ ?_
    refine SeqA.cons (loc [16, 19] [] rfl rfl fun S hs hr => op_call (xs := [.tmp 16, .tmp 19]) (c_rewrite_over _ _ _ hx12) (Ent.mk Tryz.func67 rfl rfl) rfl rfl ⟨vt ((hs 16 rfl).trans rfl), vt ((hs 19 rfl).trans rfl), trivial⟩) ⟨rfl, rfl, rfl, rfl⟩ ?_
    refine SeqA.cons (loc [4, 13] [] rfl rfl fun S hs hr => op_index' rfl rfl ar55 (vt ((hs 4 rfl).trans rfl)) (vt ((hs 13 rfl).trans rfl)) hj13) ⟨rfl, rfl, rfl, rfl⟩ ?_
    refine SeqA.cons (locr [21, 20] [5] rfl fun S hs hr => op_store rfl rfl ty36 (vt ((hs 21 rfl).trans rfl)) (i := 5) ((hr 5 rfl).trans rfl) (vt ((hs 20 rfl).trans rfl))) ⟨rfl, rfl, rfl, rfl⟩ ?_
    refine AW.seq ?_
    refine AW.region ?_
    refine AOps.cons (op_load rfl rfl ty55 (vt rfl) (i := 5) rfl) rfl ?_
    refine AOps.cons (op_store rfl rfl ty55 (vt rfl) (i := 9) rfl (vt rfl)) rfl ?_
    refine AOps.nil ?_
    refine AW.ret ?_
    obtain rfl := Option.some.inj h
    exact ret1 Tryz.results42 rfl (out_cell rfl (i := 9) rfl ty55)
  · have h := cond_f hc h
    refine AW.skip ?_
    refine AW.seq ?_
    refine AW.region ?_
    refine AOps.cons (op_load rfl rfl ty55 (vt rfl) (i := 5) rfl) rfl ?_
    refine AOps.cons (op_store rfl rfl ty55 (vt rfl) (i := 9) rfl (vt rfl)) rfl ?_
    refine AOps.nil ?_
    refine AW.ret ?_
    obtain rfl := Option.some.inj h
    exact ret1 Tryz.results42 rfl (out_cell rfl (i := 9) rfl ty55)
def F_wide_Bit (i1 : Int) : Option Wide :=
  (bif ((decide (i1 < 0)) || (decide (i1 > 127))) then some (⟨0, 0⟩ : Wide) else (oquo .i64 i1 64).bind fun q4 => (omod i1 64).bind fun q5 => (oushl (1 : BitVec 64) q5).bind fun q6 => (chk 2 q4).bind fun j7 => some (⟨(Vector.get (Vector.set (Vector.replicate 2 0) j7.1 q6 j7.2) (⟨1, by decide⟩ : _root_.Fin 2)), (Vector.get (Vector.set (Vector.replicate 2 0) j7.1 q6 j7.2) (⟨0, by decide⟩ : _root_.Fin 2))⟩ : Wide))
theorem c_wide_Bit (i1 : Int) (r : Wide) (h : F_wide_Bit i1 = some r) : PCon Tryz.prog 102 [rd (kint .i64) i1] (rd kWide r) := by
  refine PCon.of (Con.intro0 Tryz.func102 rfl Tryz.ntmps102 rfl fun w H => ?_)
  unfold F_wide_Bit at h
  refine AW.seq ?_
  refine AW.region ?_
  refine AOps.consT rfl (op_alloc 3 rfl rfl zr34) ?_
  rintro _ ⟨g2, rfl⟩
  refine AOps.nil ?_
  refine AW.seq ?_
  refine AW.region ?_
  refine AOps.consT rfl (op_alloc 4 rfl rfl zr165) ?_
  rintro _ ⟨g3, rfl⟩
  refine AOps.nil ?_
  refine AW.seq ?_
  refine AW.seq ?_
  refine AW.region ?_
  refine AOps.cons (op_move (A := rd (kint .i64) i1) rfl rfl (vt rfl)) rfl ?_
  refine AOps.cons (op_lss rfl rfl (vt rfl) (vk rfl)) rfl ?_
  refine AOps.cons (op_move (A := rd kbool (decide (i1 < 0))) rfl rfl (vt rfl)) rfl ?_
  refine AOps.consG (OpG.guard rfl rfl rfl rfl rfl fun hq => op_move (A := rd (kint .i64) i1) rfl rfl (vt rfl)) ?_
  refine AOps.consG (OpG.guard rfl rfl rfl rfl rfl fun hq => op_gtr rfl rfl (vgt rfl hq) (vk rfl)) ?_
  refine AOps.cons (op_any rfl rfl (vt rfl) (vt rfl)) rfl ?_
  refine AOps.nil ?_
  refine AW.cond (vt rfl) (fun hc => ?_) (fun hc => ?_)
  · have h := cond_t hc h
    refine AW.seq ?_
    refine AW.region ?_
    refine AOps.cons (op_build (ps := []) (x := (⟨0, 0⟩ : Wide)) rfl rfl rfl (by kernel_rfl) zr34 rfl) rfl ?_
    refine AOps.cons (op_store rfl rfl ty34 (vt rfl) (i := 3) rfl (vt rfl)) rfl ?_
    refine AOps.nil ?_
    refine AW.ret ?_
    obtain rfl := Option.some.inj h
    exact ret1 Tryz.results102 rfl (out_cell rfl (i := 3) rfl ty34)
  · have h := cond_f hc h
    refine AW.skip ?_
    refine AW.seq ?_
    obtain ⟨q4, hq4, h⟩ := bsome h
    obtain ⟨q5, hq5, h⟩ := bsome h
    obtain ⟨q6, hq6, h⟩ := bsome h
    obtain ⟨j7, hj7, h⟩ := bsome h
    refine AW.region ?_
    refine AOps.cons (op_move (A := rd (kint .i64) i1) rfl rfl (vt rfl)) rfl ?_
    refine AOps.cons (op_quo rfl rfl (vt rfl) (vk rfl) hq4) rfl ?_
    refine AOps.cons (op_move (A := rd (kint .i64) i1) rfl rfl (vt rfl)) rfl ?_
    refine AOps.cons (op_rem rfl rfl (vt rfl) (vk rfl) hq5) rfl ?_
    refine AOps.cons (op_ushl rfl rfl (vku (1 : BitVec 64) rfl) (vt rfl) hq6) rfl ?_
    refine AOps.cons (op_index' rfl rfl ar165 (vt rfl) (vt rfl) hj7) rfl ?_
    refine AOps.cons (op_store rfl rfl ty32 (vt rfl) (i := 4) rfl (vt rfl)) rfl ?_
    refine AOps.nil ?_
    refine AW.seq ?_
    refine AW.region ?_
    refine AOps.cons (op_index' rfl rfl ar165 (vt rfl) (vk rfl) rfl) rfl ?_
    refine AOps.cons (op_load rfl rfl ty32 (vt rfl) (i := 4) rfl) rfl ?_
    refine AOps.cons (op_index' rfl rfl ar165 (vt rfl) (vk rfl) rfl) rfl ?_
    refine AOps.cons (op_load rfl rfl ty32 (vt rfl) (i := 4) rfl) rfl ?_
    refine AOps.cons (op_build (ps := [(0, .tmp 18), (1, .tmp 20)]) (x := (⟨(Vector.get (Vector.set (Vector.replicate 2 0) j7.1 q6 j7.2) (⟨1, by decide⟩ : _root_.Fin 2)), (Vector.get (Vector.set (Vector.replicate 2 0) j7.1 q6 j7.2) (⟨0, by decide⟩ : _root_.Fin 2))⟩ : Wide)) rfl rfl rfl (by kernel_rfl) zr34 ⟨_, _, lWide_0, _, by kernel_rfl, (vt rfl), _, _, lWide_1, _, by kernel_rfl, (vt rfl), rfl⟩) rfl ?_
    refine AOps.cons (op_store rfl rfl ty34 (vt rfl) (i := 3) rfl (vt rfl)) rfl ?_
    refine AOps.nil ?_
    refine AW.ret ?_
    obtain rfl := Option.some.inj h
    exact ret1 Tryz.results102 rfl (out_cell rfl (i := 3) rfl ty34)
def F_aset_Rewrite (a1 : Action) : Option (Vector Tern 24) :=
  (F_rewrite_None).bind fun x4 => (bif (decide (a1.Kind = 25)) then (F_oxm_Tern a1.Oxm).bind fun x6 => (F_rewrite_Set x4 a1.Oxm.Field x6.Value x6.Mask).bind fun x8 => some x8 else (bif (decide (a1.Kind = 17)) then (F_wide_Bit 12).bind fun x9 => (F_wide_Bit 12).bind fun x10 => (F_rewrite_Set x4 5 x9 x10).bind fun x11 => some x11 else (bif (decide (a1.Kind = 18)) then (F_wide_Low 13).bind fun x12 => (F_rewrite_Set x4 5 (⟨0, 0⟩ : Wide) x12).bind fun x13 => (F_wide_Low 3).bind fun x14 => (F_rewrite_Set x13 6 (⟨0, 0⟩ : Wide) x14).bind fun x15 => some x15 else some x4)))
theorem c_aset_Rewrite (a1 : Action) (r : (Vector Tern 24)) (h : F_aset_Rewrite a1 = some r) : PCon Tryz.prog 94 [rd kAction a1] (rd (karr 24 kTern) r) := by
  refine PCon.of (Con.intro0 Tryz.func94 rfl Tryz.ntmps94 rfl fun w H => ?_)
  unfold F_aset_Rewrite at h
  refine AW.seq ?_
  refine AW.region ?_
  refine AOps.consT rfl (op_box 2 rfl rfl (vt rfl)) ?_
  rintro _ ⟨g2, rfl⟩
  refine AOps.consT rfl (op_alloc 3 rfl rfl zr55) ?_
  rintro _ ⟨g3, rfl⟩
  refine AOps.nil ?_
  refine AW.seq ?_
  obtain ⟨x4, hx4, h⟩ := bsome h
  refine AW.region ?_
  refine AOps.cons (op_call (xs := []) (c_rewrite_None _ hx4) (Ent.mk Tryz.func16 rfl rfl) rfl rfl trivial) rfl ?_
  refine AOps.consT rfl (op_alloc 4 rfl rfl zr55) ?_
  rintro _ ⟨g5, rfl⟩
  refine AOps.cons (op_store rfl rfl ty55 (vt rfl) (i := 4) rfl (vt rfl)) rfl ?_
  refine AOps.nil ?_
  refine AW.seq ?_
  refine AW.seq ?_
  refine AW.region ?_
  refine AOps.cons (op_field lAction_0 rfl rfl fl48_0 (vt rfl)) rfl ?_
  refine AOps.cons (op_load rfl rfl ty3 (vt rfl) (i := 2) rfl) rfl ?_
  refine AOps.nil ?_
  refine AW.block ?_
  refine AW.seq ?_
  refine AW.region ?_
  refine AOps.cons (op_eql rfl rfl (vt rfl) (vk rfl)) rfl ?_
  refine AOps.cons (op_assign (A := rd kbool (decide (a1.Kind = 25))) rfl rfl (vt rfl)) rfl ?_
  refine AOps.nil ?_
  refine AW.cond (vt rfl) (fun hc => ?_) (fun hc => ?_)
  · have h := cond_t hc h
    refine AW.seq ?_
    obtain ⟨x6, hx6, h⟩ := bsome h
    refine AW.region ?_
    refine AOps.cons (op_field lAction_5 rfl rfl fl48_5 (vt rfl)) rfl ?_
    refine AOps.cons (op_load rfl rfl ty45 (vt rfl) (i := 2) rfl) rfl ?_
    refine AOps.cons (op_call (xs := [.tmp 11]) (c_oxm_Tern _ _ hx6) (Ent.mk Tryz.func81 rfl rfl) rfl rfl ⟨vt rfl, trivial⟩) rfl ?_
    refine AOps.consT rfl (op_alloc 5 rfl rfl zr36) ?_
    rintro _ ⟨g7, rfl⟩
    refine AOps.cons (op_store rfl rfl ty36 (vt rfl) (i := 5) rfl (vt rfl)) rfl ?_
    refine AOps.nil ?_
    obtain ⟨x8, hx8, h⟩ := bsome h
    refine AW.region ?_
    refine AOps.cons (op_load rfl rfl ty55 (vt rfl) (i := 4) rfl) rfl ?_
    refine AOps.cons (op_field lAction_5 rfl rfl fl48_5 (vt rfl)) rfl ?_
    refine AOps.cons (op_field lOxm_0 rfl rfl fl45_0 (vt rfl)) rfl ?_
    refine AOps.cons (op_load rfl rfl ty3 (vt rfl) (i := 2) rfl) rfl ?_
    refine AOps.cons (op_field lTern_0 rfl rfl fl36_0 (vt rfl)) rfl ?_
    refine AOps.cons (op_load rfl rfl ty34 (vt rfl) (i := 5) rfl) rfl ?_
    refine AOps.cons (op_field lTern_1 rfl rfl fl36_1 (vt rfl)) rfl ?_
    refine AOps.cons (op_load rfl rfl ty34 (vt rfl) (i := 5) rfl) rfl ?_
    refine AOps.cons (op_call (xs := [.tmp 13, .tmp 16, .tmp 18, .tmp 20]) (c_rewrite_Set _ _ _ _ _ hx8) (Ent.mk Tryz.func42 rfl rfl) rfl rfl ⟨vt rfl, vt rfl, vt rfl, vt rfl, trivial⟩) rfl ?_
    refine AOps.cons (op_store rfl rfl ty55 (vt rfl) (i := 4) rfl (vt rfl)) rfl ?_
    refine AOps.nil ?_
    refine AW.seq ?_
    refine AW.region ?_
    refine AOps.cons (op_load rfl rfl ty55 (vt rfl) (i := 4) rfl) rfl ?_
    refine AOps.cons (op_store rfl rfl ty55 (vt rfl) (i := 3) rfl (vt rfl)) rfl ?_
    refine AOps.nil ?_
    refine AW.ret ?_
    obtain rfl := Option.some.inj h
    exact ret1 Tryz.results94 rfl (out_cell rfl (i := 3) rfl ty55)
  · have h := cond_f hc h
    refine AW.seq ?_
    refine AW.region ?_
    refine AOps.cons (op_eql rfl rfl (vt rfl) (vk rfl)) rfl ?_
    refine AOps.cons (op_assign (A := rd kbool (decide (a1.Kind = 17))) rfl rfl (vt rfl)) rfl ?_
    refine AOps.nil ?_
    refine AW.cond (vt rfl) (fun hc => ?_) (fun hc => ?_)
    · have h := cond_t hc h
      obtain ⟨x9, hx9, h⟩ := bsome h
      obtain ⟨x10, hx10, h⟩ := bsome h
      obtain ⟨x11, hx11, h⟩ := bsome h
      refine AW.regionAny [⟨[3], [24], [4], []⟩, ⟨[], [25], [], []⟩, ⟨[], [26], [], []⟩, ⟨[24, 25, 26], [27], [], []⟩, ⟨[3, 27], [], [4], [4]⟩] mixed (by kernel_rfl) ?_
      refine SeqA.cons (loc [3] [4] rfl rfl fun S hs hr => op_load rfl rfl ty55 (vt ((hs 3 rfl).trans rfl)) (i := 4) ((hr 4 rfl).trans rfl)) ⟨rfl, rfl, rfl, rfl⟩ ?_
      refine SeqA.cons (loc [] [] rfl rfl fun S hs hr => op_call (xs := [.const (Value.int IntKind.i64 12)]) (c_wide_Bit _ _ hx9) (Ent.mk Tryz.func102 rfl rfl) rfl rfl ⟨vk rfl, trivial⟩) ⟨rfl, rfl, rfl, rfl⟩ ?_
      refine SeqA.cons (loc [] [] rfl rfl fun S hs hr => op_call (xs := [.const (Value.int IntKind.i64 12)]) (c_wide_Bit _ _ hx10) (Ent.mk Tryz.func102 rfl rfl) rfl rfl ⟨vk rfl, trivial⟩) ⟨rfl, rfl, rfl, rfl⟩ ?_
      refine SeqA.cons (loc [24, 25, 26] [] rfl rfl fun S hs hr => op_call (xs := [.tmp 24, .const (Value.int IntKind.i64 5), .tmp 25, .tmp 26]) (c_rewrite_Set _ _ _ _ _ hx11) (Ent.mk Tryz.func42 rfl rfl) rfl rfl ⟨vt ((hs 24 rfl).trans rfl), vk rfl, vt ((hs 25 rfl).trans rfl), vt ((hs 26 rfl).trans rfl), trivial⟩) ⟨rfl, rfl, rfl, rfl⟩ ?_
      refine SeqA.cons (locr [3, 27] [4] rfl fun S hs hr => op_store rfl rfl ty55 (vt ((hs 3 rfl).trans rfl)) (i := 4) ((hr 4 rfl).trans rfl) (vt ((hs 27 rfl).trans rfl))) ⟨rfl, rfl, rfl, rfl⟩ ?_
      refine AW.seq ?_
      refine AW.region ?_
      refine AOps.cons (op_load rfl rfl ty55 (vt rfl) (i := 4) rfl) rfl ?_
      refine AOps.cons (op_store rfl rfl ty55 (vt rfl) (i := 3) rfl (vt rfl)) rfl ?_
      refine AOps.nil ?_
      refine AW.ret ?_
      obtain rfl := Option.some.inj h
      exact ret1 Tryz.results94 rfl (out_cell rfl (i := 3) rfl ty55)
    · have h := cond_f hc h
      refine AW.seq ?_
      refine AW.region ?_
      refine AOps.cons (op_eql rfl rfl (vt rfl) (vk rfl)) rfl ?_
      refine AOps.cons (op_assign (A := rd kbool (decide (a1.Kind = 18))) rfl rfl (vt rfl)) rfl ?_
      refine AOps.nil ?_
      refine AW.cond (vt rfl) (fun hc => ?_) (fun hc => ?_)
      · have h := cond_t hc h
        refine AW.seq ?_
        obtain ⟨x12, hx12, h⟩ := bsome h
        obtain ⟨x13, hx13, h⟩ := bsome h
        refine AW.regionAny [⟨[3], [30], [4], []⟩, ⟨[], [31], [], []⟩, ⟨[], [32], [], []⟩, ⟨[30, 31, 32], [33], [], []⟩, ⟨[3, 33], [], [4], [4]⟩] mixed (by kernel_rfl) ?_
        refine SeqA.cons (loc [3] [4] rfl rfl fun S hs hr => op_load rfl rfl ty55 (vt ((hs 3 rfl).trans rfl)) (i := 4) ((hr 4 rfl).trans rfl)) ⟨rfl, rfl, rfl, rfl⟩ ?_
        refine SeqA.cons (loc [] [] rfl rfl fun S hs hr => op_build (ps := []) (x := (⟨0, 0⟩ : Wide)) rfl rfl rfl (by kernel_rfl) zr34 rfl) ⟨rfl, rfl, rfl, rfl⟩ ?_
        refine SeqA.cons (loc [] [] rfl rfl fun S hs hr => op_call (xs := [.const (Value.int IntKind.i64 13)]) (c_wide_Low _ _ hx12) (Ent.mk Tryz.func91 rfl rfl) rfl rfl ⟨vk rfl, trivial⟩) ⟨rfl, rfl, rfl, rfl⟩ ?_
        refine SeqA.cons (loc [30, 31, 32] [] rfl rfl fun S hs hr => op_call (xs := [.tmp 30, .const (Value.int IntKind.i64 5), .tmp 31, .tmp 32]) (c_rewrite_Set _ _ _ _ _ hx13) (Ent.mk Tryz.func42 rfl rfl) rfl rfl ⟨vt ((hs 30 rfl).trans rfl), vk rfl, vt ((hs 31 rfl).trans rfl), vt ((hs 32 rfl).trans rfl), trivial⟩) ⟨rfl, rfl, rfl, rfl⟩ ?_
        refine SeqA.cons (locr [3, 33] [4] rfl fun S hs hr => op_store rfl rfl ty55 (vt ((hs 3 rfl).trans rfl)) (i := 4) ((hr 4 rfl).trans rfl) (vt ((hs 33 rfl).trans rfl))) ⟨rfl, rfl, rfl, rfl⟩ ?_
        obtain ⟨x14, hx14, h⟩ := bsome h
        obtain ⟨x15, hx15, h⟩ := bsome h
        refine AW.regionAny [⟨[3], [34], [4], []⟩, ⟨[], [35], [], []⟩, ⟨[], [36], [], []⟩, ⟨[34, 35, 36], [37], [], []⟩, ⟨[3, 37], [], [4], [4]⟩] mixed (by kernel_rfl) ?_
        refine SeqA.cons (loc [3] [4] rfl rfl fun S hs hr => op_load rfl rfl ty55 (vt ((hs 3 rfl).trans rfl)) (i := 4) ((hr 4 rfl).trans rfl)) ⟨rfl, rfl, rfl, rfl⟩ ?_
        refine SeqA.cons (loc [] [] rfl rfl fun S hs hr => op_build (ps := []) (x := (⟨0, 0⟩ : Wide)) rfl rfl rfl (by kernel_rfl) zr34 rfl) ⟨rfl, rfl, rfl, rfl⟩ ?_
        refine SeqA.cons (loc [] [] rfl rfl fun S hs hr => op_call (xs := [.const (Value.int IntKind.i64 3)]) (c_wide_Low _ _ hx14) (Ent.mk Tryz.func91 rfl rfl) rfl rfl ⟨vk rfl, trivial⟩) ⟨rfl, rfl, rfl, rfl⟩ ?_
        refine SeqA.cons (loc [34, 35, 36] [] rfl rfl fun S hs hr => op_call (xs := [.tmp 34, .const (Value.int IntKind.i64 6), .tmp 35, .tmp 36]) (c_rewrite_Set _ _ _ _ _ hx15) (Ent.mk Tryz.func42 rfl rfl) rfl rfl ⟨vt ((hs 34 rfl).trans rfl), vk rfl, vt ((hs 35 rfl).trans rfl), vt ((hs 36 rfl).trans rfl), trivial⟩) ⟨rfl, rfl, rfl, rfl⟩ ?_
        refine SeqA.cons (locr [3, 37] [4] rfl fun S hs hr => op_store rfl rfl ty55 (vt ((hs 3 rfl).trans rfl)) (i := 4) ((hr 4 rfl).trans rfl) (vt ((hs 37 rfl).trans rfl))) ⟨rfl, rfl, rfl, rfl⟩ ?_
        refine AW.seq ?_
        refine AW.region ?_
        refine AOps.cons (op_load rfl rfl ty55 (vt rfl) (i := 4) rfl) rfl ?_
        refine AOps.cons (op_store rfl rfl ty55 (vt rfl) (i := 3) rfl (vt rfl)) rfl ?_
        refine AOps.nil ?_
        refine AW.ret ?_
        obtain rfl := Option.some.inj h
        exact ret1 Tryz.results94 rfl (out_cell rfl (i := 3) rfl ty55)
      · have h := cond_f hc h
        refine AW.skip ?_
        refine AW.seq ?_
        refine AW.region ?_
        refine AOps.cons (op_load rfl rfl ty55 (vt rfl) (i := 4) rfl) rfl ?_
        refine AOps.cons (op_store rfl rfl ty55 (vt rfl) (i := 3) rfl (vt rfl)) rfl ?_
        refine AOps.nil ?_
        refine AW.ret ?_
        obtain rfl := Option.some.inj h
        exact ret1 Tryz.results94 rfl (out_cell rfl (i := 3) rfl ty55)
def F_rewrite_Then_1 (i1 : Int) (cp2 : (Vector Tern 24)) (cp3 : (Vector Tern 24)) : Option Tern :=
  (chk 24 i1).bind fun j5 => (chk 24 i1).bind fun j6 => (F_rewrite_over (Vector.get cp2 j5) (Vector.get cp3 j6)).bind fun x7 => some x7
theorem c_rewrite_Then_1 (i1 : Int) (cp2 : (Vector Tern 24)) (cp3 : (Vector Tern 24)) (r : Tern) (h : F_rewrite_Then_1 i1 cp2 cp3 = some r) : PCon Tryz.prog 101 [rd (kint .i64) i1, rp (karr 24 kTern) cp2, rp (karr 24 kTern) cp3] (rd kTern r) := by
  refine PCon.of (Con.intro0 Tryz.func101 rfl Tryz.ntmps101 rfl fun w H => ?_)
  unfold F_rewrite_Then_1 at h
  refine AW.seq ?_
  refine AW.region ?_
  refine AOps.consT rfl (op_alloc 5 rfl rfl zr36) ?_
  rintro _ ⟨g4, rfl⟩
  refine AOps.nil ?_
  refine AW.seq ?_
  obtain ⟨j5, hj5, h⟩ := bsome h
  obtain ⟨j6, hj6, h⟩ := bsome h
  obtain ⟨x7, hx7, h⟩ := bsome h
  refine AW.regionAny [⟨[0], [5], [], []⟩, ⟨[1, 5], [6], [], []⟩, ⟨[6], [7], [], []⟩, ⟨[0], [8], [], []⟩, ⟨[2, 8], [9], [], []⟩, ⟨[9], [10], [], []⟩, ⟨[7, 10], [11], [], []⟩, ⟨[4, 11], [], [5], [5]⟩] mixed (by kernel_rfl) ?_
  refine SeqA.cons (loc [0] [] rfl rfl fun S hs hr => op_move (A := rd (kint .i64) i1) rfl rfl (vt ((hs 0 rfl).trans rfl))) ⟨rfl, rfl, rfl, rfl⟩ ?_
  refine SeqA.cons (loc [1, 5] [] rfl rfl fun S hs hr => op_indexp' rfl rfl ar55 (vt ((hs 1 rfl).trans rfl)) (vt ((hs 5 rfl).trans rfl)) hj5) ⟨rfl, rfl, rfl, rfl⟩ ?_
  refine SeqA.cons (loc [6] [] rfl rfl fun S hs hr => op_loadp rfl rfl ty36 (vt ((hs 6 rfl).trans rfl))) ⟨rfl, rfl, rfl, rfl⟩ ?_
  refine SeqA.cons (loc [0] [] rfl rfl fun S hs hr => op_move (A := rd (kint .i64) i1) rfl rfl (vt ((hs 0 rfl).trans rfl))) ⟨rfl, rfl, rfl, rfl⟩ ?_
  refine SeqA.cons (loc [2, 8] [] rfl rfl fun S hs hr => op_indexp' rfl rfl ar55 (vt ((hs 2 rfl).trans rfl)) (vt ((hs 8 rfl).trans rfl)) hj6) ⟨rfl, rfl, rfl, rfl⟩ ?_
  refine SeqA.cons (loc [9] [] rfl rfl fun S hs hr => op_loadp rfl rfl ty36 (vt ((hs 9 rfl).trans rfl))) ⟨rfl, rfl, rfl, rfl⟩ ?_
  refine SeqA.cons (loc [7, 10] [] rfl rfl fun S hs hr => op_call (xs := [.tmp 7, .tmp 10]) (c_rewrite_over _ _ _ hx7) (Ent.mk Tryz.func67 rfl rfl) rfl rfl ⟨vt ((hs 7 rfl).trans rfl), vt ((hs 10 rfl).trans rfl), trivial⟩) ⟨rfl, rfl, rfl, rfl⟩ ?_
  refine SeqA.cons (locr [4, 11] [5] rfl fun S hs hr => op_store rfl rfl ty36 (vt ((hs 4 rfl).trans rfl)) (i := 5) ((hr 5 rfl).trans rfl) (vt ((hs 11 rfl).trans rfl))) ⟨rfl, rfl, rfl, rfl⟩ ?_
  refine AW.ret ?_
  obtain rfl := Option.some.inj h
  exact ret1 Tryz.results101 rfl (out_cell rfl (i := 5) rfl ty36)
def F_rewrite_Then (a1 : (Vector Tern 24)) (b2 : (Vector Tern 24)) : Option (Vector Tern 24) :=
  (F_rewrite_each_Rewrite (fun x => F_rewrite_Then_1 x a1 b2)).bind fun x6 => some x6
theorem c_rewrite_Then (a1 : (Vector Tern 24)) (b2 : (Vector Tern 24)) (r : (Vector Tern 24)) (h : F_rewrite_Then a1 b2 = some r) : PCon Tryz.prog 93 [rd (karr 24 kTern) a1, rd (karr 24 kTern) b2] (rd (karr 24 kTern) r) := by
  refine PCon.of (Con.intro0 Tryz.func93 rfl Tryz.ntmps93 rfl fun w H => ?_)
  unfold F_rewrite_Then at h
  refine AW.seq ?_
  refine AW.region ?_
  refine AOps.consT rfl (op_box 3 rfl rfl (vt rfl)) ?_
  rintro _ ⟨g3, rfl⟩
  refine AOps.consT rfl (op_box 4 rfl rfl (vt rfl)) ?_
  rintro _ ⟨g4, rfl⟩
  refine AOps.consT rfl (op_alloc 5 rfl rfl zr55) ?_
  rintro _ ⟨g5, rfl⟩
  refine AOps.nil ?_
  refine AW.seq ?_
  refine AW.freezeB 2 3 rfl rfl rfl ?_
  refine AW.freezeB 3 4 rfl rfl rfl ?_
  obtain ⟨x6, hx6, h⟩ := bsome h
  refine AW.region ?_
  refine AOps.cons (op_fn1 (cs := [.tmp 2, .tmp 3]) (CAs := [rp (karr 24 kTern) a1, rp (karr 24 kTern) b2]) (fun x => F_rewrite_Then_1 x a1 b2) rfl rfl (Ent.mk Tryz.func101 rfl rfl) ⟨vt rfl, vt rfl, trivial⟩ (fun x y h => c_rewrite_Then_1 _ _ _ y h)) rfl ?_
  refine AOps.cons (op_call (xs := [.tmp 5]) (c_rewrite_each_Rewrite _ _ hx6) (Ent.mk Tryz.func84 rfl rfl) rfl rfl ⟨vt rfl, trivial⟩) rfl ?_
  refine AOps.cons (op_store rfl rfl ty55 (vt rfl) (i := 5) rfl (vt rfl)) rfl ?_
  refine AOps.nil ?_
  refine AW.ret ?_
  obtain rfl := Option.some.inj h
  exact ret1 Tryz.results93 rfl (out_cell rfl (i := 5) rfl ty55)
def F_atom_trace_do_j1 (t1 : atom_trace) (b7 : Atom) : Option atom_trace :=
  (appd t1.atoms [b7]).bind fun l8 => some (⟨t1.got, l8⟩ : atom_trace)
def F_atom_trace_do (t1 : atom_trace) (a4 : Action) : Option atom_trace :=
  (bif (decide (a4.Kind = 0)) then (bif (decide (a4.Port = 4294967293)) then F_atom_trace_do_j1 t1 { { (⟨t1.got, false, 0, 0⟩ : Atom) with Port := a4.Port } with Max := a4.Max } else F_atom_trace_do_j1 t1 { (⟨t1.got, false, 0, 0⟩ : Atom) with Port := a4.Port }) else (bif (decide (a4.Kind = 22)) then F_atom_trace_do_j1 t1 { { (⟨t1.got, false, 0, 0⟩ : Atom) with Group := true } with Port := a4.Group } else (F_aset_Rewrite a4).bind fun x10 => (F_rewrite_Then t1.got x10).bind fun x11 => some (⟨x11, t1.atoms⟩ : atom_trace)))
theorem c_atom_trace_do (g2 : Nat) (t1 : atom_trace) (a4 : Action) (r : atom_trace) (h : F_atom_trace_do t1 a4 = some r) : Con Tryz.prog 83 [ptrL g2 (Lens.id katom_trace_o1), rd kAction a4] (BoxF g2 145 katom_trace_o1 (fun v => (⟨t1.got, v⟩ : atom_trace_o1)) 57 kAtom t1.atoms) (fun _ : Unit => top) (fun _ => BoxF g2 145 katom_trace_o1 (fun v => (⟨r.got, v⟩ : atom_trace_o1)) 57 kAtom r.atoms) := by
  refine Con.intro Tryz.func83 rfl Tryz.ntmps83 rfl fun w H X => ?_
  unfold F_atom_trace_do at h
  refine AW.unboxF 0 2001 (by decide) rfl rfl fun v3 => ?_
  refine AW.seq ?_
  refine AW.region ?_
  refine AOps.consT rfl (op_box 4 rfl rfl (vt rfl)) ?_
  rintro _ ⟨g5, rfl⟩
  refine AOps.nil ?_
  refine AW.seq ?_
  refine AW.region ?_
  refine AOps.cons (op_move (A := ptrL g2 (Lens.id katom_trace_o1)) rfl rfl (vt rfl)) rfl ?_
  refine AOps.cons (op_nilCheck rfl rfl (vt rfl)) rfl ?_
  refine AOps.cons (op_field latom_trace_o1_0 rfl rfl flv145_0_1 (vt rfl)) rfl ?_
  refine AOps.cons (op_load rfl rfl ty55 (vt rfl) (i := 0) rfl) rfl ?_
  refine AOps.cons (op_build (ps := [(0, .tmp 8)]) (x := (⟨t1.got, false, 0, 0⟩ : Atom)) rfl rfl rfl (by kernel_rfl) zr57 ⟨_, _, lAtom_0, _, by kernel_rfl, (vt rfl), rfl⟩) rfl ?_
  refine AOps.consT rfl (op_alloc 5 rfl rfl zr57) ?_
  rintro _ ⟨g6, rfl⟩
  refine AOps.cons (op_store rfl rfl ty57 (vt rfl) (i := 5) rfl (vt rfl)) rfl ?_
  refine AOps.nil ?_
  refine AW.join (d := []) (ν := Atom) (fun n => F_atom_trace_do_j1 t1 n = some r) (fun n => [(0, ptrL g2 (Lens.id katom_trace_o1)), (4, ptrL g6 (Lens.id kAtom))]) (fun n => [(0, Blk g2 145 katom_trace_o1 (⟨t1.got, v3⟩ : atom_trace_o1)), (5, Blk g6 57 kAtom n), (2001, Row v3 57 kAtom t1.atoms)]) ?hx1 ?hy1
  case hy1 =>
    intro b7 h
    unfold F_atom_trace_do_j1 at h
    change AW _ _ _ ⟨slots [(0, ptrL g2 (Lens.id katom_trace_o1)), (4, ptrL g6 (Lens.id kAtom))], ress [(0, Blk g2 145 katom_trace_o1 (⟨t1.got, v3⟩ : atom_trace_o1)), (5, Blk g6 57 kAtom b7), (2001, Row v3 57 kAtom t1.atoms)], _⟩
    obtain ⟨l8, hl8, h⟩ := bsome h
    refine AW.endT ?_
    refine AW.regionAny [⟨[0], [39], [], []⟩, ⟨[0], [40], [], []⟩, ⟨[40], [41], [], []⟩, ⟨[41], [42], [], []⟩, ⟨[42], [43], [0], []⟩, ⟨[4], [44], [5], []⟩, ⟨[44], [45], [], []⟩, ⟨[43, 45], [46], [2001], [2001]⟩, ⟨[39], [47], [], []⟩, ⟨[47], [48], [], []⟩, ⟨[48, 46], [46], [0], [0]⟩] mixed (by kernel_rfl) ?_
    refine SeqA.cons (loc [0] [] rfl rfl fun S hs hr => op_move (A := ptrL g2 (Lens.id katom_trace_o1)) rfl rfl (vt ((hs 0 rfl).trans rfl))) ⟨rfl, rfl, rfl, rfl⟩ ?_
    refine SeqA.cons (loc [0] [] rfl rfl fun S hs hr => op_move (A := ptrL g2 (Lens.id katom_trace_o1)) rfl rfl (vt ((hs 0 rfl).trans rfl))) ⟨rfl, rfl, rfl, rfl⟩ ?_
    refine SeqA.cons (loc [40] [] rfl rfl fun S hs hr => op_nilCheck rfl rfl (vt ((hs 40 rfl).trans rfl))) ⟨rfl, rfl, rfl, rfl⟩ ?_
    refine SeqA.cons (loc [41] [] rfl rfl fun S hs hr => op_field latom_trace_o1_1 rfl rfl flv145_1_1 (vt ((hs 41 rfl).trans rfl))) ⟨rfl, rfl, rfl, rfl⟩ ?_
    refine SeqA.cons (loc [42] [0] rfl rfl fun S hs hr => op_loadv v3 rfl rfl tyr39 (vt ((hs 42 rfl).trans rfl)) (i := 0) ((hr 0 rfl).trans rfl) rfl) ⟨rfl, rfl, rfl, rfl⟩ ?_
    refine SeqA.cons (loc [4] [5] rfl rfl fun S hs hr => op_load rfl rfl ty57 (vt ((hs 4 rfl).trans rfl)) (i := 5) ((hr 5 rfl).trans rfl)) ⟨rfl, rfl, rfl, rfl⟩ ?_
    refine SeqA.cons (loc [44] [] rfl rfl fun S hs hr => op_buildSliceR (ps := [(0, .tmp 44)]) (l := [b7]) rfl rfl sl39 zr57 rfl rfl ⟨_, _, Lens.idx 1 kAtom 0 (by decide), _, rfl, (vt ((hs 44 rfl).trans rfl)), rfl⟩ rfl) ⟨rfl, rfl, rfl, rfl⟩ ?_
    refine SeqA.cons (locs (us := [(46, ownR 57 kAtom l8)]) (ur := [(2001, emp)]) [43, 45] [2001] rfl fun S hs hr => op_appendO 2001 hl8 rfl rfl rfl el39 (vt ((hs 43 rfl).trans rfl)) ((hr 2001 rfl).trans rfl) (vt ((hs 45 rfl).trans rfl))) ⟨rfl, rfl, rfl, rfl⟩ ?_
    refine SeqA.cons (loc [39] [] rfl rfl fun S hs hr => op_nilCheck rfl rfl (vt ((hs 39 rfl).trans rfl))) ⟨rfl, rfl, rfl, rfl⟩ ?_
    refine SeqA.cons (loc [47] [] rfl rfl fun S hs hr => op_field latom_trace_o1_1 rfl rfl flv145_1_1 (vt ((hs 47 rfl).trans rfl))) ⟨rfl, rfl, rfl, rfl⟩ ?_
    refine SeqA.cons (locs (us := [(46, top)]) (ur := [(0, BoxF g2 145 katom_trace_o1 (fun v => ((Lens.comp (Lens.id katom_trace_o1) latom_trace_o1_1)).set (⟨t1.got, v3⟩ : atom_trace_o1) v) 57 kAtom l8)]) [48, 46] [0] rfl fun S hs hr => op_storeR rfl rfl tyr39 (vt ((hs 48 rfl).trans rfl)) ((hr 0 rfl).trans rfl) ((hs 46 rfl).trans rfl)) ⟨rfl, rfl, rfl, rfl⟩ ?_
    refine EndT.unboxF 0 2001 (by decide) rfl rfl fun v9 => ?_
    refine EndT.done ?_
    obtain rfl := Option.some.inj h
    exact RetOK.turn (Turn.packF 0 2001 (fun v => (⟨t1.got, v⟩ : atom_trace_o1)) (by decide) rfl rfl) (ret0Y (i := 0) Tryz.results83 rfl rfl)
  case hx1 =>
    refine AW.seq ?_
    refine AW.region ?_
    refine AOps.cons (op_field lAction_0 rfl rfl fl48_0 (vt rfl)) rfl ?_
    refine AOps.cons (op_load rfl rfl ty3 (vt rfl) (i := 4) rfl) rfl ?_
    refine AOps.nil ?_
    refine AW.block ?_
    refine AW.seq ?_
    refine AW.region ?_
    refine AOps.cons (op_eql rfl rfl (vt rfl) (vk rfl)) rfl ?_
    refine AOps.cons (op_assign (A := rd kbool (decide (a4.Kind = 0))) rfl rfl (vt rfl)) rfl ?_
    refine AOps.nil ?_
    refine AW.cond (vt rfl) (fun hc => ?_) (fun hc => ?_)
    · have h := cond_t hc h
      refine AW.seq ?_
      refine AW.region ?_
      refine AOps.cons (op_field lAction_1 rfl rfl fl48_1 (vt rfl)) rfl ?_
      refine AOps.cons (op_load rfl rfl ty3 (vt rfl) (i := 4) rfl) rfl ?_
      refine AOps.cons (op_field lAtom_2 rfl rfl fl57_2 (vt rfl)) rfl ?_
      refine AOps.cons (op_store rfl rfl ty3 (vt rfl) (i := 5) rfl (vt rfl)) rfl ?_
      refine AOps.nil ?_
      refine AW.seq ?_
      refine AW.region ?_
      refine AOps.cons (op_field lAction_1 rfl rfl fl48_1 (vt rfl)) rfl ?_
      refine AOps.cons (op_load rfl rfl ty3 (vt rfl) (i := 4) rfl) rfl ?_
      refine AOps.cons (op_eql rfl rfl (vt rfl) (vk rfl)) rfl ?_
      refine AOps.nil ?_
      refine AW.cond (vt rfl) (fun hc => ?_) (fun hc => ?_)
      · have h := cond_t hc h
        refine AW.region ?_
        refine AOps.cons (op_field lAction_2 rfl rfl fl48_2 (vt rfl)) rfl ?_
        refine AOps.cons (op_load rfl rfl ty3 (vt rfl) (i := 4) rfl) rfl ?_
        refine AOps.cons (op_field lAtom_3 rfl rfl fl57_3 (vt rfl)) rfl ?_
        refine AOps.cons (op_store rfl rfl ty3 (vt rfl) (i := 5) rfl (vt rfl)) rfl ?_
        refine AOps.nil ?_
        exact ⟨{ { (⟨t1.got, false, 0, 0⟩ : Atom) with Port := a4.Port } with Max := a4.Max }, h, ⟨rfl, ⟨rfl, rfl, trivial⟩, ⟨rfl, rfl, rfl, trivial⟩⟩⟩
      · have h := cond_f hc h
        refine AW.skip ?_
        exact ⟨{ (⟨t1.got, false, 0, 0⟩ : Atom) with Port := a4.Port }, h, ⟨rfl, ⟨rfl, rfl, trivial⟩, ⟨rfl, rfl, rfl, trivial⟩⟩⟩
    · have h := cond_f hc h
      refine AW.seq ?_
      refine AW.region ?_
      refine AOps.cons (op_eql rfl rfl (vt rfl) (vk rfl)) rfl ?_
      refine AOps.cons (op_assign (A := rd kbool (decide (a4.Kind = 22))) rfl rfl (vt rfl)) rfl ?_
      refine AOps.nil ?_
      refine AW.cond (vt rfl) (fun hc => ?_) (fun hc => ?_)
      · have h := cond_t hc h
        refine AW.regionAny [⟨[3], [35], [], []⟩, ⟨[35], [36], [4], []⟩, ⟨[4], [37], [], []⟩, ⟨[37], [], [5], [5]⟩, ⟨[4], [38], [], []⟩, ⟨[38, 36], [], [5], [5]⟩] mixed (by kernel_rfl) ?_
        refine SeqA.cons (loc [3] [] rfl rfl fun S hs hr => op_field lAction_3 rfl rfl fl48_3 (vt ((hs 3 rfl).trans rfl))) ⟨rfl, rfl, rfl, rfl⟩ ?_
        refine SeqA.cons (loc [35] [4] rfl rfl fun S hs hr => op_load rfl rfl ty3 (vt ((hs 35 rfl).trans rfl)) (i := 4) ((hr 4 rfl).trans rfl)) ⟨rfl, rfl, rfl, rfl⟩ ?_
        refine SeqA.cons (loc [4] [] rfl rfl fun S hs hr => op_field lAtom_1 rfl rfl fl57_1 (vt ((hs 4 rfl).trans rfl))) ⟨rfl, rfl, rfl, rfl⟩ ?_
        refine SeqA.cons (locr [37] [5] rfl fun S hs hr => op_store rfl rfl ty4 (vt ((hs 37 rfl).trans rfl)) (i := 5) ((hr 5 rfl).trans rfl) vb) ⟨rfl, rfl, rfl, rfl⟩ ?_
        refine SeqA.cons (loc [4] [] rfl rfl fun S hs hr => op_field lAtom_2 rfl rfl fl57_2 (vt ((hs 4 rfl).trans rfl))) ⟨rfl, rfl, rfl, rfl⟩ ?_
        refine SeqA.cons (locr [38, 36] [5] rfl fun S hs hr => op_store rfl rfl ty3 (vt ((hs 38 rfl).trans rfl)) (i := 5) ((hr 5 rfl).trans rfl) (vt ((hs 36 rfl).trans rfl))) ⟨rfl, rfl, rfl, rfl⟩ ?_
        exact ⟨{ { (⟨t1.got, false, 0, 0⟩ : Atom) with Group := true } with Port := a4.Group }, h, ⟨rfl, ⟨rfl, rfl, trivial⟩, ⟨rfl, rfl, rfl, trivial⟩⟩⟩
      · have h := cond_f hc h
        refine AW.seq ?_
        obtain ⟨x10, hx10, h⟩ := bsome h
        obtain ⟨x11, hx11, h⟩ := bsome h
        refine AW.regionAny [⟨[0], [12], [], []⟩, ⟨[0], [13], [], []⟩, ⟨[13], [14], [], []⟩, ⟨[14], [15], [], []⟩, ⟨[15], [16], [0], []⟩, ⟨[3], [17], [4], []⟩, ⟨[17], [18], [], []⟩, ⟨[16, 18], [19], [], []⟩, ⟨[12], [20], [], []⟩, ⟨[20], [21], [], []⟩, ⟨[21, 19], [], [0], [0]⟩] mixed (by kernel_rfl) ?_
        refine SeqA.cons (loc [0] [] rfl rfl fun S hs hr => op_move (A := ptrL g2 (Lens.id katom_trace_o1)) rfl rfl (vt ((hs 0 rfl).trans rfl))) ⟨rfl, rfl, rfl, rfl⟩ ?_
        refine SeqA.cons (loc [0] [] rfl rfl fun S hs hr => op_move (A := ptrL g2 (Lens.id katom_trace_o1)) rfl rfl (vt ((hs 0 rfl).trans rfl))) ⟨rfl, rfl, rfl, rfl⟩ ?_
        refine SeqA.cons (loc [13] [] rfl rfl fun S hs hr => op_nilCheck rfl rfl (vt ((hs 13 rfl).trans rfl))) ⟨rfl, rfl, rfl, rfl⟩ ?_
        refine SeqA.cons (loc [14] [] rfl rfl fun S hs hr => op_field latom_trace_o1_0 rfl rfl flv145_0_1 (vt ((hs 14 rfl).trans rfl))) ⟨rfl, rfl, rfl, rfl⟩ ?_
        refine SeqA.cons (loc [15] [0] rfl rfl fun S hs hr => op_load rfl rfl ty55 (vt ((hs 15 rfl).trans rfl)) (i := 0) ((hr 0 rfl).trans rfl)) ⟨rfl, rfl, rfl, rfl⟩ ?_
        refine SeqA.cons (loc [3] [4] rfl rfl fun S hs hr => op_load rfl rfl ty48 (vt ((hs 3 rfl).trans rfl)) (i := 4) ((hr 4 rfl).trans rfl)) ⟨rfl, rfl, rfl, rfl⟩ ?_
        refine SeqA.cons (loc [17] [] rfl rfl fun S hs hr => op_call (xs := [.tmp 17]) (c_aset_Rewrite _ _ hx10) (Ent.mk Tryz.func94 rfl rfl) rfl rfl ⟨vt ((hs 17 rfl).trans rfl), trivial⟩) ⟨rfl, rfl, rfl, rfl⟩ ?_
        refine SeqA.cons (loc [16, 18] [] rfl rfl fun S hs hr => op_call (xs := [.tmp 16, .tmp 18]) (c_rewrite_Then _ _ _ hx11) (Ent.mk Tryz.func93 rfl rfl) rfl rfl ⟨vt ((hs 16 rfl).trans rfl), vt ((hs 18 rfl).trans rfl), trivial⟩) ⟨rfl, rfl, rfl, rfl⟩ ?_
        refine SeqA.cons (loc [12] [] rfl rfl fun S hs hr => op_nilCheck rfl rfl (vt ((hs 12 rfl).trans rfl))) ⟨rfl, rfl, rfl, rfl⟩ ?_
        refine SeqA.cons (loc [20] [] rfl rfl fun S hs hr => op_field latom_trace_o1_0 rfl rfl flv145_0_1 (vt ((hs 20 rfl).trans rfl))) ⟨rfl, rfl, rfl, rfl⟩ ?_
        refine SeqA.cons (locr [21, 19] [0] rfl fun S hs hr => op_store rfl rfl ty55 (vt ((hs 21 rfl).trans rfl)) (i := 0) ((hr 0 rfl).trans rfl) (vt ((hs 19 rfl).trans rfl))) ⟨rfl, rfl, rfl, rfl⟩ ?_
        refine AW.ret ?_
        obtain rfl := Option.some.inj h
        exact RetOK.turn (Turn.packF 0 2001 (fun v => (⟨x11, v⟩ : atom_trace_o1)) (by decide) rfl rfl) (ret0Y (i := 0) Tryz.results83 rfl rfl)
def F_atom_each_Action_l1 (sg : Type) (do2 : (sg → Action → Option sg)) : (List Action) → Nat → sg → Option sg
  | [], i6, s5 => some s5
  | x8 :: l7, i6, s5 => (do2 s5 x8).bind fun s10 => (F_atom_each_Action_l1 sg do2 l7) (i6 + 1) s10
def F_atom_each_Action (l1 : (List Action)) (sg : Type) (do2 : (sg → Action → Option sg)) (s3 : sg) : Option sg :=
  F_atom_each_Action_l1 sg do2 l1 0 s3
theorem c_atom_each_Action (l1 : (List Action)) (sg : Type) (do2 : (sg → Action → Option sg)) (L : sg → Res) (s3 : sg) (r : sg) (h : F_atom_each_Action l1 sg do2 s3 = some r) : Con Tryz.prog 82 [rd (ksl kAction) l1, stA Tryz.prog kAction do2 L] (L s3) (fun _ : Unit => top) (fun _ => L r) := by
  refine Con.intro Tryz.func82 rfl Tryz.ntmps82 rfl fun w H X => ?_
  unfold F_atom_each_Action at h
  refine AW.seq ?_
  refine AW.region ?_
  refine AOps.cons (op_move (A := rd (ksl kAction) l1) rfl rfl (vt rfl)) rfl ?_
  refine AOps.cons (op_len' rfl rfl sl49 (vt rfl)) rfl ?_
  refine AOps.cons (op_move (A := rd (kint .i64) 0) rfl rfl (vk rfl)) rfl ?_
  refine AOps.nil ?_
  refine AW.block ?_
  refine AW.loopG (d := []) (ν := (List Action) × Nat × sg) (fun n => Sfx l1 n.2.1 n.1 ∧ F_atom_each_Action_l1 sg do2 n.1 n.2.1 n.2.2 = some r) (fun n => n.1.length) (fun n => [(1, stA Tryz.prog kAction do2 L), (6, rd (ksl kAction) l1), (7, rd (kint .i64) (l1.length : Int)), (8, rd (kint .i64) (n.2.1 : Int))]) (fun n => [(0, L n.2.2)]) (l1, 0, s3) ⟨Sfx.start _, h⟩ ⟨rfl, ⟨rfl, rfl, rfl, rfl, trivial⟩, ⟨rfl, trivial⟩⟩ ?_
  rintro ⟨l7, i6, s5⟩ ⟨hsf1, h⟩
  change Sfx l1 i6 l7 at hsf1
  change F_atom_each_Action_l1 sg do2 l7 i6 s5 = some r at h
  change AW _ _ _ ⟨slots [(1, stA Tryz.prog kAction do2 L), (6, rd (ksl kAction) l1), (7, rd (kint .i64) (l1.length : Int)), (8, rd (kint .i64) (i6 : Int))], ress [(0, L s5)], _⟩
  cases l7 with
  | nil =>
    unfold F_atom_each_Action_l1 at h
    refine AW.seq ?_
    refine AW.region ?_
    refine AOps.cons (op_lss rfl rfl (vt rfl) (vt rfl)) rfl ?_
    refine AOps.nil ?_
    refine AW.seq ?_
    refine AW.cond (vt rfl) (fun hc => absurd (of_decide_eq_true hc) hsf1.nil) (fun hc => ?_)
    refine AW.exit ?_
    obtain rfl := Option.some.inj h
    exact ret0Y (i := 0) Tryz.results82 rfl rfl
  | cons x8 l7 =>
    unfold F_atom_each_Action_l1 at h
    generalize hgo1 : F_atom_each_Action_l1 sg do2 l7 = go1 at h
    refine AW.seq ?_
    refine AW.region ?_
    refine AOps.cons (op_lss rfl rfl (vt rfl) (vt rfl)) rfl ?_
    refine AOps.nil ?_
    refine AW.seq ?_
    refine AW.cond (vt rfl) (fun hc => ?_) (fun hc => absurd hsf1.cons (of_decide_eq_false hc))
    have hlti6 := of_decide_eq_true hc
    refine AW.skip ?_
    refine AW.seq ?_
    refine AW.block ?_
    refine AW.seq ?_
    refine AW.region ?_
    refine AOps.cons (op_indexs' rfl rfl sl49 (vt rfl) (vt rfl) hsf1.lget) rfl ?_
    refine AOps.cons (op_loadp rfl rfl ty48 (vt rfl)) rfl ?_
    refine AOps.consT rfl (op_alloc 6 rfl rfl zr48) ?_
    rintro _ ⟨g9, rfl⟩
    refine AOps.cons (op_store rfl rfl ty48 (vt rfl) (i := 6) rfl (vt rfl)) rfl ?_
    refine AOps.nil ?_
    obtain ⟨s10, hs10, h⟩ := bsome h
    refine AW.region ?_
    refine AOps.cons (op_move (A := stA Tryz.prog kAction do2 L) rfl rfl (vt rfl)) rfl ?_
    refine AOps.cons (op_load rfl rfl ty48 (vt rfl) (i := 6) rfl) rfl ?_
    refine AOps.cons (op_callst 0 hs10 rfl rfl (vt rfl) (vt rfl) rfl) rfl ?_
    refine AOps.nil ?_
    refine AW.region ?_
    refine AOps.cons (op_incr (t := 7) rfl rfl (vt rfl) (vk rfl) (vt rfl) hlti6) rfl ?_
    refine AOps.cons (op_move (A := rd (kint .i64) ((i6 + 1 : Nat) : Int)) rfl rfl (vt rfl)) rfl ?_
    refine AOps.nil ?_
    subst hgo1
    exact ⟨(l7, i6 + 1, s10), Nat.lt_succ_self _, ⟨hsf1.next, h⟩, ⟨rfl, ⟨rfl, rfl, rfl, rfl, trivial⟩, ⟨rfl, trivial⟩⟩⟩
def F_atom_Do (acts1 : (List Action)) (r2 : (Vector Tern 24)) : Option ((List Atom) × (Vector Tern 24)) :=
  (F_rewrite_Clean r2).bind fun x5 => (F_atom_each_Action acts1 atom_trace (fun s x => F_atom_trace_do s x) (⟨x5, []⟩ : atom_trace)).bind fun b7 => some (b7.atoms, b7.got)
theorem c_atom_Do (acts1 : (List Action)) (r2 : (Vector Tern 24)) (r : ((List Atom) × (Vector Tern 24))) (h : F_atom_Do acts1 r2 = some r) : PCon Tryz.prog 61 [rd (ksl kAction) acts1, rd (karr 24 kTern) r2] (tup2 (rd (ksl kAtom) r.1) (rd (karr 24 kTern) r.2)) := by
  refine PCon.of (Con.intro0 Tryz.func61 rfl Tryz.ntmps61 rfl fun w H => ?_)
  unfold F_atom_Do at h
  refine AW.seq ?_
  refine AW.region ?_
  refine AOps.consT rfl (op_box 4 rfl rfl (vt rfl)) ?_
  rintro _ ⟨g3, rfl⟩
  refine AOps.cons (op_assign (A := rd (ksl kAtom) []) rfl rfl vnil) rfl ?_
  refine AOps.consT rfl (op_alloc 6 rfl rfl zr55) ?_
  rintro _ ⟨g4, rfl⟩
  refine AOps.nil ?_
  refine AW.seq ?_
  refine AW.newnil 2221 57 kAtom ?_
  obtain ⟨x5, hx5, h⟩ := bsome h
  refine AW.region ?_
  refine AOps.cons (op_load rfl rfl ty55 (vt rfl) (i := 4) rfl) rfl ?_
  refine AOps.cons (op_call (xs := [.tmp 7]) (c_rewrite_Clean _ _ hx5) (Ent.mk Tryz.func65 rfl rfl) rfl rfl ⟨vt rfl, trivial⟩) rfl ?_
  refine AOps.cons (op_build (ps := [(0, .tmp 8)]) (x := (⟨x5, (.slice none 0 0)⟩ : atom_trace_o1)) rfl rfl rfl (by kernel_rfl) zrv145_1 ⟨_, _, latom_trace_o1_0, _, by kernel_rfl, (vt rfl), rfl⟩) rfl ?_
  refine AOps.consT rfl (op_box 11 rfl rfl (vt rfl)) ?_
  rintro _ ⟨g6, rfl⟩
  refine AOps.cons (op_assign (A := ptrL g6 (Lens.id katom_trace_o1)) rfl rfl (vt rfl)) rfl ?_
  refine AOps.nil ?_
  refine AW.seq ?_
  obtain ⟨b7, hb7, h⟩ := bsome h
  refine AW.region ?_
  refine AOps.cons (op_move (A := rd (ksl kAction) acts1) rfl rfl (vt rfl)) rfl ?_
  refine AOps.cons (op_move (A := ptrL g6 (Lens.id katom_trace_o1)) rfl rfl (vt rfl)) rfl ?_
  refine AOps.cons (op_st (fs := [.tmp 12]) (cs := []) (FAs := [ptrL g6 (Lens.id katom_trace_o1)]) (CAs := []) (k := kAction) (fun s x => F_atom_trace_do s x) (fun (s : atom_trace) => BoxF g6 145 katom_trace_o1 (fun v => (⟨s.got, v⟩ : atom_trace_o1)) 57 kAtom s.atoms) rfl rfl (Ent.mk Tryz.func83 rfl rfl) ⟨vt rfl, trivial⟩ trivial (fun s x s2 h => c_atom_trace_do  _ s x s2 h)) rfl ?_
  refine AOps.packF 11 2221 (fun v => (⟨x5, v⟩ : atom_trace_o1)) (by decide) rfl rfl ?_
  refine AOps.consT rfl (op_callR 11 (xs := [.tmp 11, .tmp 13]) (c_atom_each_Action _ atom_trace _ (fun (s : atom_trace) => BoxF g6 145 katom_trace_o1 (fun v => (⟨s.got, v⟩ : atom_trace_o1)) 57 kAtom s.atoms) _ _ hb7) (Ent.mk Tryz.func82 rfl rfl) rfl rfl ⟨vt rfl, vt rfl, trivial⟩ rfl) ?_
  rintro _ ⟨_u, rfl⟩
  refine AOps.unboxF 11 2221 (by decide) rfl rfl fun v8 => ?_
  refine AOps.nil ?_
  refine AW.seq ?_
  refine AW.regionAny [⟨[6], [15], [], []⟩, ⟨[15], [16], [], []⟩, ⟨[16], [17], [], []⟩, ⟨[17], [18], [11], []⟩, ⟨[6], [19], [], []⟩, ⟨[19], [20], [], []⟩, ⟨[20], [21], [], []⟩, ⟨[21], [22], [11], []⟩, ⟨[18], [4], [], []⟩, ⟨[5, 22], [], [6], [6]⟩] mixed (by kernel_rfl) ?_
  refine SeqA.cons (loc [6] [] rfl rfl fun S hs hr => op_move (A := ptrL g6 (Lens.id katom_trace_o1)) rfl rfl (vt ((hs 6 rfl).trans rfl))) ⟨rfl, rfl, rfl, rfl⟩ ?_
  refine SeqA.cons (loc [15] [] rfl rfl fun S hs hr => op_nilCheck rfl rfl (vt ((hs 15 rfl).trans rfl))) ⟨rfl, rfl, rfl, rfl⟩ ?_
  refine SeqA.cons (loc [16] [] rfl rfl fun S hs hr => op_field latom_trace_o1_1 rfl rfl flv145_1_1 (vt ((hs 16 rfl).trans rfl))) ⟨rfl, rfl, rfl, rfl⟩ ?_
  refine SeqA.cons (loc [17] [11] rfl rfl fun S hs hr => op_loadv v8 rfl rfl tyr39 (vt ((hs 17 rfl).trans rfl)) (i := 11) ((hr 11 rfl).trans rfl) rfl) ⟨rfl, rfl, rfl, rfl⟩ ?_
  refine SeqA.cons (loc [6] [] rfl rfl fun S hs hr => op_move (A := ptrL g6 (Lens.id katom_trace_o1)) rfl rfl (vt ((hs 6 rfl).trans rfl))) ⟨rfl, rfl, rfl, rfl⟩ ?_
  refine SeqA.cons (loc [19] [] rfl rfl fun S hs hr => op_nilCheck rfl rfl (vt ((hs 19 rfl).trans rfl))) ⟨rfl, rfl, rfl, rfl⟩ ?_
  refine SeqA.cons (loc [20] [] rfl rfl fun S hs hr => op_field latom_trace_o1_0 rfl rfl flv145_0_1 (vt ((hs 20 rfl).trans rfl))) ⟨rfl, rfl, rfl, rfl⟩ ?_
  refine SeqA.cons (loc [21] [11] rfl rfl fun S hs hr => op_load rfl rfl ty55 (vt ((hs 21 rfl).trans rfl)) (i := 11) ((hr 11 rfl).trans rfl)) ⟨rfl, rfl, rfl, rfl⟩ ?_
  refine SeqA.cons (loc [18] [] rfl rfl fun S hs hr => op_assign (A := raw v8) rfl rfl (vt ((hs 18 rfl).trans rfl))) ⟨rfl, rfl, rfl, rfl⟩ ?_
  refine SeqA.cons (locr [5, 22] [6] rfl fun S hs hr => op_store rfl rfl ty55 (vt ((hs 5 rfl).trans rfl)) (i := 6) ((hr 6 rfl).trans rfl) (vt ((hs 22 rfl).trans rfl))) ⟨rfl, rfl, rfl, rfl⟩ ?_
  refine AW.freezes [4, 18] 2221 rfl ⟨rfl, rfl, trivial⟩ rfl ?_
  refine AW.ret ?_
  obtain rfl := Option.some.inj h
  exact ret2 Tryz.results61 rfl (out_tmp rfl) (out_cell rfl (i := 6) rfl ty55)
def F_walk_way_act (w1 : walk_way) (l2 : (List Action)) : Option walk_way :=
  (F_atom_Do l2 w1.got).bind fun x5 => (otake w1.atoms (w1.atoms.length : Int)).bind fun s7 => (appd s7 x5.1).bind fun l8 => some { { w1 with atoms := l8 } with got := x5.2 }
theorem c_walk_way_act (w1 : walk_way) (l2 : (List Action)) (r : walk_way) (h : F_walk_way_act w1 l2 = some r) : PCon Tryz.prog 40 [rd kwalk_way w1, rd (ksl kAction) l2] (rd kwalk_way r) := by
  refine PCon.of (Con.intro0 Tryz.func40 rfl Tryz.ntmps40 rfl fun w H => ?_)
  unfold F_walk_way_act at h
  refine AW.seq ?_
  refine AW.region ?_
  refine AOps.consT rfl (op_box 3 rfl rfl (vt rfl)) ?_
  rintro _ ⟨g3, rfl⟩
  refine AOps.consT rfl (op_alloc 5 rfl rfl zr71) ?_
  rintro _ ⟨g4, rfl⟩
  refine AOps.nil ?_
  refine AW.seq ?_
  obtain ⟨x5, hx5, h⟩ := bsome h
  refine AW.region ?_
  refine AOps.cons (op_move (A := rd (ksl kAction) l2) rfl rfl (vt rfl)) rfl ?_
  refine AOps.cons (op_field lwalk_way_1 rfl rfl fl71_1 (vt rfl)) rfl ?_
  refine AOps.cons (op_load rfl rfl ty55 (vt rfl) (i := 3) rfl) rfl ?_
  refine AOps.cons (op_call (xs := [.tmp 8, .tmp 10]) (c_atom_Do _ _ _ hx5) (Ent.mk Tryz.func61 rfl rfl) rfl rfl ⟨vt rfl, vt rfl, trivial⟩) rfl ?_
  refine AOps.cons (op_move (A := tup2 (rd (ksl kAtom) x5.1) (rd (karr 24 kTern) x5.2)) rfl rfl (vt rfl)) rfl ?_
  refine AOps.cons (op_fst rfl rfl (vt rfl)) rfl ?_
  refine AOps.cons (op_snd rfl rfl (vt rfl)) rfl ?_
  refine AOps.consT rfl (op_alloc 7 rfl rfl zr55) ?_
  rintro _ ⟨g6, rfl⟩
  refine AOps.cons (op_assign (A := rd (ksl kAtom) x5.1) rfl rfl (vt rfl)) rfl ?_
  refine AOps.cons (op_store rfl rfl ty55 (vt rfl) (i := 7) rfl (vt rfl)) rfl ?_
  refine AOps.nil ?_
  refine AW.seq ?_
  obtain ⟨s7, hs7, h⟩ := bsome h
  obtain ⟨l8, hl8, h⟩ := bsome h
  refine AW.regionAny [⟨[2], [14], [], []⟩, ⟨[14], [15], [3], []⟩, ⟨[2], [16], [], []⟩, ⟨[16], [17], [3], []⟩, ⟨[17], [18], [], []⟩, ⟨[2], [19], [], []⟩, ⟨[19], [20], [3], []⟩, ⟨[20], [21], [], []⟩, ⟨[15, 18, 21], [22], [], []⟩, ⟨[5], [23], [], []⟩, ⟨[22, 23], [24], [], []⟩, ⟨[6], [25], [7], []⟩, ⟨[2], [26], [], []⟩, ⟨[26, 24], [], [3], [3]⟩, ⟨[2], [27], [], []⟩, ⟨[27, 25], [], [3], [3]⟩] mixed (by kernel_rfl) ?_
  refine SeqA.cons (loc [2] [] rfl rfl fun S hs hr => op_field lwalk_way_2 rfl rfl fl71_2 (vt ((hs 2 rfl).trans rfl))) ⟨rfl, rfl, rfl, rfl⟩ ?_
  refine SeqA.cons (loc [14] [3] rfl rfl fun S hs hr => op_load rfl rfl ty39 (vt ((hs 14 rfl).trans rfl)) (i := 3) ((hr 3 rfl).trans rfl)) ⟨rfl, rfl, rfl, rfl⟩ ?_
  refine SeqA.cons (loc [2] [] rfl rfl fun S hs hr => op_field lwalk_way_2 rfl rfl fl71_2 (vt ((hs 2 rfl).trans rfl))) ⟨rfl, rfl, rfl, rfl⟩ ?_
  refine SeqA.cons (loc [16] [3] rfl rfl fun S hs hr => op_load rfl rfl ty39 (vt ((hs 16 rfl).trans rfl)) (i := 3) ((hr 3 rfl).trans rfl)) ⟨rfl, rfl, rfl, rfl⟩ ?_
  refine SeqA.cons (loc [17] [] rfl rfl fun S hs hr => op_len' rfl rfl sl39 (vt ((hs 17 rfl).trans rfl))) ⟨rfl, rfl, rfl, rfl⟩ ?_
  refine SeqA.cons (loc [2] [] rfl rfl fun S hs hr => op_field lwalk_way_2 rfl rfl fl71_2 (vt ((hs 2 rfl).trans rfl))) ⟨rfl, rfl, rfl, rfl⟩ ?_
  refine SeqA.cons (loc [19] [3] rfl rfl fun S hs hr => op_load rfl rfl ty39 (vt ((hs 19 rfl).trans rfl)) (i := 3) ((hr 3 rfl).trans rfl)) ⟨rfl, rfl, rfl, rfl⟩ ?_
  refine SeqA.cons (loc [20] [] rfl rfl fun S hs hr => op_len' rfl rfl sl39 (vt ((hs 20 rfl).trans rfl))) ⟨rfl, rfl, rfl, rfl⟩ ?_
  refine SeqA.cons (loc [15, 18, 21] [] rfl rfl fun S hs hr => op_slice_full' hs7 rfl rfl sl39 (vt ((hs 15 rfl).trans rfl)) (vt ((hs 18 rfl).trans rfl)) (vt ((hs 21 rfl).trans rfl))) ⟨rfl, rfl, rfl, rfl⟩ ?_
  refine SeqA.cons (loc [5] [] rfl rfl fun S hs hr => op_move (A := rd (ksl kAtom) x5.1) rfl rfl (vt ((hs 5 rfl).trans rfl))) ⟨rfl, rfl, rfl, rfl⟩ ?_
  refine SeqA.cons (loc [22, 23] [] rfl rfl fun S hs hr => op_appendP hl8 rfl rfl el39 (vt ((hs 22 rfl).trans rfl)) (vt ((hs 23 rfl).trans rfl))) ⟨rfl, rfl, rfl, rfl⟩ ?_
  refine SeqA.cons (loc [6] [7] rfl rfl fun S hs hr => op_load rfl rfl ty55 (vt ((hs 6 rfl).trans rfl)) (i := 7) ((hr 7 rfl).trans rfl)) ⟨rfl, rfl, rfl, rfl⟩ ?_
  refine SeqA.cons (loc [2] [] rfl rfl fun S hs hr => op_field lwalk_way_2 rfl rfl fl71_2 (vt ((hs 2 rfl).trans rfl))) ⟨rfl, rfl, rfl, rfl⟩ ?_
  refine SeqA.cons (locr [26, 24] [3] rfl fun S hs hr => op_store rfl rfl ty39 (vt ((hs 26 rfl).trans rfl)) (i := 3) ((hr 3 rfl).trans rfl) (vt ((hs 24 rfl).trans rfl))) ⟨rfl, rfl, rfl, rfl⟩ ?_
  refine SeqA.cons (loc [2] [] rfl rfl fun S hs hr => op_field lwalk_way_1 rfl rfl fl71_1 (vt ((hs 2 rfl).trans rfl))) ⟨rfl, rfl, rfl, rfl⟩ ?_
  refine SeqA.cons (locr [27, 25] [3] rfl fun S hs hr => op_store rfl rfl ty55 (vt ((hs 27 rfl).trans rfl)) (i := 3) ((hr 3 rfl).trans rfl) (vt ((hs 25 rfl).trans rfl))) ⟨rfl, rfl, rfl, rfl⟩ ?_
  refine AW.seq ?_
  refine AW.region ?_
  refine AOps.cons (op_load rfl rfl ty71 (vt rfl) (i := 3) rfl) rfl ?_
  refine AOps.cons (op_store rfl rfl ty71 (vt rfl) (i := 5) rfl (vt rfl)) rfl ?_
  refine AOps.nil ?_
  refine AW.ret ?_
  obtain rfl := Option.some.inj h
  exact ret1 Tryz.results40 rfl (out_cell rfl (i := 5) rfl ty71)
end Go.Proofs.YtokmmcflinnfiabGreat.W
set_option linter.unusedVariables false
set_option maxRecDepth 4000
set_option linter.unusedSimpArgs false
namespace Go.Proofs.YtokmmcflinnfiabGreat.W
open Go Go.Wb
def F_aset_at (a1 : Action) : Option aset_spot :=
  (bif (decide (a1.Kind = 25)) then some (⟨a1.Kind, a1.Oxm.Field⟩ : aset_spot) else some (⟨a1.Kind, 0⟩ : aset_spot))
theorem c_aset_at (a1 : Action) (r : aset_spot) (h : F_aset_at a1 = some r) : PCon Tryz.prog 64 [rd kAction a1] (rd kaset_spot r) := by
  refine PCon.of (Con.intro0 Tryz.func64 rfl Tryz.ntmps64 rfl fun w H => ?_)
  unfold F_aset_at at h
  refine AW.seq ?_
  refine AW.region ?_
  refine AOps.consT rfl (op_box 2 rfl rfl (vt rfl)) ?_
  rintro _ ⟨g2, rfl⟩
  refine AOps.consT rfl (op_alloc 3 rfl rfl zr128) ?_
  rintro _ ⟨g3, rfl⟩
  refine AOps.nil ?_
  refine AW.seq ?_
  refine AW.seq ?_
  refine AW.region ?_
  refine AOps.cons (op_field lAction_0 rfl rfl fl48_0 (vt rfl)) rfl ?_
  refine AOps.cons (op_load rfl rfl ty3 (vt rfl) (i := 2) rfl) rfl ?_
  refine AOps.cons (op_eql rfl rfl (vt rfl) (vk rfl)) rfl ?_
  refine AOps.nil ?_
  refine AW.cond (vt rfl) (fun hc => ?_) (fun hc => ?_)
  · have h := cond_t hc h
    refine AW.seq ?_
    refine AW.region ?_
    refine AOps.cons (op_field lAction_0 rfl rfl fl48_0 (vt rfl)) rfl ?_
    refine AOps.cons (op_load rfl rfl ty3 (vt rfl) (i := 2) rfl) rfl ?_
    refine AOps.cons (op_field lAction_5 rfl rfl fl48_5 (vt rfl)) rfl ?_
    refine AOps.cons (op_field lOxm_0 rfl rfl fl45_0 (vt rfl)) rfl ?_
    refine AOps.cons (op_load rfl rfl ty3 (vt rfl) (i := 2) rfl) rfl ?_
    refine AOps.cons (op_build (ps := [(0, .tmp 7), (1, .tmp 10)]) (x := (⟨a1.Kind, a1.Oxm.Field⟩ : aset_spot)) rfl rfl rfl (by kernel_rfl) zr128 ⟨_, _, laset_spot_0, _, by kernel_rfl, (vt rfl), _, _, laset_spot_1, _, by kernel_rfl, (vt rfl), rfl⟩) rfl ?_
    refine AOps.cons (op_store rfl rfl ty128 (vt rfl) (i := 3) rfl (vt rfl)) rfl ?_
    refine AOps.nil ?_
    refine AW.ret ?_
    obtain rfl := Option.some.inj h
    exact ret1 Tryz.results64 rfl (out_cell rfl (i := 3) rfl ty128)
  · have h := cond_f hc h
    refine AW.skip ?_
    refine AW.seq ?_
    refine AW.region ?_
    refine AOps.cons (op_field lAction_0 rfl rfl fl48_0 (vt rfl)) rfl ?_
    refine AOps.cons (op_load rfl rfl ty3 (vt rfl) (i := 2) rfl) rfl ?_
    refine AOps.cons (op_build (ps := [(0, .tmp 13)]) (x := (⟨a1.Kind, 0⟩ : aset_spot)) rfl rfl rfl (by kernel_rfl) zr128 ⟨_, _, laset_spot_0, _, by kernel_rfl, (vt rfl), rfl⟩) rfl ?_
    refine AOps.cons (op_store rfl rfl ty128 (vt rfl) (i := 3) rfl (vt rfl)) rfl ?_
    refine AOps.nil ?_
    refine AW.ret ?_
    obtain rfl := Option.some.inj h
    exact ret1 Tryz.results64 rfl (out_cell rfl (i := 3) rfl ty128)
def F_aset_Write_1 (b1 : Action) (cp2 : Action) : Option Bool :=
  (F_aset_at cp2).bind fun x4 => (F_aset_at b1).bind fun x5 => some (decide (x4 = x5))
theorem c_aset_Write_1 (b1 : Action) (cp2 : Action) (r : Bool) (h : F_aset_Write_1 b1 cp2 = some r) : PCon Tryz.prog 63 [rd kAction b1, rp kAction cp2] (rd kbool r) := by
  refine PCon.of (Con.intro0 Tryz.func63 rfl Tryz.ntmps63 rfl fun w H => ?_)
  unfold F_aset_Write_1 at h
  refine AW.seq ?_
  refine AW.region ?_
  refine AOps.consT rfl (op_box 3 rfl rfl (vt rfl)) ?_
  rintro _ ⟨g3, rfl⟩
  refine AOps.cons (op_assign (A := rd kbool false) rfl rfl vb) rfl ?_
  refine AOps.nil ?_
  refine AW.seq ?_
  obtain ⟨x4, hx4, h⟩ := bsome h
  obtain ⟨x5, hx5, h⟩ := bsome h
  refine AW.regionAny [⟨[1], [4], [], []⟩, ⟨[4], [5], [], []⟩, ⟨[2], [6], [3], []⟩, ⟨[6], [7], [], []⟩, ⟨[5, 7], [8], [], []⟩, ⟨[8], [3], [], []⟩] mixed (by kernel_rfl) ?_
  refine SeqA.cons (loc [1] [] rfl rfl fun S hs hr => op_loadp rfl rfl ty48 (vt ((hs 1 rfl).trans rfl))) ⟨rfl, rfl, rfl, rfl⟩ ?_
  refine SeqA.cons (loc [4] [] rfl rfl fun S hs hr => op_call (xs := [.tmp 4]) (c_aset_at _ _ hx4) (Ent.mk Tryz.func64 rfl rfl) rfl rfl ⟨vt ((hs 4 rfl).trans rfl), trivial⟩) ⟨rfl, rfl, rfl, rfl⟩ ?_
  refine SeqA.cons (loc [2] [3] rfl rfl fun S hs hr => op_load rfl rfl ty48 (vt ((hs 2 rfl).trans rfl)) (i := 3) ((hr 3 rfl).trans rfl)) ⟨rfl, rfl, rfl, rfl⟩ ?_
  refine SeqA.cons (loc [6] [] rfl rfl fun S hs hr => op_call (xs := [.tmp 6]) (c_aset_at _ _ hx5) (Ent.mk Tryz.func64 rfl rfl) rfl rfl ⟨vt ((hs 6 rfl).trans rfl), trivial⟩) ⟨rfl, rfl, rfl, rfl⟩ ?_
  refine SeqA.cons (loc [5, 7] [] rfl rfl fun S hs hr => op_eqlk rfl rfl eqk128 (by decide) rfl eg128 (vt ((hs 5 rfl).trans rfl)) (vt ((hs 7 rfl).trans rfl))) ⟨rfl, rfl, rfl, rfl⟩ ?_
  refine SeqA.cons (loc [8] [] rfl rfl fun S hs hr => op_assign (A := rd kbool (decide (x4 = x5))) rfl rfl (vt ((hs 8 rfl).trans rfl))) ⟨rfl, rfl, rfl, rfl⟩ ?_
  refine AW.ret ?_
  obtain rfl := Option.some.inj h
  exact ret1 Tryz.results63 rfl (out_tmp rfl)
def F_slices_IndexFunc_Action_l1 (s1 : (List Action)) (f2 : (Action → Option Bool)) : Nat → Nat → Option Int
  | 0, i3 => some (-1)
  | m4 + 1, i3 => (lget s1 (i3 : Int)).bind fun e5 => (f2 e5).bind fun x6 => (bif x6 then some (i3 : Int) else (F_slices_IndexFunc_Action_l1 s1 f2 m4) (i3 + 1))
def F_slices_IndexFunc_Action (s1 : (List Action)) (f2 : (Action → Option Bool)) : Option Int :=
  F_slices_IndexFunc_Action_l1 s1 f2 ((s1.length : Int) : Int).toNat 0
theorem c_slices_IndexFunc_Action (s1 : (List Action)) (f2 : (Action → Option Bool)) (r : Int) (h : F_slices_IndexFunc_Action s1 f2 = some r) : PCon Tryz.prog 62 [rd (ksl kAction) s1, fn1 Tryz.prog kAction kbool f2] (rd (kint .i64) r) := by
  refine PCon.of (Con.intro0 Tryz.func62 rfl Tryz.ntmps62 rfl fun w H => ?_)
  unfold F_slices_IndexFunc_Action at h
  refine AW.seq ?_
  refine AW.region ?_
  refine AOps.cons (op_assign (A := rd (kint .i64) 0) rfl rfl (vk rfl)) rfl ?_
  refine AOps.nil ?_
  refine AW.seq ?_
  refine AW.seq ?_
  refine AW.region ?_
  refine AOps.cons (op_move (A := rd (ksl kAction) s1) rfl rfl (vt rfl)) rfl ?_
  refine AOps.cons (op_len' rfl rfl sl49 (vt rfl)) rfl ?_
  refine AOps.cons (op_move (A := rd (kint .i64) 0) rfl rfl (vk rfl)) rfl ?_
  refine AOps.nil ?_
  refine AW.block ?_
  refine AW.loopG (d := []) (ν := Nat × Nat) (fun n => Cnt (s1.length : Int) n.2 n.1 ∧ F_slices_IndexFunc_Action_l1 s1 f2 n.1 n.2 = some r) (fun n => n.1) (fun n => [(0, rd (ksl kAction) s1), (1, fn1 Tryz.prog kAction kbool f2), (7, rd (kint .i64) (s1.length : Int)), (8, rd (kint .i64) (n.2 : Int))]) (fun n => []) (((s1.length : Int) : Int).toNat, 0) ⟨Cnt.start _, h⟩ ⟨rfl, ⟨rfl, rfl, rfl, rfl, trivial⟩, trivial⟩ ?_
  rintro ⟨m4, i3⟩ ⟨hsf1, h⟩
  change Cnt (s1.length : Int) i3 m4 at hsf1
  change F_slices_IndexFunc_Action_l1 s1 f2 m4 i3 = some r at h
  change AW _ _ _ ⟨slots [(0, rd (ksl kAction) s1), (1, fn1 Tryz.prog kAction kbool f2), (7, rd (kint .i64) (s1.length : Int)), (8, rd (kint .i64) (i3 : Int))], ress [], _⟩
  cases m4 with
  | zero =>
    unfold F_slices_IndexFunc_Action_l1 at h
    refine AW.seq ?_
    refine AW.region ?_
    refine AOps.cons (op_lss rfl rfl (vt rfl) (vt rfl)) rfl ?_
    refine AOps.nil ?_
    refine AW.seq ?_
    refine AW.cond (vt rfl) (fun hc => absurd (of_decide_eq_true hc) hsf1.zero) (fun hc => ?_)
    refine AW.exit ?_
    refine AW.seq ?_
    refine AW.region ?_
    refine AOps.cons (op_assign (A := rd (kint .i64) (-1)) rfl rfl (vk rfl)) rfl ?_
    refine AOps.nil ?_
    refine AW.ret ?_
    obtain rfl := Option.some.inj h
    exact ret1 Tryz.results62 rfl (out_tmp rfl)
  | succ m4 =>
    unfold F_slices_IndexFunc_Action_l1 at h
    generalize hgo1 : F_slices_IndexFunc_Action_l1 s1 f2 m4 = go1 at h
    refine AW.seq ?_
    refine AW.region ?_
    refine AOps.cons (op_lss rfl rfl (vt rfl) (vt rfl)) rfl ?_
    refine AOps.nil ?_
    refine AW.seq ?_
    refine AW.cond (vt rfl) (fun hc => ?_) (fun hc => absurd hsf1.succ (of_decide_eq_false hc))
    have hlti3 := of_decide_eq_true hc
    refine AW.skip ?_
    refine AW.seq ?_
    refine AW.block ?_
    refine AW.seq ?_
    refine AW.region ?_
    refine AOps.cons (op_move (A := rd (kint .i64) (i3 : Int)) rfl rfl (vt rfl)) rfl ?_
    refine AOps.cons (op_assign (A := rd (kint .i64) (i3 : Int)) rfl rfl (vt rfl)) rfl ?_
    refine AOps.nil ?_
    refine AW.seq ?_
    obtain ⟨e5, he5, h⟩ := bsome h
    obtain ⟨x6, hx6, h⟩ := bsome h
    refine AW.region ?_
    refine AOps.cons (op_move (A := fn1 Tryz.prog kAction kbool f2) rfl rfl (vt rfl)) rfl ?_
    refine AOps.cons (op_move (A := rd (ksl kAction) s1) rfl rfl (vt rfl)) rfl ?_
    refine AOps.cons (op_move (A := rd (kint .i64) (i3 : Int)) rfl rfl (vt rfl)) rfl ?_
    refine AOps.cons (op_indexs' rfl rfl sl49 (vt rfl) (vt rfl) he5) rfl ?_
    refine AOps.cons (op_loadp rfl rfl ty48 (vt rfl)) rfl ?_
    refine AOps.cons (op_call1 hx6 rfl rfl (vt rfl) (vt rfl)) rfl ?_
    refine AOps.nil ?_
    refine AW.cond (vt rfl) (fun hc => ?_) (fun hc => ?_)
    · have h := cond_t hc h
      refine AW.seq ?_
      refine AW.region ?_
      refine AOps.cons (op_move (A := rd (kint .i64) (i3 : Int)) rfl rfl (vt rfl)) rfl ?_
      refine AOps.cons (op_assign (A := rd (kint .i64) (i3 : Int)) rfl rfl (vt rfl)) rfl ?_
      refine AOps.nil ?_
      refine AW.ret ?_
      obtain rfl := Option.some.inj h
      exact ret1 Tryz.results62 rfl (out_tmp rfl)
    · have h := cond_f hc h
      refine AW.skip ?_
      refine AW.region ?_
      refine AOps.cons (op_incr (t := 7) rfl rfl (vt rfl) (vk rfl) (vt rfl) hlti3) rfl ?_
      refine AOps.cons (op_move (A := rd (kint .i64) ((i3 + 1 : Nat) : Int)) rfl rfl (vt rfl)) rfl ?_
      refine AOps.nil ?_
      subst hgo1
      exact ⟨(m4, i3 + 1), Nat.lt_succ_self _, ⟨hsf1.next, h⟩, ⟨rfl, ⟨rfl, rfl, rfl, rfl, trivial⟩, trivial⟩⟩
def F_aset_Write_l1 : (List Action) → Nat → (List Action) → Option (List Action)
  | [], i9, l7 => some l7
  | x11 :: l10, i9, l7 => (F_slices_IndexFunc_Action l7 (fun x => F_aset_Write_1 x x11)).bind fun x13 => (bif (decide (x13 < 0)) then (appd l7 [x11]).bind fun l14 => (F_aset_Write_l1 l10) (i9 + 1) l14 else (lget l7 x13).bind fun e16 => (F_aset_Write_l1 l10) (i9 + 1) (List.set l7 x13.toNat x11))
def F_aset_Write (set1 : (List Action)) (l2 : (List Action)) : Option (List Action) :=
  (F_slices_Clone_Action set1).bind fun x3 => F_aset_Write_l1 l2 0 x3
theorem c_aset_Write (set1 : (List Action)) (l2 : (List Action)) (r : (List Action)) (h : F_aset_Write set1 l2 = some r) : PCon Tryz.prog 41 [rd (ksl kAction) set1, rd (ksl kAction) l2] (rd (ksl kAction) r) := by
  refine PCon.of (Con.intro0 Tryz.func41 rfl Tryz.ntmps41 rfl fun w H => ?_)
  unfold F_aset_Write at h
  refine AW.seq ?_
  refine AW.region ?_
  refine AOps.cons (op_assign (A := rd (ksl kAction) []) rfl rfl vnil) rfl ?_
  refine AOps.nil ?_
  refine AW.seq ?_
  obtain ⟨x3, hx3, h⟩ := bsome h
  refine AW.region ?_
  refine AOps.cons (op_move (A := rd (ksl kAction) set1) rfl rfl (vt rfl)) rfl ?_
  refine AOps.consT rfl (op_callR 1001 (xs := [.tmp 9]) (c_slices_Clone_Action_o _ _ hx3) (Ent.mk Tryz.func60 rfl rfl) rfl rfl ⟨vt rfl, trivial⟩ rfl) ?_
  rintro _ ⟨v4, rfl⟩
  refine AOps.cons (op_assign (A := raw v4) rfl rfl (vt rfl)) rfl ?_
  refine AOps.nil ?_
  refine AW.seq ?_
  refine AW.seq ?_
  refine AW.region ?_
  refine AOps.cons (op_move (A := rd (ksl kAction) l2) rfl rfl (vt rfl)) rfl ?_
  refine AOps.cons (op_len' rfl rfl sl49 (vt rfl)) rfl ?_
  refine AOps.cons (op_move (A := rd (kint .i64) 0) rfl rfl (vk rfl)) rfl ?_
  refine AOps.nil ?_
  refine AW.block ?_
  refine AW.loopG (d := []) (ν := (List Action) × Nat × (List Action) × Value) (fun n => Sfx l2 n.2.1 n.1 ∧ F_aset_Write_l1 n.1 n.2.1 n.2.2.1 = some r) (fun n => n.1.length) (fun n => [(5, raw n.2.2.2), (11, rd (ksl kAction) l2), (12, rd (kint .i64) (l2.length : Int)), (13, rd (kint .i64) (n.2.1 : Int))]) (fun n => [(1001, Row n.2.2.2 48 kAction n.2.2.1)]) (l2, 0, x3, v4) ⟨Sfx.start _, h⟩ ⟨rfl, ⟨rfl, rfl, rfl, rfl, trivial⟩, ⟨rfl, trivial⟩⟩ ?_
  rintro ⟨l10, i9, l7, v8⟩ ⟨hsf1, h⟩
  change Sfx l2 i9 l10 at hsf1
  change F_aset_Write_l1 l10 i9 l7 = some r at h
  change AW _ _ _ ⟨slots [(5, raw v8), (11, rd (ksl kAction) l2), (12, rd (kint .i64) (l2.length : Int)), (13, rd (kint .i64) (i9 : Int))], ress [(1001, Row v8 48 kAction l7)], _⟩
  cases l10 with
  | nil =>
    unfold F_aset_Write_l1 at h
    refine AW.seq ?_
    refine AW.region ?_
    refine AOps.cons (op_lss rfl rfl (vt rfl) (vt rfl)) rfl ?_
    refine AOps.nil ?_
    refine AW.seq ?_
    refine AW.cond (vt rfl) (fun hc => absurd (of_decide_eq_true hc) hsf1.nil) (fun hc => ?_)
    refine AW.exit ?_
    refine AW.seq ?_
    refine AW.region ?_
    refine AOps.cons (op_move (A := raw v8) rfl rfl (vt rfl)) rfl ?_
    refine AOps.cons (op_assign (A := raw v8) rfl rfl (vt rfl)) rfl ?_
    refine AOps.nil ?_
    refine AW.freezes [4, 5, 31] 1001 rfl ⟨rfl, rfl, rfl, trivial⟩ rfl ?_
    refine AW.ret ?_
    obtain rfl := Option.some.inj h
    exact ret1 Tryz.results41 rfl (out_tmp rfl)
  | cons x11 l10 =>
    unfold F_aset_Write_l1 at h
    generalize hgo1 : F_aset_Write_l1 l10 = go1 at h
    refine AW.seq ?_
    refine AW.region ?_
    refine AOps.cons (op_lss rfl rfl (vt rfl) (vt rfl)) rfl ?_
    refine AOps.nil ?_
    refine AW.seq ?_
    refine AW.cond (vt rfl) (fun hc => ?_) (fun hc => absurd hsf1.cons (of_decide_eq_false hc))
    have hlti9 := of_decide_eq_true hc
    refine AW.skip ?_
    refine AW.seq ?_
    refine AW.block ?_
    refine AW.seq ?_
    refine AW.region ?_
    refine AOps.cons (op_indexs' rfl rfl sl49 (vt rfl) (vt rfl) hsf1.lget) rfl ?_
    refine AOps.cons (op_loadp rfl rfl ty48 (vt rfl)) rfl ?_
    refine AOps.consT rfl (op_alloc 8 rfl rfl zr48) ?_
    rintro _ ⟨g12, rfl⟩
    refine AOps.cons (op_store rfl rfl ty48 (vt rfl) (i := 8) rfl (vt rfl)) rfl ?_
    refine AOps.nil ?_
    refine AW.seq ?_
    refine AW.freezeB 7 8 rfl rfl rfl ?_
    obtain ⟨x13, hx13, h⟩ := bsome h
    refine AW.region ?_
    refine AOps.cons (op_move (A := raw v8) rfl rfl (vt rfl)) rfl ?_
    refine AOps.cons (op_fn1 (cs := [.tmp 7]) (CAs := [rp kAction x11]) (fun x => F_aset_Write_1 x x11) rfl rfl (Ent.mk Tryz.func63 rfl rfl) ⟨vt rfl, trivial⟩ (fun x y h => c_aset_Write_1 _ _ y h)) rfl ?_
    refine AOps.cons (op_callB (xs := [.tmp 17, .tmp 18]) 1001 (c_slices_IndexFunc_Action _ _ _ hx13) (Ent.mk Tryz.func62 rfl rfl) rfl rfl ⟨vL rfl rfl, vB (vt rfl), trivial⟩) rfl ?_
    refine AOps.cons (op_assign (A := rd (kint .i64) x13) rfl rfl (vt rfl)) rfl ?_
    refine AOps.nil ?_
    refine AW.seq ?_
    refine AW.region ?_
    refine AOps.cons (op_move (A := rd (kint .i64) x13) rfl rfl (vt rfl)) rfl ?_
    refine AOps.cons (op_lss rfl rfl (vt rfl) (vk rfl)) rfl ?_
    refine AOps.nil ?_
    refine AW.cond (vt rfl) (fun hc => ?_) (fun hc => ?_)
    · have h := cond_t hc h
      obtain ⟨l14, hl14, h⟩ := bsome h
      refine AW.region ?_
      refine AOps.cons (op_move (A := raw v8) rfl rfl (vt rfl)) rfl ?_
      refine AOps.cons (op_loadp rfl rfl ty48 (vt rfl)) rfl ?_
      refine AOps.cons (op_buildSliceR (ps := [(0, .tmp 23)]) (l := [x11]) rfl rfl sl49 zr48 rfl rfl ⟨_, _, Lens.idx 1 kAction 0 (by decide), _, rfl, (vt rfl), rfl⟩ rfl) rfl ?_
      refine AOps.consT rfl (op_append' 1001 hl14 rfl rfl el49 (vt rfl) rfl (vt rfl)) ?_
      rintro _ ⟨v15, rfl⟩
      refine AOps.cons (op_assign (A := raw v15) rfl rfl (vt rfl)) rfl ?_
      refine AOps.nil ?_
      refine AW.region ?_
      refine AOps.cons (op_incr (t := 12) rfl rfl (vt rfl) (vk rfl) (vt rfl) hlti9) rfl ?_
      refine AOps.cons (op_move (A := rd (kint .i64) ((i9 + 1 : Nat) : Int)) rfl rfl (vt rfl)) rfl ?_
      refine AOps.nil ?_
      subst hgo1
      exact ⟨(l10, i9 + 1, l14, v15), Nat.lt_succ_self _, ⟨hsf1.next, h⟩, ⟨rfl, ⟨rfl, rfl, rfl, rfl, trivial⟩, ⟨rfl, trivial⟩⟩⟩
    · have h := cond_f hc h
      obtain ⟨e16, he16, h⟩ := bsome h
      refine AW.region ?_
      refine AOps.cons (op_move (A := raw v8) rfl rfl (vt rfl)) rfl ?_
      refine AOps.cons (op_move (A := rd (kint .i64) x13) rfl rfl (vt rfl)) rfl ?_
      refine AOps.cons (op_loadp rfl rfl ty48 (vt rfl)) rfl ?_
      refine AOps.cons (op_indexo' 1001 rfl rfl sl49 (vt rfl) rfl (vt rfl) he16) rfl ?_
      refine AOps.cons (op_storeo' 1001 rfl rfl ty48 (vt rfl) rfl (lget_of he16).2 (vt rfl)) rfl ?_
      refine AOps.nil ?_
      refine AW.region ?_
      refine AOps.cons (op_incr (t := 12) rfl rfl (vt rfl) (vk rfl) (vt rfl) hlti9) rfl ?_
      refine AOps.cons (op_move (A := rd (kint .i64) ((i9 + 1 : Nat) : Int)) rfl rfl (vt rfl)) rfl ?_
      refine AOps.nil ?_
      subst hgo1
      exact ⟨(l10, i9 + 1, (List.set l7 x13.toNat x11), v8), Nat.lt_succ_self _, ⟨hsf1.next, h⟩, ⟨rfl, ⟨rfl, rfl, rfl, rfl, trivial⟩, ⟨rfl, trivial⟩⟩⟩
def F_slices_ContainsFunc_Action (s1 : (List Action)) (f2 : (Action → Option Bool)) : Option Bool :=
  (F_slices_IndexFunc_Action s1 f2).bind fun x3 => some (decide (x3 ≥ 0))
theorem c_slices_ContainsFunc_Action (s1 : (List Action)) (f2 : (Action → Option Bool)) (r : Bool) (h : F_slices_ContainsFunc_Action s1 f2 = some r) : PCon Tryz.prog 68 [rd (ksl kAction) s1, fn1 Tryz.prog kAction kbool f2] (rd kbool r) := by
  refine PCon.of (Con.intro0 Tryz.func68 rfl Tryz.ntmps68 rfl fun w H => ?_)
  unfold F_slices_ContainsFunc_Action at h
  refine AW.seq ?_
  refine AW.region ?_
  refine AOps.cons (op_assign (A := rd kbool false) rfl rfl vb) rfl ?_
  refine AOps.nil ?_
  refine AW.seq ?_
  obtain ⟨x3, hx3, h⟩ := bsome h
  refine AW.region ?_
  refine AOps.cons (op_move (A := rd (ksl kAction) s1) rfl rfl (vt rfl)) rfl ?_
  refine AOps.cons (op_move (A := fn1 Tryz.prog kAction kbool f2) rfl rfl (vt rfl)) rfl ?_
  refine AOps.cons (op_call (xs := [.tmp 5, .tmp 6]) (c_slices_IndexFunc_Action _ _ _ hx3) (Ent.mk Tryz.func62 rfl rfl) rfl rfl ⟨vt rfl, vt rfl, trivial⟩) rfl ?_
  refine AOps.cons (op_geq rfl rfl (vt rfl) (vk rfl)) rfl ?_
  refine AOps.cons (op_assign (A := rd kbool (decide (x3 ≥ 0))) rfl rfl (vt rfl)) rfl ?_
  refine AOps.nil ?_
  refine AW.ret ?_
  obtain rfl := Option.some.inj h
  exact ret1 Tryz.results68 rfl (out_tmp rfl)
def F_aset_List_1 (a1 : Action) : Option Bool :=
  some (decide (a1.Kind = 22))
theorem c_aset_List_1 (a1 : Action) (r : Bool) (h : F_aset_List_1 a1 = some r) : PCon Tryz.prog 69 [rd kAction a1] (rd kbool r) := by
  refine PCon.of (Con.intro0 Tryz.func69 rfl Tryz.ntmps69 rfl fun w H => ?_)
  unfold F_aset_List_1 at h
  refine AW.seq ?_
  refine AW.region ?_
  refine AOps.consT rfl (op_box 2 rfl rfl (vt rfl)) ?_
  rintro _ ⟨g2, rfl⟩
  refine AOps.cons (op_assign (A := rd kbool false) rfl rfl vb) rfl ?_
  refine AOps.nil ?_
  refine AW.seq ?_
  refine AW.region ?_
  refine AOps.cons (op_field lAction_0 rfl rfl fl48_0 (vt rfl)) rfl ?_
  refine AOps.cons (op_load rfl rfl ty3 (vt rfl) (i := 2) rfl) rfl ?_
  refine AOps.cons (op_eql rfl rfl (vt rfl) (vk rfl)) rfl ?_
  refine AOps.cons (op_assign (A := rd kbool (decide (a1.Kind = 22))) rfl rfl (vt rfl)) rfl ?_
  refine AOps.nil ?_
  refine AW.ret ?_
  obtain rfl := Option.some.inj h
  exact ret1 Tryz.results69 rfl (out_tmp rfl)
def F_slices_Index_int_l1 (s1 : (List Int)) (v2 : Int) : Nat → Nat → Option Int
  | 0, i3 => some (-1)
  | m4 + 1, i3 => (lget s1 (i3 : Int)).bind fun e5 => (bif (decide (v2 = e5)) then some (i3 : Int) else (F_slices_Index_int_l1 s1 v2 m4) (i3 + 1))
def F_slices_Index_int (s1 : (List Int)) (v2 : Int) : Option Int :=
  F_slices_Index_int_l1 s1 v2 ((s1.length : Int) : Int).toNat 0
theorem c_slices_Index_int (s1 : (List Int)) (v2 : Int) (r : Int) (h : F_slices_Index_int s1 v2 = some r) : PCon Tryz.prog 86 [rd (ksl (kint .i64)) s1, rd (kint .i64) v2] (rd (kint .i64) r) := by
  refine PCon.of (Con.intro0 Tryz.func86 rfl Tryz.ntmps86 rfl fun w H => ?_)
  unfold F_slices_Index_int at h
  refine AW.seq ?_
  refine AW.region ?_
  refine AOps.cons (op_assign (A := rd (kint .i64) 0) rfl rfl (vk rfl)) rfl ?_
  refine AOps.nil ?_
  refine AW.seq ?_
  refine AW.seq ?_
  refine AW.region ?_
  refine AOps.cons (op_move (A := rd (ksl (kint .i64)) s1) rfl rfl (vt rfl)) rfl ?_
  refine AOps.cons (op_len' rfl rfl sl81 (vt rfl)) rfl ?_
  refine AOps.cons (op_move (A := rd (kint .i64) 0) rfl rfl (vk rfl)) rfl ?_
  refine AOps.nil ?_
  refine AW.block ?_
  refine AW.loopG (d := []) (ν := Nat × Nat) (fun n => Cnt (s1.length : Int) n.2 n.1 ∧ F_slices_Index_int_l1 s1 v2 n.1 n.2 = some r) (fun n => n.1) (fun n => [(0, rd (ksl (kint .i64)) s1), (1, rd (kint .i64) v2), (7, rd (kint .i64) (s1.length : Int)), (8, rd (kint .i64) (n.2 : Int))]) (fun n => []) (((s1.length : Int) : Int).toNat, 0) ⟨Cnt.start _, h⟩ ⟨rfl, ⟨rfl, rfl, rfl, rfl, trivial⟩, trivial⟩ ?_
  rintro ⟨m4, i3⟩ ⟨hsf1, h⟩
  change Cnt (s1.length : Int) i3 m4 at hsf1
  change F_slices_Index_int_l1 s1 v2 m4 i3 = some r at h
  change AW _ _ _ ⟨slots [(0, rd (ksl (kint .i64)) s1), (1, rd (kint .i64) v2), (7, rd (kint .i64) (s1.length : Int)), (8, rd (kint .i64) (i3 : Int))], ress [], _⟩
  cases m4 with
  | zero =>
    unfold F_slices_Index_int_l1 at h
    refine AW.seq ?_
    refine AW.region ?_
    refine AOps.cons (op_lss rfl rfl (vt rfl) (vt rfl)) rfl ?_
    refine AOps.nil ?_
    refine AW.seq ?_
    refine AW.cond (vt rfl) (fun hc => absurd (of_decide_eq_true hc) hsf1.zero) (fun hc => ?_)
    refine AW.exit ?_
    refine AW.seq ?_
    refine AW.region ?_
    refine AOps.cons (op_assign (A := rd (kint .i64) (-1)) rfl rfl (vk rfl)) rfl ?_
    refine AOps.nil ?_
    refine AW.ret ?_
    obtain rfl := Option.some.inj h
    exact ret1 Tryz.results86 rfl (out_tmp rfl)
  | succ m4 =>
    unfold F_slices_Index_int_l1 at h
    generalize hgo1 : F_slices_Index_int_l1 s1 v2 m4 = go1 at h
    refine AW.seq ?_
    refine AW.region ?_
    refine AOps.cons (op_lss rfl rfl (vt rfl) (vt rfl)) rfl ?_
    refine AOps.nil ?_
    refine AW.seq ?_
    refine AW.cond (vt rfl) (fun hc => ?_) (fun hc => absurd hsf1.succ (of_decide_eq_false hc))
    have hlti3 := of_decide_eq_true hc
    refine AW.skip ?_
    refine AW.seq ?_
    refine AW.block ?_
    refine AW.seq ?_
    refine AW.region ?_
    refine AOps.cons (op_move (A := rd (kint .i64) (i3 : Int)) rfl rfl (vt rfl)) rfl ?_
    refine AOps.cons (op_assign (A := rd (kint .i64) (i3 : Int)) rfl rfl (vt rfl)) rfl ?_
    refine AOps.nil ?_
    refine AW.seq ?_
    obtain ⟨e5, he5, h⟩ := bsome h
    refine AW.region ?_
    refine AOps.cons (op_move (A := rd (kint .i64) v2) rfl rfl (vt rfl)) rfl ?_
    refine AOps.cons (op_move (A := rd (ksl (kint .i64)) s1) rfl rfl (vt rfl)) rfl ?_
    refine AOps.cons (op_move (A := rd (kint .i64) (i3 : Int)) rfl rfl (vt rfl)) rfl ?_
    refine AOps.cons (op_indexs' rfl rfl sl81 (vt rfl) (vt rfl) he5) rfl ?_
    refine AOps.cons (op_loadp rfl rfl ty3 (vt rfl)) rfl ?_
    refine AOps.cons (op_eql rfl rfl (vt rfl) (vt rfl)) rfl ?_
    refine AOps.nil ?_
    refine AW.cond (vt rfl) (fun hc => ?_) (fun hc => ?_)
    · have h := cond_t hc h
      refine AW.seq ?_
      refine AW.region ?_
      refine AOps.cons (op_move (A := rd (kint .i64) (i3 : Int)) rfl rfl (vt rfl)) rfl ?_
      refine AOps.cons (op_assign (A := rd (kint .i64) (i3 : Int)) rfl rfl (vt rfl)) rfl ?_
      refine AOps.nil ?_
      refine AW.ret ?_
      obtain rfl := Option.some.inj h
      exact ret1 Tryz.results86 rfl (out_tmp rfl)
    · have h := cond_f hc h
      refine AW.skip ?_
      refine AW.region ?_
      refine AOps.cons (op_incr (t := 7) rfl rfl (vt rfl) (vk rfl) (vt rfl) hlti3) rfl ?_
      refine AOps.cons (op_move (A := rd (kint .i64) ((i3 + 1 : Nat) : Int)) rfl rfl (vt rfl)) rfl ?_
      refine AOps.nil ?_
      subst hgo1
      exact ⟨(m4, i3 + 1), Nat.lt_succ_self _, ⟨hsf1.next, h⟩, ⟨rfl, ⟨rfl, rfl, rfl, rfl, trivial⟩, trivial⟩⟩
def F_aset_turn (kind1 : Int) : Option Int :=
  (F_slices_Index_int [18, 17, 25, 22, 0] kind1).bind fun x2 => some x2
theorem c_aset_turn (kind1 : Int) (r : Int) (h : F_aset_turn kind1 = some r) : PCon Tryz.prog 72 [rd (kint .i64) kind1] (rd (kint .i64) r) := by
  refine PCon.of (Con.intro0 Tryz.func72 rfl Tryz.ntmps72 rfl fun w H => ?_)
  unfold F_aset_turn at h
  refine AW.seq ?_
  refine AW.region ?_
  refine AOps.cons (op_assign (A := rd (kint .i64) 0) rfl rfl (vk rfl)) rfl ?_
  refine AOps.nil ?_
  refine AW.seq ?_
  obtain ⟨x2, hx2, h⟩ := bsome h
  refine AW.region ?_
  refine AOps.cons (op_buildSliceR (ps := [(0, .const (Value.int IntKind.i64 18)), (1, .const (Value.int IntKind.i64 17)), (2, .const (Value.int IntKind.i64 25)), (3, .const (Value.int IntKind.i64 22)), (4, .const (Value.int IntKind.i64 0))]) (l := [18, 17, 25, 22, 0]) rfl rfl sl81 zr3 rfl rfl ⟨_, _, Lens.idx 5 (kint .i64) 0 (by decide), _, rfl, (vk rfl), _, _, Lens.idx 5 (kint .i64) 1 (by decide), _, rfl, (vk rfl), _, _, Lens.idx 5 (kint .i64) 2 (by decide), _, rfl, (vk rfl), _, _, Lens.idx 5 (kint .i64) 3 (by decide), _, rfl, (vk rfl), _, _, Lens.idx 5 (kint .i64) 4 (by decide), _, rfl, (vk rfl), rfl⟩ rfl) rfl ?_
  refine AOps.cons (op_move (A := rd (kint .i64) kind1) rfl rfl (vt rfl)) rfl ?_
  refine AOps.cons (op_call (xs := [.tmp 3, .tmp 4]) (c_slices_Index_int _ _ _ hx2) (Ent.mk Tryz.func86 rfl rfl) rfl rfl ⟨vt rfl, vt rfl, trivial⟩) rfl ?_
  refine AOps.cons (op_assign (A := rd (kint .i64) x2) rfl rfl (vt rfl)) rfl ?_
  refine AOps.nil ?_
  refine AW.ret ?_
  obtain rfl := Option.some.inj h
  exact ret1 Tryz.results72 rfl (out_tmp rfl)
def F_aset_List_2 (a1 : Action) (cp2 : Bool) : Option Bool :=
  (F_aset_turn a1.Kind).bind fun x4 => some ((decide (x4 < 0)) || (cp2 && (decide (a1.Kind = 0))))
theorem c_aset_List_2 (a1 : Action) (cp2 : Bool) (r : Bool) (h : F_aset_List_2 a1 cp2 = some r) : PCon Tryz.prog 71 [rd kAction a1, rp kbool cp2] (rd kbool r) := by
  refine PCon.of (Con.intro0 Tryz.func71 rfl Tryz.ntmps71 rfl fun w H => ?_)
  unfold F_aset_List_2 at h
  refine AW.seq ?_
  refine AW.region ?_
  refine AOps.consT rfl (op_box 3 rfl rfl (vt rfl)) ?_
  rintro _ ⟨g3, rfl⟩
  refine AOps.cons (op_assign (A := rd kbool false) rfl rfl vb) rfl ?_
  refine AOps.nil ?_
  refine AW.seq ?_
  obtain ⟨x4, hx4, h⟩ := bsome h
  refine AW.region ?_
  refine AOps.cons (op_field lAction_0 rfl rfl fl48_0 (vt rfl)) rfl ?_
  refine AOps.cons (op_load rfl rfl ty3 (vt rfl) (i := 3) rfl) rfl ?_
  refine AOps.cons (op_call (xs := [.tmp 5]) (c_aset_turn _ _ hx4) (Ent.mk Tryz.func72 rfl rfl) rfl rfl ⟨vt rfl, trivial⟩) rfl ?_
  refine AOps.cons (op_lss rfl rfl (vt rfl) (vk rfl)) rfl ?_
  refine AOps.cons (op_move (A := rd kbool (decide (x4 < 0))) rfl rfl (vt rfl)) rfl ?_
  refine AOps.consG (OpG.guard rfl rfl rfl rfl rfl fun hq => op_loadp rfl rfl ty4 (vt rfl)) ?_
  refine AOps.consG (OpG.guardX rfl rfl rfl rfl rfl fun hq => op_move (A := rd kbool cp2) rfl rfl (vgt rfl hq)) ?_
  refine AOps.consG (OpG.guardN rfl rfl rfl rfl rfl fun hq => op_field lAction_0 rfl rfl fl48_0 (vt rfl)) ?_
  refine AOps.consG (OpG.guardN rfl rfl rfl rfl rfl fun hq => op_load rfl rfl ty3 (vgt rfl hq) (i := 3) rfl) ?_
  refine AOps.consG (OpG.guardN rfl rfl rfl rfl rfl fun hq => op_eql rfl rfl (vgt rfl hq) (vk rfl)) ?_
  refine AOps.consG (OpG.guard rfl rfl rfl rfl rfl fun hq => op_all rfl rfl (vgx rfl hq) (vgw rfl hq)) ?_
  refine AOps.cons (op_any rfl rfl (vt rfl) (vt rfl)) rfl ?_
  refine AOps.cons (op_assign (A := rd kbool ((decide (x4 < 0)) || (cp2 && (decide (a1.Kind = 0))))) rfl rfl (vt rfl)) rfl ?_
  refine AOps.nil ?_
  refine AW.ret ?_
  obtain rfl := Option.some.inj h
  exact ret1 Tryz.results71 rfl (out_tmp rfl)
end Go.Proofs.YtokmmcflinnfiabGreat.W
