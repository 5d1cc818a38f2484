/- GbF1: a part of the proof. -/
import Derived.Test.YtokmmcflinnfiabGbF0
set_option linter.unusedVariables false
set_option maxRecDepth 4000
set_option linter.unusedSimpArgs false
namespace Go.Proofs.Ytokmmcflinnfiab.W
open Go Go.Wb
-- weirbox/field.Bits
def F70 (f1 : Int) : Option Int :=
  (F88 f1).bind fun x2 => some x2.bits
theorem c70 (f1 : Int) (r : Int) (h : F70 f1 = some r) : PCon Try.prog 70 [rd (kint .i64) f1] (rd (kint .i64) r) := by
  refine PCon.of (Con.intro0 Try.func70 rfl Try.ntmps70 rfl fun w H => ?_)
  unfold F70 at h
  refine AW.seq ?_
  refine AW.region ?_
  refine AOps.cons (op_assign (A := rd (kint .i64) 0) rfl rfl (vk rfl)) rfl ?_
  refine AOps.nil ?_
  refine AW.seq ?_
  obtain ⟨x2, hx2, h⟩ := bsome h
  refine AW.region ?_
  refine AOps.cons (op_move (A := rd (kint .i64) f1) rfl rfl (vt rfl)) rfl ?_
  refine AOps.cons (op_call (xs := [.tmp 3]) (c88 _ _ hx2) (Ent.mk Try.func88 rfl rfl) rfl rfl ⟨vt rfl, trivial⟩) rfl ?_
  refine AOps.cons (op_fieldv lfield_row_2 rfl rfl fl127_2 ft127_2 ty3 rfl (vt rfl)) rfl ?_
  refine AOps.cons (op_assign (A := rd (kint .i64) x2.bits) rfl rfl (vt rfl)) rfl ?_
  refine AOps.nil ?_
  refine AW.ret ?_
  obtain rfl := Option.some.inj h
  exact ret1 Try.results70 rfl (out_tmp rfl)
-- weirbox/wide.low
def F71 (n1 : Int) : Option (BitVec 64) :=
  (bif (decide (n1 ≥ 64)) then some (18446744073709551615 : BitVec 64) else (oushl (1 : BitVec 64) (imax n1 0)).bind fun q2 => some (q2 - (1 : BitVec 64)))
theorem c71 (n1 : Int) (r : (BitVec 64)) (h : F71 n1 = some r) : PCon Try.prog 71 [rd (kint .i64) n1] (rd ku64 r) := by
  refine PCon.of (Con.intro0 Try.func71 rfl Try.ntmps71 rfl fun w H => ?_)
  unfold F71 at h
  refine AW.seq ?_
  refine AW.region ?_
  refine AOps.cons (op_assign (A := rd ku64 (0 : BitVec 64)) rfl rfl (vku (0 : BitVec 64) rfl)) rfl ?_
  refine AOps.nil ?_
  refine AW.seq ?_
  refine AW.seq ?_
  refine AW.region ?_
  refine AOps.cons (op_move (A := rd (kint .i64) n1) rfl rfl (vt rfl)) rfl ?_
  refine AOps.cons (op_geq rfl rfl (vt rfl) (vk rfl)) rfl ?_
  refine AOps.nil ?_
  refine AW.cond (vt rfl) (fun hc => ?_) (fun hc => ?_)
  · have h := cond_t hc h
    refine AW.seq ?_
    refine AW.region ?_
    refine AOps.cons (op_assign (A := rd ku64 (18446744073709551615 : BitVec 64)) rfl rfl (vku (18446744073709551615 : BitVec 64) rfl)) rfl ?_
    refine AOps.nil ?_
    refine AW.ret ?_
    obtain rfl := Option.some.inj h
    exact ret1 Try.results71 rfl (out_tmp rfl)
  · have h := cond_f hc h
    refine AW.skip ?_
    refine AW.seq ?_
    obtain ⟨q2, hq2, h⟩ := bsome h
    refine AW.region ?_
    refine AOps.cons (op_move (A := rd (kint .i64) n1) rfl rfl (vt rfl)) rfl ?_
    refine AOps.cons (op_max rfl rfl (vt rfl) (vk rfl)) rfl ?_
    refine AOps.cons (op_ushl rfl rfl (vku (1 : BitVec 64) rfl) (vt rfl) hq2) rfl ?_
    refine AOps.cons (op_usub rfl rfl (vt rfl) (vku (1 : BitVec 64) rfl)) rfl ?_
    refine AOps.cons (op_assign (A := rd ku64 (q2 - (1 : BitVec 64))) rfl rfl (vt rfl)) rfl ?_
    refine AOps.nil ?_
    refine AW.ret ?_
    obtain rfl := Option.some.inj h
    exact ret1 Try.results71 rfl (out_tmp rfl)
-- weirbox/wide.Low
def F60 (n1 : Int) : Option Wide :=
  (F71 (IntKind.i64.wrap ((imin (imax n1 0) 128) - 64))).bind fun x3 => (F71 (imin (imax n1 0) 128)).bind fun x4 => some (⟨x3, x4⟩ : Wide)
theorem c60 (n1 : Int) (r : Wide) (h : F60 n1 = some r) : PCon Try.prog 60 [rd (kint .i64) n1] (rd kWide r) := by
  refine PCon.of (Con.intro0 Try.func60 rfl Try.ntmps60 rfl fun w H => ?_)
  unfold F60 at h
  refine AW.seq ?_
  refine AW.region ?_
  refine AOps.consT rfl (op_alloc 3 rfl rfl zr25) ?_
  rintro _ ⟨g2, rfl⟩
  refine AOps.nil ?_
  refine AW.seq ?_
  refine AW.region ?_
  refine AOps.cons (op_move (A := rd (kint .i64) n1) rfl rfl (vt rfl)) rfl ?_
  refine AOps.cons (op_max rfl rfl (vt rfl) (vk rfl)) rfl ?_
  refine AOps.cons (op_min rfl rfl (vt rfl) (vk rfl)) rfl ?_
  refine AOps.cons (op_assign (A := rd (kint .i64) (imin (imax n1 0) 128)) rfl rfl (vt rfl)) rfl ?_
  refine AOps.nil ?_
  refine AW.seq ?_
  obtain ⟨x3, hx3, h⟩ := bsome h
  obtain ⟨x4, hx4, h⟩ := bsome h
  refine AW.region ?_
  refine AOps.cons (op_move (A := rd (kint .i64) (imin (imax n1 0) 128)) rfl rfl (vt rfl)) rfl ?_
  refine AOps.cons (op_sub rfl rfl (vt rfl) (vk rfl)) rfl ?_
  refine AOps.cons (op_call (xs := [.tmp 7]) (c71 _ _ hx3) (Ent.mk Try.func71 rfl rfl) rfl rfl ⟨vt rfl, trivial⟩) rfl ?_
  refine AOps.cons (op_move (A := rd (kint .i64) (imin (imax n1 0) 128)) rfl rfl (vt rfl)) rfl ?_
  refine AOps.cons (op_call (xs := [.tmp 9]) (c71 _ _ hx4) (Ent.mk Try.func71 rfl rfl) rfl rfl ⟨vt rfl, trivial⟩) rfl ?_
  refine AOps.cons (op_build (ps := [(0, .tmp 8), (1, .tmp 10)]) (x := (⟨x3, x4⟩ : Wide)) rfl rfl rfl (by kernel_rfl) zr25 ⟨_, _, lWide_0, _, by kernel_rfl, (vt rfl), _, _, lWide_1, _, by kernel_rfl, (vt rfl), rfl⟩) rfl ?_
  refine AOps.cons (op_store rfl rfl ty25 (vt rfl) (i := 3) rfl (vt rfl)) rfl ?_
  refine AOps.nil ?_
  refine AW.ret ?_
  obtain rfl := Option.some.inj h
  exact ret1 Try.results60 rfl (out_cell rfl (i := 3) rfl ty25)
-- weirbox/oxm.Tern
def F57 (o1 : Oxm) : Option Tern :=
  (F69 o1.Field).bind fun x4 => (bif (!x4) then some (⟨zWide, zWide⟩ : Tern) else (bif o1.Masked then some (⟨o1.Value, o1.Mask⟩ : Tern) else (F70 o1.Field).bind fun x5 => (F60 x5).bind fun x6 => some (⟨o1.Value, x6⟩ : Tern)))
theorem c57 (o1 : Oxm) (r : Tern) (h : F57 o1 = some r) : PCon Try.prog 57 [rd kOxm o1] (rd kTern r) := by
  refine PCon.of (Con.intro0 Try.func57 rfl Try.ntmps57 rfl fun w H => ?_)
  unfold F57 at h
  refine AW.seq ?_
  refine AW.region ?_
  refine AOps.consT rfl (op_box 2 rfl rfl (vt rfl)) ?_
  rintro _ ⟨g2, rfl⟩
  refine AOps.consT rfl (op_alloc 3 rfl rfl zr27) ?_
  rintro _ ⟨g3, rfl⟩
  refine AOps.nil ?_
  refine AW.seq ?_
  refine AW.block ?_
  refine AW.seq ?_
  obtain ⟨x4, hx4, h⟩ := bsome h
  refine AW.region ?_
  refine AOps.cons (op_field lOxm_0 rfl rfl fl54_0 (vt rfl)) rfl ?_
  refine AOps.cons (op_load rfl rfl ty3 (vt rfl) (i := 2) rfl) rfl ?_
  refine AOps.cons (op_call (xs := [.tmp 5]) (c69 _ _ hx4) (Ent.mk Try.func69 rfl rfl) rfl rfl ⟨vt rfl, trivial⟩) rfl ?_
  refine AOps.cons (op_not rfl rfl (vt rfl)) rfl ?_
  refine AOps.cons (op_assign (A := rd kbool (!x4)) rfl rfl (vt rfl)) rfl ?_
  refine AOps.nil ?_
  refine AW.cond (vt rfl) (fun hc => ?_) (fun hc => ?_)
  · have h := cond_t hc h
    refine AW.seq ?_
    refine AW.region ?_
    refine AOps.cons (op_build (ps := []) (x := (⟨zWide, zWide⟩ : Tern)) rfl rfl rfl (by kernel_rfl) zr27 rfl) rfl ?_
    refine AOps.cons (op_store rfl rfl ty27 (vt rfl) (i := 3) rfl (vt rfl)) rfl ?_
    refine AOps.nil ?_
    refine AW.ret ?_
    obtain rfl := Option.some.inj h
    exact ret1 Try.results57 rfl (out_cell rfl (i := 3) rfl ty27)
  · have h := cond_f hc h
    refine AW.seq ?_
    refine AW.region ?_
    refine AOps.cons (op_field lOxm_1 rfl rfl fl54_1 (vt rfl)) rfl ?_
    refine AOps.cons (op_load rfl rfl ty4 (vt rfl) (i := 2) rfl) rfl ?_
    refine AOps.cons (op_assign (A := rd kbool o1.Masked) rfl rfl (vt rfl)) rfl ?_
    refine AOps.nil ?_
    refine AW.cond (vt rfl) (fun hc => ?_) (fun hc => ?_)
    · have h := cond_t hc h
      refine AW.seq ?_
      refine AW.region ?_
      refine AOps.cons (op_field lOxm_2 rfl rfl fl54_2 (vt rfl)) rfl ?_
      refine AOps.cons (op_load rfl rfl ty25 (vt rfl) (i := 2) rfl) rfl ?_
      refine AOps.cons (op_field lOxm_3 rfl rfl fl54_3 (vt rfl)) rfl ?_
      refine AOps.cons (op_load rfl rfl ty25 (vt rfl) (i := 2) rfl) rfl ?_
      refine AOps.cons (op_build (ps := [(0, .tmp 13), (1, .tmp 15)]) (x := (⟨o1.Value, o1.Mask⟩ : Tern)) rfl rfl rfl (by kernel_rfl) zr27 ⟨_, _, lTern_0, _, by kernel_rfl, (vt rfl), _, _, lTern_1, _, by kernel_rfl, (vt rfl), rfl⟩) rfl ?_
      refine AOps.cons (op_store rfl rfl ty27 (vt rfl) (i := 3) rfl (vt rfl)) rfl ?_
      refine AOps.nil ?_
      refine AW.ret ?_
      obtain rfl := Option.some.inj h
      exact ret1 Try.results57 rfl (out_cell rfl (i := 3) rfl ty27)
    · have h := cond_f hc h
      refine AW.skip ?_
      refine AW.seq ?_
      obtain ⟨x5, hx5, h⟩ := bsome h
      obtain ⟨x6, hx6, h⟩ := bsome h
      refine AW.regionAny [⟨[1], [17], [], []⟩, ⟨[17], [18], [2], []⟩, ⟨[1], [19], [], []⟩, ⟨[19], [20], [2], []⟩, ⟨[20], [21], [], []⟩, ⟨[21], [22], [], []⟩, ⟨[18, 22], [23], [], []⟩, ⟨[2, 23], [], [3], [3]⟩] mixed (by kernel_rfl) ?_
      refine SeqA.cons (loc [1] [] rfl rfl fun S hs hr => op_field lOxm_2 rfl rfl fl54_2 (vt ((hs 1 rfl).trans rfl))) ⟨rfl, rfl, rfl, rfl⟩ ?_
      refine SeqA.cons (loc [17] [2] rfl rfl fun S hs hr => op_load rfl rfl ty25 (vt ((hs 17 rfl).trans rfl)) (i := 2) ((hr 2 rfl).trans rfl)) ⟨rfl, rfl, rfl, rfl⟩ ?_
      refine SeqA.cons (loc [1] [] rfl rfl fun S hs hr => op_field lOxm_0 rfl rfl fl54_0 (vt ((hs 1 rfl).trans rfl))) ⟨rfl, rfl, rfl, rfl⟩ ?_
      refine SeqA.cons (loc [19] [2] rfl rfl fun S hs hr => op_load rfl rfl ty3 (vt ((hs 19 rfl).trans rfl)) (i := 2) ((hr 2 rfl).trans rfl)) ⟨rfl, rfl, rfl, rfl⟩ ?_
      refine SeqA.cons (loc [20] [] rfl rfl fun S hs hr => op_call (xs := [.tmp 20]) (c70 _ _ hx5) (Ent.mk Try.func70 rfl rfl) rfl rfl ⟨vt ((hs 20 rfl).trans rfl), trivial⟩) ⟨rfl, rfl, rfl, rfl⟩ ?_
      refine SeqA.cons (loc [21] [] rfl rfl fun S hs hr => op_call (xs := [.tmp 21]) (c60 _ _ hx6) (Ent.mk Try.func60 rfl rfl) rfl rfl ⟨vt ((hs 21 rfl).trans rfl), trivial⟩) ⟨rfl, rfl, rfl, rfl⟩ ?_
      refine SeqA.cons (loc [18, 22] [] rfl rfl fun S hs hr => op_build (ps := [(0, .tmp 18), (1, .tmp 22)]) (x := (⟨o1.Value, x6⟩ : Tern)) rfl rfl rfl (by kernel_rfl) zr27 ⟨_, _, lTern_0, _, by kernel_rfl, (vt ((hs 18 rfl).trans rfl)), _, _, lTern_1, _, by kernel_rfl, (vt ((hs 22 rfl).trans rfl)), rfl⟩) ⟨rfl, rfl, rfl, rfl⟩ ?_
      refine SeqA.cons (locr [2, 23] [3] rfl fun S hs hr => op_store rfl rfl ty27 (vt ((hs 2 rfl).trans rfl)) (i := 3) ((hr 3 rfl).trans rfl) (vt ((hs 23 rfl).trans rfl))) ⟨rfl, rfl, rfl, rfl⟩ ?_
      refine AW.ret ?_
      obtain rfl := Option.some.inj h
      exact ret1 Try.results57 rfl (out_cell rfl (i := 3) rfl ty27)
-- weirbox/wide.Less
def F31 (a1 : Wide) (b2 : Wide) : Option Wide :=
  some (⟨(a1.Hi &&& ~~~b2.Hi), (a1.Lo &&& ~~~b2.Lo)⟩ : Wide)
theorem c31 (a1 : Wide) (b2 : Wide) (r : Wide) (h : F31 a1 b2 = some r) : PCon Try.prog 31 [rd kWide a1, rd kWide b2] (rd kWide r) := by
  refine PCon.of (Con.intro0 Try.func31 rfl Try.ntmps31 rfl fun w H => ?_)
  unfold F31 at h
  refine AW.seq ?_
  refine AW.region ?_
  refine AOps.consT rfl (op_box 3 rfl rfl (vt rfl)) ?_
  rintro _ ⟨g3, rfl⟩
  refine AOps.consT rfl (op_box 4 rfl rfl (vt rfl)) ?_
  rintro _ ⟨g4, rfl⟩
  refine AOps.consT rfl (op_alloc 5 rfl rfl zr25) ?_
  rintro _ ⟨g5, rfl⟩
  refine AOps.nil ?_
  refine AW.seq ?_
  refine AW.region ?_
  refine AOps.cons (op_field lWide_0 rfl rfl fl25_0 (vt rfl)) rfl ?_
  refine AOps.cons (op_load rfl rfl ty23 (vt rfl) (i := 3) rfl) rfl ?_
  refine AOps.cons (op_field lWide_0 rfl rfl fl25_0 (vt rfl)) rfl ?_
  refine AOps.cons (op_load rfl rfl ty23 (vt rfl) (i := 4) rfl) rfl ?_
  refine AOps.cons (op_andNot rfl rfl (vt rfl) (vt rfl)) rfl ?_
  refine AOps.cons (op_field lWide_1 rfl rfl fl25_1 (vt rfl)) rfl ?_
  refine AOps.cons (op_load rfl rfl ty23 (vt rfl) (i := 3) rfl) rfl ?_
  refine AOps.cons (op_field lWide_1 rfl rfl fl25_1 (vt rfl)) rfl ?_
  refine AOps.cons (op_load rfl rfl ty23 (vt rfl) (i := 4) rfl) rfl ?_
  refine AOps.cons (op_andNot rfl rfl (vt rfl) (vt rfl)) rfl ?_
  refine AOps.cons (op_build (ps := [(0, .tmp 9), (1, .tmp 14)]) (x := (⟨(a1.Hi &&& ~~~b2.Hi), (a1.Lo &&& ~~~b2.Lo)⟩ : Wide)) rfl rfl rfl (by kernel_rfl) zr25 ⟨_, _, lWide_0, _, by kernel_rfl, (vt rfl), _, _, lWide_1, _, by kernel_rfl, (vt rfl), rfl⟩) rfl ?_
  refine AOps.cons (op_store rfl rfl ty25 (vt rfl) (i := 5) rfl (vt rfl)) rfl ?_
  refine AOps.nil ?_
  refine AW.ret ?_
  obtain rfl := Option.some.inj h
  exact ret1 Try.results31 rfl (out_cell rfl (i := 5) rfl ty25)
-- weirbox/wide.Or
def F30 (a1 : Wide) (b2 : Wide) : Option Wide :=
  some (⟨(a1.Hi ||| b2.Hi), (a1.Lo ||| b2.Lo)⟩ : Wide)
theorem c30 (a1 : Wide) (b2 : Wide) (r : Wide) (h : F30 a1 b2 = some r) : PCon Try.prog 30 [rd kWide a1, rd kWide b2] (rd kWide r) := by
  refine PCon.of (Con.intro0 Try.func30 rfl Try.ntmps30 rfl fun w H => ?_)
  unfold F30 at h
  refine AW.seq ?_
  refine AW.region ?_
  refine AOps.consT rfl (op_box 3 rfl rfl (vt rfl)) ?_
  rintro _ ⟨g3, rfl⟩
  refine AOps.consT rfl (op_box 4 rfl rfl (vt rfl)) ?_
  rintro _ ⟨g4, rfl⟩
  refine AOps.consT rfl (op_alloc 5 rfl rfl zr25) ?_
  rintro _ ⟨g5, rfl⟩
  refine AOps.nil ?_
  refine AW.seq ?_
  refine AW.region ?_
  refine AOps.cons (op_field lWide_0 rfl rfl fl25_0 (vt rfl)) rfl ?_
  refine AOps.cons (op_load rfl rfl ty23 (vt rfl) (i := 3) rfl) rfl ?_
  refine AOps.cons (op_field lWide_0 rfl rfl fl25_0 (vt rfl)) rfl ?_
  refine AOps.cons (op_load rfl rfl ty23 (vt rfl) (i := 4) rfl) rfl ?_
  refine AOps.cons (op_or rfl rfl (vt rfl) (vt rfl)) rfl ?_
  refine AOps.cons (op_field lWide_1 rfl rfl fl25_1 (vt rfl)) rfl ?_
  refine AOps.cons (op_load rfl rfl ty23 (vt rfl) (i := 3) rfl) rfl ?_
  refine AOps.cons (op_field lWide_1 rfl rfl fl25_1 (vt rfl)) rfl ?_
  refine AOps.cons (op_load rfl rfl ty23 (vt rfl) (i := 4) rfl) rfl ?_
  refine AOps.cons (op_or rfl rfl (vt rfl) (vt rfl)) rfl ?_
  refine AOps.cons (op_build (ps := [(0, .tmp 9), (1, .tmp 14)]) (x := (⟨(a1.Hi ||| b2.Hi), (a1.Lo ||| b2.Lo)⟩ : Wide)) rfl rfl rfl (by kernel_rfl) zr25 ⟨_, _, lWide_0, _, by kernel_rfl, (vt rfl), _, _, lWide_1, _, by kernel_rfl, (vt rfl), rfl⟩) rfl ?_
  refine AOps.cons (op_store rfl rfl ty25 (vt rfl) (i := 5) rfl (vt rfl)) rfl ?_
  refine AOps.nil ?_
  refine AW.ret ?_
  obtain rfl := Option.some.inj h
  exact ret1 Try.results30 rfl (out_cell rfl (i := 5) rfl ty25)
-- weirbox/rewrite.over
def F56 (a1 : Tern) (b2 : Tern) : Option Tern :=
  (F39 a1).bind fun x6 => (F39 b2).bind fun x7 => (F31 x6.Value x7.Mask).bind fun x8 => (F30 x8 x7.Value).bind fun x9 => (F30 x6.Mask x7.Mask).bind fun x10 => some (⟨x9, x10⟩ : Tern)
theorem c56 (a1 : Tern) (b2 : Tern) (r : Tern) (h : F56 a1 b2 = some r) : PCon Try.prog 56 [rd kTern a1, rd kTern b2] (rd kTern r) := by
  refine PCon.of (Con.intro0 Try.func56 rfl Try.ntmps56 rfl fun w H => ?_)
  unfold F56 at h
  refine AW.seq ?_
  refine AW.region ?_
  refine AOps.consT rfl (op_box 3 rfl rfl (vt rfl)) ?_
  rintro _ ⟨g3, rfl⟩
  refine AOps.consT rfl (op_box 4 rfl rfl (vt rfl)) ?_
  rintro _ ⟨g4, rfl⟩
  refine AOps.consT rfl (op_alloc 5 rfl rfl zr27) ?_
  rintro _ ⟨g5, rfl⟩
  refine AOps.nil ?_
  refine AW.seq ?_
  obtain ⟨x6, hx6, h⟩ := bsome h
  obtain ⟨x7, hx7, h⟩ := bsome h
  refine AW.regionAny [⟨[2], [5], [3], []⟩, ⟨[5], [6], [], []⟩, ⟨[3], [7], [4], []⟩, ⟨[7], [8], [], []⟩, ⟨[2, 6], [], [3], [3]⟩, ⟨[3, 8], [], [4], [4]⟩] mixed (by kernel_rfl) ?_
  refine SeqA.cons (loc [2] [3] rfl rfl fun S hs hr => op_load rfl rfl ty27 (vt ((hs 2 rfl).trans rfl)) (i := 3) ((hr 3 rfl).trans rfl)) ⟨rfl, rfl, rfl, rfl⟩ ?_
  refine SeqA.cons (loc [5] [] rfl rfl fun S hs hr => op_call (xs := [.tmp 5]) (c39 _ _ hx6) (Ent.mk Try.func39 rfl rfl) rfl rfl ⟨vt ((hs 5 rfl).trans rfl), trivial⟩) ⟨rfl, rfl, rfl, rfl⟩ ?_
  refine SeqA.cons (loc [3] [4] rfl rfl fun S hs hr => op_load rfl rfl ty27 (vt ((hs 3 rfl).trans rfl)) (i := 4) ((hr 4 rfl).trans rfl)) ⟨rfl, rfl, rfl, rfl⟩ ?_
  refine SeqA.cons (loc [7] [] rfl rfl fun S hs hr => op_call (xs := [.tmp 7]) (c39 _ _ hx7) (Ent.mk Try.func39 rfl rfl) rfl rfl ⟨vt ((hs 7 rfl).trans rfl), trivial⟩) ⟨rfl, rfl, rfl, rfl⟩ ?_
  refine SeqA.cons (locr [2, 6] [3] rfl fun S hs hr => op_store rfl rfl ty27 (vt ((hs 2 rfl).trans rfl)) (i := 3) ((hr 3 rfl).trans rfl) (vt ((hs 6 rfl).trans rfl))) ⟨rfl, rfl, rfl, rfl⟩ ?_
  refine SeqA.cons (locr [3, 8] [4] rfl fun S hs hr => op_store rfl rfl ty27 (vt ((hs 3 rfl).trans rfl)) (i := 4) ((hr 4 rfl).trans rfl) (vt ((hs 8 rfl).trans rfl))) ⟨rfl, rfl, rfl, rfl⟩ ?_
  refine AW.seq ?_
  obtain ⟨x8, hx8, h⟩ := bsome h
  obtain ⟨x9, hx9, h⟩ := bsome h
  obtain ⟨x10, hx10, h⟩ := bsome h
  refine AW.regionAny [⟨[2], [9], [], []⟩, ⟨[9], [10], [3], []⟩, ⟨[3], [11], [], []⟩, ⟨[11], [12], [4], []⟩, ⟨[10, 12], [13], [], []⟩, ⟨[3], [14], [], []⟩, ⟨[14], [15], [4], []⟩, ⟨[13, 15], [16], [], []⟩, ⟨[2], [17], [], []⟩, ⟨[17], [18], [3], []⟩, ⟨[3], [19], [], []⟩, ⟨[19], [20], [4], []⟩, ⟨[18, 20], [21], [], []⟩, ⟨[16, 21], [22], [], []⟩, ⟨[4, 22], [], [5], [5]⟩] mixed (by kernel_rfl) ?_
  refine SeqA.cons (loc [2] [] rfl rfl fun S hs hr => op_field lTern_0 rfl rfl fl27_0 (vt ((hs 2 rfl).trans rfl))) ⟨rfl, rfl, rfl, rfl⟩ ?_
  refine SeqA.cons (loc [9] [3] rfl rfl fun S hs hr => op_load rfl rfl ty25 (vt ((hs 9 rfl).trans rfl)) (i := 3) ((hr 3 rfl).trans rfl)) ⟨rfl, rfl, rfl, rfl⟩ ?_
  refine SeqA.cons (loc [3] [] rfl rfl fun S hs hr => op_field lTern_1 rfl rfl fl27_1 (vt ((hs 3 rfl).trans rfl))) ⟨rfl, rfl, rfl, rfl⟩ ?_
  refine SeqA.cons (loc [11] [4] rfl rfl fun S hs hr => op_load rfl rfl ty25 (vt ((hs 11 rfl).trans rfl)) (i := 4) ((hr 4 rfl).trans rfl)) ⟨rfl, rfl, rfl, rfl⟩ ?_
  refine SeqA.cons (loc [10, 12] [] rfl rfl fun S hs hr => op_call (xs := [.tmp 10, .tmp 12]) (c31 _ _ _ hx8) (Ent.mk Try.func31 rfl rfl) rfl rfl ⟨vt ((hs 10 rfl).trans rfl), vt ((hs 12 rfl).trans rfl), trivial⟩) ⟨rfl, rfl, rfl, rfl⟩ ?_
  refine SeqA.cons (loc [3] [] rfl rfl fun S hs hr => op_field lTern_0 rfl rfl fl27_0 (vt ((hs 3 rfl).trans rfl))) ⟨rfl, rfl, rfl, rfl⟩ ?_
  refine SeqA.cons (loc [14] [4] rfl rfl fun S hs hr => op_load rfl rfl ty25 (vt ((hs 14 rfl).trans rfl)) (i := 4) ((hr 4 rfl).trans rfl)) ⟨rfl, rfl, rfl, rfl⟩ ?_
  refine SeqA.cons (loc [13, 15] [] rfl rfl fun S hs hr => op_call (xs := [.tmp 13, .tmp 15]) (c30 _ _ _ hx9) (Ent.mk Try.func30 rfl rfl) rfl rfl ⟨vt ((hs 13 rfl).trans rfl), vt ((hs 15 rfl).trans rfl), trivial⟩) ⟨rfl, rfl, rfl, rfl⟩ ?_
  refine SeqA.cons (loc [2] [] rfl rfl fun S hs hr => op_field lTern_1 rfl rfl fl27_1 (vt ((hs 2 rfl).trans rfl))) ⟨rfl, rfl, rfl, rfl⟩ ?_
  refine SeqA.cons (loc [17] [3] rfl rfl fun S hs hr => op_load rfl rfl ty25 (vt ((hs 17 rfl).trans rfl)) (i := 3) ((hr 3 rfl).trans rfl)) ⟨rfl, rfl, rfl, rfl⟩ ?_
  refine SeqA.cons (loc [3] [] rfl rfl fun S hs hr => op_field lTern_1 rfl rfl fl27_1 (vt ((hs 3 rfl).trans rfl))) ⟨rfl, rfl, rfl, rfl⟩ ?_
  refine SeqA.cons (loc [19] [4] rfl rfl fun S hs hr => op_load rfl rfl ty25 (vt ((hs 19 rfl).trans rfl)) (i := 4) ((hr 4 rfl).trans rfl)) ⟨rfl, rfl, rfl, rfl⟩ ?_
  refine SeqA.cons (loc [18, 20] [] rfl rfl fun S hs hr => op_call (xs := [.tmp 18, .tmp 20]) (c30 _ _ _ hx10) (Ent.mk Try.func30 rfl rfl) rfl rfl ⟨vt ((hs 18 rfl).trans rfl), vt ((hs 20 rfl).trans rfl), trivial⟩) ⟨rfl, rfl, rfl, rfl⟩ ?_
  refine SeqA.cons (loc [16, 21] [] rfl rfl fun S hs hr => op_build (ps := [(0, .tmp 16), (1, .tmp 21)]) (x := (⟨x9, x10⟩ : Tern)) rfl rfl rfl (by kernel_rfl) zr27 ⟨_, _, lTern_0, _, by kernel_rfl, (vt ((hs 16 rfl).trans rfl)), _, _, lTern_1, _, by kernel_rfl, (vt ((hs 21 rfl).trans rfl)), rfl⟩) ⟨rfl, rfl, rfl, rfl⟩ ?_
  refine SeqA.cons (locr [4, 22] [5] rfl fun S hs hr => op_store rfl rfl ty27 (vt ((hs 4 rfl).trans rfl)) (i := 5) ((hr 5 rfl).trans rfl) (vt ((hs 22 rfl).trans rfl))) ⟨rfl, rfl, rfl, rfl⟩ ?_
  refine AW.ret ?_
  obtain rfl := Option.some.inj h
  exact ret1 Try.results56 rfl (out_cell rfl (i := 5) rfl ty27)
-- weirbox/rewrite.Set
def F58 (r1 : (Vector Tern 24)) (f2 : Int) (value3 : Wide) (mask4 : Wide) : Option (Vector Tern 24) :=
  (F18 r1).bind fun x9 => (F69 f2).bind fun x10 => (bif x10 then (chk 24 f2).bind fun j11 => (F56 (Vector.get x9 j11) (⟨value3, mask4⟩ : Tern)).bind fun x12 => (chk 24 f2).bind fun j13 => some (Vector.set x9 j13.1 x12 j13.2) else some x9)
theorem c58 (r1 : (Vector Tern 24)) (f2 : Int) (value3 : Wide) (mask4 : Wide) (r : (Vector Tern 24)) (h : F58 r1 f2 value3 mask4 = some r) : PCon Try.prog 58 [rd (karr 24 kTern) r1, rd (kint .i64) f2, rd kWide value3, rd kWide mask4] (rd (karr 24 kTern) r) := by
  refine PCon.of (Con.intro0 Try.func58 rfl Try.ntmps58 rfl fun w H => ?_)
  unfold F58 at h
  refine AW.seq ?_
  refine AW.region ?_
  refine AOps.consT rfl (op_box 5 rfl rfl (vt rfl)) ?_
  rintro _ ⟨g5, rfl⟩
  refine AOps.consT rfl (op_box 7 rfl rfl (vt rfl)) ?_
  rintro _ ⟨g6, rfl⟩
  refine AOps.consT rfl (op_box 8 rfl rfl (vt rfl)) ?_
  rintro _ ⟨g7, rfl⟩
  refine AOps.consT rfl (op_alloc 9 rfl rfl zr29) ?_
  rintro _ ⟨g8, rfl⟩
  refine AOps.nil ?_
  refine AW.seq ?_
  obtain ⟨x9, hx9, h⟩ := bsome h
  refine AW.region ?_
  refine AOps.cons (op_load rfl rfl ty29 (vt rfl) (i := 5) rfl) rfl ?_
  refine AOps.cons (op_call (xs := [.tmp 9]) (c18 _ _ hx9) (Ent.mk Try.func18 rfl rfl) rfl rfl ⟨vt rfl, trivial⟩) rfl ?_
  refine AOps.cons (op_store rfl rfl ty29 (vt rfl) (i := 5) rfl (vt rfl)) rfl ?_
  refine AOps.nil ?_
  refine AW.seq ?_
  refine AW.seq ?_
  obtain ⟨x10, hx10, h⟩ := bsome h
  refine AW.region ?_
  refine AOps.cons (op_move (A := rd (kint .i64) f2) rfl rfl (vt rfl)) rfl ?_
  refine AOps.cons (op_call (xs := [.tmp 11]) (c69 _ _ hx10) (Ent.mk Try.func69 rfl rfl) rfl rfl ⟨vt rfl, trivial⟩) rfl ?_
  refine AOps.nil ?_
  refine AW.cond (vt rfl) (fun hc => ?_) (fun hc => ?_)
  · have h := cond_t hc h
    obtain ⟨j11, hj11, h⟩ := bsome h
    obtain ⟨x12, hx12, h⟩ := bsome h
    obtain ⟨j13, hj13, h⟩ := bsome h
    refine AW.regionAny [⟨[1], [13], [], []⟩, ⟨[1], [14], [], []⟩, ⟨[4, 14], [15], [], []⟩, ⟨[15], [16], [5], []⟩, ⟨[6], [17], [7], []⟩, ⟨[7], [18], [8], []⟩, ⟨[17, 18], [19], [], []⟩, ⟨[16, 19], [20], [], []⟩, ⟨[4, 13], [21], [], []⟩, ⟨[21, 20], [], [5], [5]⟩] mixed (by kernel_rfl) ?_
    refine SeqA.cons (loc [1] [] rfl rfl fun S hs hr => op_move (A := rd (kint .i64) f2) rfl rfl (vt ((hs 1 rfl).trans rfl))) ⟨rfl, rfl, rfl, rfl⟩ ?_
    refine SeqA.cons (loc [1] [] rfl rfl fun S hs hr => op_move (A := rd (kint .i64) f2) rfl rfl (vt ((hs 1 rfl).trans rfl))) ⟨rfl, rfl, rfl, rfl⟩ ?_
    refine SeqA.cons (loc [4, 14] [] rfl rfl fun S hs hr => op_index' rfl rfl ar29 (vt ((hs 4 rfl).trans rfl)) (vt ((hs 14 rfl).trans rfl)) hj11) ⟨rfl, rfl, rfl, rfl⟩ ?_
    refine SeqA.cons (loc [15] [5] rfl rfl fun S hs hr => op_load rfl rfl ty27 (vt ((hs 15 rfl).trans rfl)) (i := 5) ((hr 5 rfl).trans rfl)) ⟨rfl, rfl, rfl, rfl⟩ ?_
    refine SeqA.cons (loc [6] [7] rfl rfl fun S hs hr => op_load rfl rfl ty25 (vt ((hs 6 rfl).trans rfl)) (i := 7) ((hr 7 rfl).trans rfl)) ⟨rfl, rfl, rfl, rfl⟩ ?_
    refine SeqA.cons (loc [7] [8] rfl rfl fun S hs hr => op_load rfl rfl ty25 (vt ((hs 7 rfl).trans rfl)) (i := 8) ((hr 8 rfl).trans rfl)) ⟨rfl, rfl, rfl, rfl⟩ ?_
    refine SeqA.cons (loc [17, 18] [] rfl rfl fun S hs hr => op_build (ps := [(0, .tmp 17), (1, .tmp 18)]) (x := (⟨value3, mask4⟩ : Tern)) rfl rfl rfl (by kernel_rfl) zr27 ⟨_, _, lTern_0, _, by kernel_rfl, (vt ((hs 17 rfl).trans rfl)), _, _, lTern_1, _, by kernel_rfl, (vt ((hs 18 rfl).trans rfl)), rfl⟩) ⟨rfl, rfl, rfl, rfl⟩ ?_
    refine SeqA.cons (loc [16, 19] [] rfl rfl fun S hs hr => op_call (xs := [.tmp 16, .tmp 19]) (c56 _ _ _ hx12) (Ent.mk Try.func56 rfl rfl) rfl rfl ⟨vt ((hs 16 rfl).trans rfl), vt ((hs 19 rfl).trans rfl), trivial⟩) ⟨rfl, rfl, rfl, rfl⟩ ?_
    refine SeqA.cons (loc [4, 13] [] rfl rfl fun S hs hr => op_index' rfl rfl ar29 (vt ((hs 4 rfl).trans rfl)) (vt ((hs 13 rfl).trans rfl)) hj13) ⟨rfl, rfl, rfl, rfl⟩ ?_
    refine SeqA.cons (locr [21, 20] [5] rfl fun S hs hr => op_store rfl rfl ty27 (vt ((hs 21 rfl).trans rfl)) (i := 5) ((hr 5 rfl).trans rfl) (vt ((hs 20 rfl).trans rfl))) ⟨rfl, rfl, rfl, rfl⟩ ?_
    refine AW.seq ?_
    refine AW.region ?_
    refine AOps.cons (op_load rfl rfl ty29 (vt rfl) (i := 5) rfl) rfl ?_
    refine AOps.cons (op_store rfl rfl ty29 (vt rfl) (i := 9) rfl (vt rfl)) rfl ?_
    refine AOps.nil ?_
    refine AW.ret ?_
    obtain rfl := Option.some.inj h
    exact ret1 Try.results58 rfl (out_cell rfl (i := 9) rfl ty29)
  · have h := cond_f hc h
    refine AW.skip ?_
    refine AW.seq ?_
    refine AW.region ?_
    refine AOps.cons (op_load rfl rfl ty29 (vt rfl) (i := 5) rfl) rfl ?_
    refine AOps.cons (op_store rfl rfl ty29 (vt rfl) (i := 9) rfl (vt rfl)) rfl ?_
    refine AOps.nil ?_
    refine AW.ret ?_
    obtain rfl := Option.some.inj h
    exact ret1 Try.results58 rfl (out_cell rfl (i := 9) rfl ty29)
-- weirbox/wide.Bit
def F59 (i1 : Int) : Option Wide :=
  (bif ((decide (i1 < 0)) || (decide (i1 > 127))) then some (⟨0, 0⟩ : Wide) else (oquo .i64 i1 64).bind fun q4 => (omod i1 64).bind fun q5 => (oushl (1 : BitVec 64) q5).bind fun q6 => (chk 2 q4).bind fun j7 => some (⟨(Vector.get (Vector.set (Vector.replicate 2 0) j7.1 q6 j7.2) (⟨1, by decide⟩ : _root_.Fin 2)), (Vector.get (Vector.set (Vector.replicate 2 0) j7.1 q6 j7.2) (⟨0, by decide⟩ : _root_.Fin 2))⟩ : Wide))
theorem c59 (i1 : Int) (r : Wide) (h : F59 i1 = some r) : PCon Try.prog 59 [rd (kint .i64) i1] (rd kWide r) := by
  refine PCon.of (Con.intro0 Try.func59 rfl Try.ntmps59 rfl fun w H => ?_)
  unfold F59 at h
  refine AW.seq ?_
  refine AW.region ?_
  refine AOps.consT rfl (op_alloc 3 rfl rfl zr25) ?_
  rintro _ ⟨g2, rfl⟩
  refine AOps.nil ?_
  refine AW.seq ?_
  refine AW.region ?_
  refine AOps.consT rfl (op_alloc 4 rfl rfl zr107) ?_
  rintro _ ⟨g3, rfl⟩
  refine AOps.nil ?_
  refine AW.seq ?_
  refine AW.seq ?_
  refine AW.region ?_
  refine AOps.cons (op_move (A := rd (kint .i64) i1) rfl rfl (vt rfl)) rfl ?_
  refine AOps.cons (op_lss rfl rfl (vt rfl) (vk rfl)) rfl ?_
  refine AOps.cons (op_move (A := rd kbool (decide (i1 < 0))) rfl rfl (vt rfl)) rfl ?_
  refine AOps.consG (OpG.guard rfl rfl rfl rfl rfl fun hq => op_move (A := rd (kint .i64) i1) rfl rfl (vt rfl)) ?_
  refine AOps.consG (OpG.guard rfl rfl rfl rfl rfl fun hq => op_gtr rfl rfl (vgt rfl hq) (vk rfl)) ?_
  refine AOps.cons (op_any rfl rfl (vt rfl) (vt rfl)) rfl ?_
  refine AOps.nil ?_
  refine AW.cond (vt rfl) (fun hc => ?_) (fun hc => ?_)
  · have h := cond_t hc h
    refine AW.seq ?_
    refine AW.region ?_
    refine AOps.cons (op_build (ps := []) (x := (⟨0, 0⟩ : Wide)) rfl rfl rfl (by kernel_rfl) zr25 rfl) rfl ?_
    refine AOps.cons (op_store rfl rfl ty25 (vt rfl) (i := 3) rfl (vt rfl)) rfl ?_
    refine AOps.nil ?_
    refine AW.ret ?_
    obtain rfl := Option.some.inj h
    exact ret1 Try.results59 rfl (out_cell rfl (i := 3) rfl ty25)
  · have h := cond_f hc h
    refine AW.skip ?_
    refine AW.seq ?_
    obtain ⟨q4, hq4, h⟩ := bsome h
    obtain ⟨q5, hq5, h⟩ := bsome h
    obtain ⟨q6, hq6, h⟩ := bsome h
    obtain ⟨j7, hj7, h⟩ := bsome h
    refine AW.region ?_
    refine AOps.cons (op_move (A := rd (kint .i64) i1) rfl rfl (vt rfl)) rfl ?_
    refine AOps.cons (op_quo rfl rfl (vt rfl) (vk rfl) hq4) rfl ?_
    refine AOps.cons (op_move (A := rd (kint .i64) i1) rfl rfl (vt rfl)) rfl ?_
    refine AOps.cons (op_rem rfl rfl (vt rfl) (vk rfl) hq5) rfl ?_
    refine AOps.cons (op_ushl rfl rfl (vku (1 : BitVec 64) rfl) (vt rfl) hq6) rfl ?_
    refine AOps.cons (op_index' rfl rfl ar107 (vt rfl) (vt rfl) hj7) rfl ?_
    refine AOps.cons (op_store rfl rfl ty23 (vt rfl) (i := 4) rfl (vt rfl)) rfl ?_
    refine AOps.nil ?_
    refine AW.seq ?_
    refine AW.region ?_
    refine AOps.cons (op_index' rfl rfl ar107 (vt rfl) (vk rfl) rfl) rfl ?_
    refine AOps.cons (op_load rfl rfl ty23 (vt rfl) (i := 4) rfl) rfl ?_
    refine AOps.cons (op_index' rfl rfl ar107 (vt rfl) (vk rfl) rfl) rfl ?_
    refine AOps.cons (op_load rfl rfl ty23 (vt rfl) (i := 4) rfl) rfl ?_
    refine AOps.cons (op_build (ps := [(0, .tmp 18), (1, .tmp 20)]) (x := (⟨(Vector.get (Vector.set (Vector.replicate 2 0) j7.1 q6 j7.2) (⟨1, by decide⟩ : _root_.Fin 2)), (Vector.get (Vector.set (Vector.replicate 2 0) j7.1 q6 j7.2) (⟨0, by decide⟩ : _root_.Fin 2))⟩ : Wide)) rfl rfl rfl (by kernel_rfl) zr25 ⟨_, _, lWide_0, _, by kernel_rfl, (vt rfl), _, _, lWide_1, _, by kernel_rfl, (vt rfl), rfl⟩) rfl ?_
    refine AOps.cons (op_store rfl rfl ty25 (vt rfl) (i := 3) rfl (vt rfl)) rfl ?_
    refine AOps.nil ?_
    refine AW.ret ?_
    obtain rfl := Option.some.inj h
    exact ret1 Try.results59 rfl (out_cell rfl (i := 3) rfl ty25)
end Go.Proofs.Ytokmmcflinnfiab.W
