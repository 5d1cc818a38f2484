/- GdF1: a part of the proof. -/
import Derived.Test.YtokmmcflinnfiaaGdF0
set_option linter.unusedVariables false
set_option maxRecDepth 4000
set_option linter.unusedSimpArgs false
namespace Go.Proofs.Ytokmmcflinnfiaa.W
open Go Go.Wb
-- weirbox/wide.Zero
def F122 (a1 : Wide) : Option Bool :=
  some (decide ((a1.Hi ||| a1.Lo) = (0 : BitVec 64)))
theorem c122 (a1 : Wide) (r : Bool) (h : F122 a1 = some r) : PCon Try.prog 122 [rd kWide a1] (rd kbool r) := by
  refine PCon.of (Con.intro0 Try.func122 rfl Try.ntmps122 rfl fun w H => ?_)
  unfold F122 at h
  refine AW.seq ?_
  refine AW.region ?_
  refine AOps.consT rfl (op_box 2 rfl rfl (vt rfl)) ?_
  rintro _ ⟨g2, rfl⟩
  refine AOps.cons (op_assign (A := rd kbool false) rfl rfl vb) rfl ?_
  refine AOps.nil ?_
  refine AW.seq ?_
  refine AW.region ?_
  refine AOps.cons (op_field lWide_0 rfl rfl fl52_0 (vt rfl)) rfl ?_
  refine AOps.cons (op_load rfl rfl ty50 (vt rfl) (i := 2) rfl) rfl ?_
  refine AOps.cons (op_field lWide_1 rfl rfl fl52_1 (vt rfl)) rfl ?_
  refine AOps.cons (op_load rfl rfl ty50 (vt rfl) (i := 2) rfl) rfl ?_
  refine AOps.cons (op_or rfl rfl (vt rfl) (vt rfl)) rfl ?_
  refine AOps.cons (op_eqlu rfl rfl (vt rfl) (vku (0 : BitVec 64) rfl)) rfl ?_
  refine AOps.cons (op_assign (A := rd kbool (decide ((a1.Hi ||| a1.Lo) = (0 : BitVec 64)))) rfl rfl (vt rfl)) rfl ?_
  refine AOps.nil ?_
  refine AW.ret ?_
  obtain rfl := Option.some.inj h
  exact ret1 Try.results122 rfl (out_tmp rfl)
-- weirbox/differ.apart
def F90_l1 (a1 : Atom) (b2 : Atom) : Nat → Nat → Option Bool
  | 0, i5 => some false
  | m6 + 1, i5 => (chk 24 (i5 : Int)).bind fun j7 => (chk 24 (i5 : Int)).bind fun j8 => (F135 (Vector.get a1.Rewrite j7) (Vector.get b2.Rewrite j8)).bind fun x9 => (F122 x9).bind fun x10 => (bif (!x10) then some true else (F90_l1 a1 b2 m6) (i5 + 1))
def F90 (a1 : Atom) (b2 : Atom) : Option Bool :=
  (bif (((!(a1.Group == b2.Group)) || (decide (a1.Port ≠ b2.Port))) || (decide (a1.Max ≠ b2.Max))) then some true else F90_l1 a1 b2 (24 : Int).toNat 0)
theorem c90 (a1 : Atom) (b2 : Atom) (r : Bool) (h : F90 a1 b2 = some r) : PCon Try.prog 90 [rd kAtom a1, rd kAtom b2] (rd kbool r) := by
  refine PCon.of (Con.intro0 Try.func90 rfl Try.ntmps90 rfl fun w H => ?_)
  unfold F90 at h
  refine AW.seq ?_
  refine AW.region ?_
  refine AOps.consT rfl (op_box 3 rfl rfl (vt rfl)) ?_
  rintro _ ⟨g3, rfl⟩
  refine AOps.consT rfl (op_box 4 rfl rfl (vt rfl)) ?_
  rintro _ ⟨g4, rfl⟩
  refine AOps.cons (op_assign (A := rd kbool false) rfl rfl vb) rfl ?_
  refine AOps.nil ?_
  refine AW.seq ?_
  refine AW.seq ?_
  refine AW.region ?_
  refine AOps.cons (op_field lAtom_1 rfl rfl fl97_1 (vt rfl)) rfl ?_
  refine AOps.cons (op_load rfl rfl ty4 (vt rfl) (i := 3) rfl) rfl ?_
  refine AOps.cons (op_field lAtom_1 rfl rfl fl97_1 (vt rfl)) rfl ?_
  refine AOps.cons (op_load rfl rfl ty4 (vt rfl) (i := 4) rfl) rfl ?_
  refine AOps.cons (op_neqb rfl rfl un4 (vt rfl) (vt rfl)) rfl ?_
  refine AOps.cons (op_move (A := rd kbool (!(a1.Group == b2.Group))) rfl rfl (vt rfl)) rfl ?_
  refine AOps.consG (OpG.guard rfl rfl rfl rfl rfl fun hq => op_field lAtom_2 rfl rfl fl97_2 (vt rfl)) ?_
  refine AOps.consG (OpG.guard rfl rfl rfl rfl rfl fun hq => op_load rfl rfl ty3 (vgt rfl hq) (i := 3) rfl) ?_
  refine AOps.consG (OpG.guard rfl rfl rfl rfl rfl fun hq => op_field lAtom_2 rfl rfl fl97_2 (vt rfl)) ?_
  refine AOps.consG (OpG.guard rfl rfl rfl rfl rfl fun hq => op_load rfl rfl ty3 (vgt rfl hq) (i := 4) rfl) ?_
  refine AOps.consG (OpG.guard rfl rfl rfl rfl rfl fun hq => op_neq rfl rfl (vgt rfl hq) (vgt rfl hq)) ?_
  refine AOps.cons (op_any rfl rfl (vt rfl) (vt rfl)) rfl ?_
  refine AOps.cons (op_move (A := rd kbool ((!(a1.Group == b2.Group)) || (decide (a1.Port ≠ b2.Port)))) rfl rfl (vt rfl)) rfl ?_
  refine AOps.consG (OpG.guard rfl rfl rfl rfl rfl fun hq => op_field lAtom_3 rfl rfl fl97_3 (vt rfl)) ?_
  refine AOps.consG (OpG.guard rfl rfl rfl rfl rfl fun hq => op_load rfl rfl ty3 (vgt rfl hq) (i := 3) rfl) ?_
  refine AOps.consG (OpG.guard rfl rfl rfl rfl rfl fun hq => op_field lAtom_3 rfl rfl fl97_3 (vt rfl)) ?_
  refine AOps.consG (OpG.guard rfl rfl rfl rfl rfl fun hq => op_load rfl rfl ty3 (vgt rfl hq) (i := 4) rfl) ?_
  refine AOps.consG (OpG.guard rfl rfl rfl rfl rfl fun hq => op_neq rfl rfl (vgt rfl hq) (vgt rfl hq)) ?_
  refine AOps.cons (op_any rfl rfl (vt rfl) (vt rfl)) rfl ?_
  refine AOps.nil ?_
  refine AW.cond (vt rfl) (fun hc => ?_) (fun hc => ?_)
  · have h := cond_t hc h
    refine AW.seq ?_
    refine AW.region ?_
    refine AOps.cons (op_assign (A := rd kbool true) rfl rfl vb) rfl ?_
    refine AOps.nil ?_
    refine AW.ret ?_
    obtain rfl := Option.some.inj h
    exact ret1 Try.results90 rfl (out_tmp rfl)
  · have h := cond_f hc h
    refine AW.skip ?_
    refine AW.seq ?_
    refine AW.seq ?_
    refine AW.region ?_
    refine AOps.cons (op_move (A := rd (kint .i64) 0) rfl rfl (vk rfl)) rfl ?_
    refine AOps.nil ?_
    refine AW.block ?_
    refine AW.loopG (d := []) (ν := Nat × Nat) (fun n => Cnt 24 n.2 n.1 ∧ F90_l1 a1 b2 n.1 n.2 = some r) (fun n => n.1) (fun n => [(2, ptrL g3 (Lens.id kAtom)), (3, ptrL g4 (Lens.id kAtom)), (25, rd (kint .i64) (n.2 : Int))]) (fun n => [(3, Blk g3 97 kAtom a1), (4, Blk g4 97 kAtom b2)]) ((24 : Int).toNat, 0) ⟨Cnt.start _, h⟩ ⟨rfl, ⟨rfl, rfl, rfl, trivial⟩, ⟨rfl, rfl, trivial⟩⟩ ?_
    rintro ⟨m6, i5⟩ ⟨hsf1, h⟩
    change Cnt 24 i5 m6 at hsf1
    change F90_l1 a1 b2 m6 i5 = some r at h
    change AW _ _ _ ⟨slots [(2, ptrL g3 (Lens.id kAtom)), (3, ptrL g4 (Lens.id kAtom)), (25, rd (kint .i64) (i5 : Int))], ress [(3, Blk g3 97 kAtom a1), (4, Blk g4 97 kAtom b2)], _⟩
    cases m6 with
    | zero =>
      unfold F90_l1 at h
      refine AW.seq ?_
      refine AW.region ?_
      refine AOps.cons (op_lss rfl rfl (vt rfl) (vk rfl)) rfl ?_
      refine AOps.nil ?_
      refine AW.seq ?_
      refine AW.cond (vt rfl) (fun hc => absurd (of_decide_eq_true hc) hsf1.zero) (fun hc => ?_)
      refine AW.exit ?_
      refine AW.seq ?_
      refine AW.region ?_
      refine AOps.cons (op_assign (A := rd kbool false) rfl rfl vb) rfl ?_
      refine AOps.nil ?_
      refine AW.ret ?_
      obtain rfl := Option.some.inj h
      exact ret1 Try.results90 rfl (out_tmp rfl)
    | succ m6 =>
      unfold F90_l1 at h
      generalize hgo1 : F90_l1 a1 b2 m6 = go1 at h
      refine AW.seq ?_
      refine AW.region ?_
      refine AOps.cons (op_lss rfl rfl (vt rfl) (vk rfl)) rfl ?_
      refine AOps.nil ?_
      refine AW.seq ?_
      refine AW.cond (vt rfl) (fun hc => ?_) (fun hc => absurd hsf1.succ (of_decide_eq_false hc))
      have hlti5 := of_decide_eq_true hc
      refine AW.skip ?_
      refine AW.seq ?_
      refine AW.block ?_
      refine AW.seq ?_
      refine AW.region ?_
      refine AOps.cons (op_move (A := rd (kint .i64) (i5 : Int)) rfl rfl (vt rfl)) rfl ?_
      refine AOps.cons (op_assign (A := rd (kint .i64) (i5 : Int)) rfl rfl (vt rfl)) rfl ?_
      refine AOps.nil ?_
      refine AW.seq ?_
      obtain ⟨j7, hj7, h⟩ := bsome h
      obtain ⟨j8, hj8, h⟩ := bsome h
      obtain ⟨x9, hx9, h⟩ := bsome h
      obtain ⟨x10, hx10, h⟩ := bsome h
      refine AW.regionAny [⟨[5], [28], [], []⟩, ⟨[2], [29], [], []⟩, ⟨[29, 28], [30], [], []⟩, ⟨[30], [31], [3], []⟩, ⟨[5], [32], [], []⟩, ⟨[3], [33], [], []⟩, ⟨[33, 32], [34], [], []⟩, ⟨[34], [35], [4], []⟩, ⟨[31, 35], [36], [], []⟩, ⟨[36], [37], [], []⟩, ⟨[37], [38], [], []⟩] mixed (by kernel_rfl) ?_
      refine SeqA.cons (loc [5] [] rfl rfl fun S hs hr => op_move (A := rd (kint .i64) (i5 : Int)) rfl rfl (vt ((hs 5 rfl).trans rfl))) ⟨rfl, rfl, rfl, rfl⟩ ?_
      refine SeqA.cons (loc [2] [] rfl rfl fun S hs hr => op_field lAtom_0 rfl rfl fl97_0 (vt ((hs 2 rfl).trans rfl))) ⟨rfl, rfl, rfl, rfl⟩ ?_
      refine SeqA.cons (loc [29, 28] [] rfl rfl fun S hs hr => op_index' rfl rfl ar95 (vt ((hs 29 rfl).trans rfl)) (vt ((hs 28 rfl).trans rfl)) hj7) ⟨rfl, rfl, rfl, rfl⟩ ?_
      refine SeqA.cons (loc [30] [3] rfl rfl fun S hs hr => op_load rfl rfl ty54 (vt ((hs 30 rfl).trans rfl)) (i := 3) ((hr 3 rfl).trans rfl)) ⟨rfl, rfl, rfl, rfl⟩ ?_
      refine SeqA.cons (loc [5] [] rfl rfl fun S hs hr => op_move (A := rd (kint .i64) (i5 : Int)) rfl rfl (vt ((hs 5 rfl).trans rfl))) ⟨rfl, rfl, rfl, rfl⟩ ?_
      refine SeqA.cons (loc [3] [] rfl rfl fun S hs hr => op_field lAtom_0 rfl rfl fl97_0 (vt ((hs 3 rfl).trans rfl))) ⟨rfl, rfl, rfl, rfl⟩ ?_
      refine SeqA.cons (loc [33, 32] [] rfl rfl fun S hs hr => op_index' rfl rfl ar95 (vt ((hs 33 rfl).trans rfl)) (vt ((hs 32 rfl).trans rfl)) hj8) ⟨rfl, rfl, rfl, rfl⟩ ?_
      refine SeqA.cons (loc [34] [4] rfl rfl fun S hs hr => op_load rfl rfl ty54 (vt ((hs 34 rfl).trans rfl)) (i := 4) ((hr 4 rfl).trans rfl)) ⟨rfl, rfl, rfl, rfl⟩ ?_
      refine SeqA.cons (loc [31, 35] [] rfl rfl fun S hs hr => op_call (xs := [.tmp 31, .tmp 35]) (c135 _ _ _ hx9) (Ent.mk Try.func135 rfl rfl) rfl rfl ⟨vt ((hs 31 rfl).trans rfl), vt ((hs 35 rfl).trans rfl), trivial⟩) ⟨rfl, rfl, rfl, rfl⟩ ?_
      refine SeqA.cons (loc [36] [] rfl rfl fun S hs hr => op_call (xs := [.tmp 36]) (c122 _ _ hx10) (Ent.mk Try.func122 rfl rfl) rfl rfl ⟨vt ((hs 36 rfl).trans rfl), trivial⟩) ⟨rfl, rfl, rfl, rfl⟩ ?_
      refine SeqA.cons (loc [37] [] rfl rfl fun S hs hr => op_not rfl rfl (vt ((hs 37 rfl).trans rfl))) ⟨rfl, rfl, rfl, rfl⟩ ?_
      refine AW.cond (vt rfl) (fun hc => ?_) (fun hc => ?_)
      · have h := cond_t hc h
        refine AW.seq ?_
        refine AW.region ?_
        refine AOps.cons (op_assign (A := rd kbool true) rfl rfl vb) rfl ?_
        refine AOps.nil ?_
        refine AW.ret ?_
        obtain rfl := Option.some.inj h
        exact ret1 Try.results90 rfl (out_tmp rfl)
      · have h := cond_f hc h
        refine AW.skip ?_
        refine AW.region ?_
        refine AOps.cons (op_incrc rfl rfl (vt rfl) (vk rfl) rfl hlti5) rfl ?_
        refine AOps.cons (op_move (A := rd (kint .i64) ((i5 + 1 : Nat) : Int)) rfl rfl (vt rfl)) rfl ?_
        refine AOps.nil ?_
        subst hgo1
        exact ⟨(m6, i5 + 1), Nat.lt_succ_self _, ⟨hsf1.next, h⟩, ⟨rfl, ⟨rfl, rfl, rfl, trivial⟩, ⟨rfl, rfl, trivial⟩⟩⟩
-- weirbox/differ.Unlike$1
def F89 (x1 : Atom) (y2 : Atom) : Option Bool :=
  (F90 x1 y2).bind fun x5 => some (!x5)
theorem c89 (x1 : Atom) (y2 : Atom) (r : Bool) (h : F89 x1 y2 = some r) : PCon Try.prog 89 [rd kAtom x1, rd kAtom y2] (rd kbool r) := by
  refine PCon.of (Con.intro0 Try.func89 rfl Try.ntmps89 rfl fun w H => ?_)
  unfold F89 at h
  refine AW.seq ?_
  refine AW.region ?_
  refine AOps.consT rfl (op_box 3 rfl rfl (vt rfl)) ?_
  rintro _ ⟨g3, rfl⟩
  refine AOps.consT rfl (op_box 4 rfl rfl (vt rfl)) ?_
  rintro _ ⟨g4, rfl⟩
  refine AOps.cons (op_assign (A := rd kbool false) rfl rfl vb) rfl ?_
  refine AOps.nil ?_
  refine AW.seq ?_
  obtain ⟨x5, hx5, h⟩ := bsome h
  refine AW.region ?_
  refine AOps.cons (op_load rfl rfl ty97 (vt rfl) (i := 3) rfl) rfl ?_
  refine AOps.cons (op_load rfl rfl ty97 (vt rfl) (i := 4) rfl) rfl ?_
  refine AOps.cons (op_call (xs := [.tmp 5, .tmp 6]) (c90 _ _ _ hx5) (Ent.mk Try.func90 rfl rfl) rfl rfl ⟨vt rfl, vt rfl, trivial⟩) rfl ?_
  refine AOps.cons (op_not rfl rfl (vt rfl)) rfl ?_
  refine AOps.cons (op_assign (A := rd kbool (!x5)) rfl rfl (vt rfl)) rfl ?_
  refine AOps.nil ?_
  refine AW.ret ?_
  obtain rfl := Option.some.inj h
  exact ret1 Try.results89 rfl (out_tmp rfl)
-- weirbox/differ.Unlike
def F39 (a1 : (List Atom)) (b2 : (List Atom)) : Option Bool :=
  (F88 a1 b2 F89).bind fun x3 => some (!x3)
theorem c39 (a1 : (List Atom)) (b2 : (List Atom)) (r : Bool) (h : F39 a1 b2 = some r) : PCon Try.prog 39 [rd (ksl kAtom) a1, rd (ksl kAtom) b2] (rd kbool r) := by
  refine PCon.of (Con.intro0 Try.func39 rfl Try.ntmps39 rfl fun w H => ?_)
  unfold F39 at h
  refine AW.seq ?_
  refine AW.region ?_
  refine AOps.cons (op_assign (A := rd kbool false) rfl rfl vb) rfl ?_
  refine AOps.nil ?_
  refine AW.seq ?_
  obtain ⟨x3, hx3, h⟩ := bsome h
  refine AW.region ?_
  refine AOps.cons (op_move (A := rd (ksl kAtom) a1) rfl rfl (vt rfl)) rfl ?_
  refine AOps.cons (op_move (A := rd (ksl kAtom) b2) rfl rfl (vt rfl)) rfl ?_
  refine AOps.cons (op_call (xs := [.tmp 5, .tmp 6, .func 89]) (c88 _ _ _ _ hx3) (Ent.mk Try.func88 rfl rfl) rfl rfl ⟨vt rfl, vt rfl, vf2 (Ent.mk Try.func89 rfl rfl) c89, trivial⟩) rfl ?_
  refine AOps.cons (op_not rfl rfl (vt rfl)) rfl ?_
  refine AOps.cons (op_assign (A := rd kbool (!x3)) rfl rfl (vt rfl)) rfl ?_
  refine AOps.nil ?_
  refine AW.ret ?_
  obtain rfl := Option.some.inj h
  exact ret1 Try.results39 rfl (out_tmp rfl)
-- weirbox/wide.Or
def F123 (a1 : Wide) (b2 : Wide) : Option Wide :=
  some (⟨(a1.Hi ||| b2.Hi), (a1.Lo ||| b2.Lo)⟩ : Wide)
theorem c123 (a1 : Wide) (b2 : Wide) (r : Wide) (h : F123 a1 b2 = some r) : PCon Try.prog 123 [rd kWide a1, rd kWide b2] (rd kWide r) := by
  refine PCon.of (Con.intro0 Try.func123 rfl Try.ntmps123 rfl fun w H => ?_)
  unfold F123 at h
  refine AW.seq ?_
  refine AW.region ?_
  refine AOps.consT rfl (op_box 3 rfl rfl (vt rfl)) ?_
  rintro _ ⟨g3, rfl⟩
  refine AOps.consT rfl (op_box 4 rfl rfl (vt rfl)) ?_
  rintro _ ⟨g4, rfl⟩
  refine AOps.consT rfl (op_alloc 5 rfl rfl zr52) ?_
  rintro _ ⟨g5, rfl⟩
  refine AOps.nil ?_
  refine AW.seq ?_
  refine AW.region ?_
  refine AOps.cons (op_field lWide_0 rfl rfl fl52_0 (vt rfl)) rfl ?_
  refine AOps.cons (op_load rfl rfl ty50 (vt rfl) (i := 3) rfl) rfl ?_
  refine AOps.cons (op_field lWide_0 rfl rfl fl52_0 (vt rfl)) rfl ?_
  refine AOps.cons (op_load rfl rfl ty50 (vt rfl) (i := 4) rfl) rfl ?_
  refine AOps.cons (op_or rfl rfl (vt rfl) (vt rfl)) rfl ?_
  refine AOps.cons (op_field lWide_1 rfl rfl fl52_1 (vt rfl)) rfl ?_
  refine AOps.cons (op_load rfl rfl ty50 (vt rfl) (i := 3) rfl) rfl ?_
  refine AOps.cons (op_field lWide_1 rfl rfl fl52_1 (vt rfl)) rfl ?_
  refine AOps.cons (op_load rfl rfl ty50 (vt rfl) (i := 4) rfl) rfl ?_
  refine AOps.cons (op_or rfl rfl (vt rfl) (vt rfl)) rfl ?_
  refine AOps.cons (op_build (ps := [(0, .tmp 9), (1, .tmp 14)]) (x := (⟨(a1.Hi ||| b2.Hi), (a1.Lo ||| b2.Lo)⟩ : Wide)) rfl rfl rfl (by kernel_rfl) zr52 ⟨_, _, lWide_0, _, by kernel_rfl, (vt rfl), _, _, lWide_1, _, by kernel_rfl, (vt rfl), rfl⟩) rfl ?_
  refine AOps.cons (op_store rfl rfl ty52 (vt rfl) (i := 5) rfl (vt rfl)) rfl ?_
  refine AOps.nil ?_
  refine AW.ret ?_
  obtain rfl := Option.some.inj h
  exact ret1 Try.results123 rfl (out_cell rfl (i := 5) rfl ty52)
-- weirbox/wide.Less
def F127 (a1 : Wide) (b2 : Wide) : Option Wide :=
  some (⟨(a1.Hi &&& ~~~b2.Hi), (a1.Lo &&& ~~~b2.Lo)⟩ : Wide)
theorem c127 (a1 : Wide) (b2 : Wide) (r : Wide) (h : F127 a1 b2 = some r) : PCon Try.prog 127 [rd kWide a1, rd kWide b2] (rd kWide r) := by
  refine PCon.of (Con.intro0 Try.func127 rfl Try.ntmps127 rfl fun w H => ?_)
  unfold F127 at h
  refine AW.seq ?_
  refine AW.region ?_
  refine AOps.consT rfl (op_box 3 rfl rfl (vt rfl)) ?_
  rintro _ ⟨g3, rfl⟩
  refine AOps.consT rfl (op_box 4 rfl rfl (vt rfl)) ?_
  rintro _ ⟨g4, rfl⟩
  refine AOps.consT rfl (op_alloc 5 rfl rfl zr52) ?_
  rintro _ ⟨g5, rfl⟩
  refine AOps.nil ?_
  refine AW.seq ?_
  refine AW.region ?_
  refine AOps.cons (op_field lWide_0 rfl rfl fl52_0 (vt rfl)) rfl ?_
  refine AOps.cons (op_load rfl rfl ty50 (vt rfl) (i := 3) rfl) rfl ?_
  refine AOps.cons (op_field lWide_0 rfl rfl fl52_0 (vt rfl)) rfl ?_
  refine AOps.cons (op_load rfl rfl ty50 (vt rfl) (i := 4) rfl) rfl ?_
  refine AOps.cons (op_andNot rfl rfl (vt rfl) (vt rfl)) rfl ?_
  refine AOps.cons (op_field lWide_1 rfl rfl fl52_1 (vt rfl)) rfl ?_
  refine AOps.cons (op_load rfl rfl ty50 (vt rfl) (i := 3) rfl) rfl ?_
  refine AOps.cons (op_field lWide_1 rfl rfl fl52_1 (vt rfl)) rfl ?_
  refine AOps.cons (op_load rfl rfl ty50 (vt rfl) (i := 4) rfl) rfl ?_
  refine AOps.cons (op_andNot rfl rfl (vt rfl) (vt rfl)) rfl ?_
  refine AOps.cons (op_build (ps := [(0, .tmp 9), (1, .tmp 14)]) (x := (⟨(a1.Hi &&& ~~~b2.Hi), (a1.Lo &&& ~~~b2.Lo)⟩ : Wide)) rfl rfl rfl (by kernel_rfl) zr52 ⟨_, _, lWide_0, _, by kernel_rfl, (vt rfl), _, _, lWide_1, _, by kernel_rfl, (vt rfl), rfl⟩) rfl ?_
  refine AOps.cons (op_store rfl rfl ty52 (vt rfl) (i := 5) rfl (vt rfl)) rfl ?_
  refine AOps.nil ?_
  refine AW.ret ?_
  obtain rfl := Option.some.inj h
  exact ret1 Try.results127 rfl (out_cell rfl (i := 5) rfl ty52)
-- math/bits.OnesCount64
def F160 (x1 : (BitVec 64)) : Option Int :=
  (oushr x1 ((1 : BitVec 64).toNat : Int)).bind fun q2 => (oushr ((q2 &&& (6148914691236517205 : BitVec 64)) + (x1 &&& (6148914691236517205 : BitVec 64))) ((2 : BitVec 64).toNat : Int)).bind fun q3 => (oushr ((q3 &&& (3689348814741910323 : BitVec 64)) + (((q2 &&& (6148914691236517205 : BitVec 64)) + (x1 &&& (6148914691236517205 : BitVec 64))) &&& (3689348814741910323 : BitVec 64))) ((4 : BitVec 64).toNat : Int)).bind fun q4 => (oushr ((q4 + ((q3 &&& (3689348814741910323 : BitVec 64)) + (((q2 &&& (6148914691236517205 : BitVec 64)) + (x1 &&& (6148914691236517205 : BitVec 64))) &&& (3689348814741910323 : BitVec 64)))) &&& (1085102592571150095 : BitVec 64)) ((8 : BitVec 64).toNat : Int)).bind fun q5 => (oushr (((q4 + ((q3 &&& (3689348814741910323 : BitVec 64)) + (((q2 &&& (6148914691236517205 : BitVec 64)) + (x1 &&& (6148914691236517205 : BitVec 64))) &&& (3689348814741910323 : BitVec 64)))) &&& (1085102592571150095 : BitVec 64)) + q5) ((16 : BitVec 64).toNat : Int)).bind fun q6 => (oushr ((((q4 + ((q3 &&& (3689348814741910323 : BitVec 64)) + (((q2 &&& (6148914691236517205 : BitVec 64)) + (x1 &&& (6148914691236517205 : BitVec 64))) &&& (3689348814741910323 : BitVec 64)))) &&& (1085102592571150095 : BitVec 64)) + q5) + q6) ((32 : BitVec 64).toNat : Int)).bind fun q7 => some (ibits .and .i64 (IntKind.i64.wrap ((((((q4 + ((q3 &&& (3689348814741910323 : BitVec 64)) + (((q2 &&& (6148914691236517205 : BitVec 64)) + (x1 &&& (6148914691236517205 : BitVec 64))) &&& (3689348814741910323 : BitVec 64)))) &&& (1085102592571150095 : BitVec 64)) + q5) + q6) + q7).toNat : Int)) 127)
theorem c160 (x1 : (BitVec 64)) (r : Int) (h : F160 x1 = some r) : PCon Try.prog 160 [rd ku64 x1] (rd (kint .i64) r) := by
  refine PCon.of (Con.intro0 Try.func160 rfl Try.ntmps160 rfl fun w H => ?_)
  unfold F160 at h
  refine AW.seq ?_
  refine AW.region ?_
  refine AOps.cons (op_assign (A := rd (kint .i64) 0) rfl rfl (vk rfl)) rfl ?_
  refine AOps.nil ?_
  refine AW.seq ?_
  obtain ⟨q2, hq2, h⟩ := bsome h
  refine AW.region ?_
  refine AOps.cons (op_move (A := rd ku64 x1) rfl rfl (vt rfl)) rfl ?_
  refine AOps.cons (op_ushr rfl rfl (vt rfl) (vu64 (vku (1 : BitVec 64) rfl)) hq2) rfl ?_
  refine AOps.cons (op_and rfl rfl (vt rfl) (vku (6148914691236517205 : BitVec 64) rfl)) rfl ?_
  refine AOps.cons (op_move (A := rd ku64 x1) rfl rfl (vt rfl)) rfl ?_
  refine AOps.cons (op_and rfl rfl (vt rfl) (vku (6148914691236517205 : BitVec 64) rfl)) rfl ?_
  refine AOps.cons (op_uadd rfl rfl (vt rfl) (vt rfl)) rfl ?_
  refine AOps.cons (op_assign (A := rd ku64 ((q2 &&& (6148914691236517205 : BitVec 64)) + (x1 &&& (6148914691236517205 : BitVec 64)))) rfl rfl (vt rfl)) rfl ?_
  refine AOps.nil ?_
  refine AW.seq ?_
  obtain ⟨q3, hq3, h⟩ := bsome h
  refine AW.region ?_
  refine AOps.cons (op_move (A := rd ku64 ((q2 &&& (6148914691236517205 : BitVec 64)) + (x1 &&& (6148914691236517205 : BitVec 64)))) rfl rfl (vt rfl)) rfl ?_
  refine AOps.cons (op_ushr rfl rfl (vt rfl) (vu64 (vku (2 : BitVec 64) rfl)) hq3) rfl ?_
  refine AOps.cons (op_and rfl rfl (vt rfl) (vku (3689348814741910323 : BitVec 64) rfl)) rfl ?_
  refine AOps.cons (op_move (A := rd ku64 ((q2 &&& (6148914691236517205 : BitVec 64)) + (x1 &&& (6148914691236517205 : BitVec 64)))) rfl rfl (vt rfl)) rfl ?_
  refine AOps.cons (op_and rfl rfl (vt rfl) (vku (3689348814741910323 : BitVec 64) rfl)) rfl ?_
  refine AOps.cons (op_uadd rfl rfl (vt rfl) (vt rfl)) rfl ?_
  refine AOps.cons (op_assign (A := rd ku64 ((q3 &&& (3689348814741910323 : BitVec 64)) + (((q2 &&& (6148914691236517205 : BitVec 64)) + (x1 &&& (6148914691236517205 : BitVec 64))) &&& (3689348814741910323 : BitVec 64)))) rfl rfl (vt rfl)) rfl ?_
  refine AOps.nil ?_
  refine AW.seq ?_
  obtain ⟨q4, hq4, h⟩ := bsome h
  refine AW.region ?_
  refine AOps.cons (op_move (A := rd ku64 ((q3 &&& (3689348814741910323 : BitVec 64)) + (((q2 &&& (6148914691236517205 : BitVec 64)) + (x1 &&& (6148914691236517205 : BitVec 64))) &&& (3689348814741910323 : BitVec 64)))) rfl rfl (vt rfl)) rfl ?_
  refine AOps.cons (op_ushr rfl rfl (vt rfl) (vu64 (vku (4 : BitVec 64) rfl)) hq4) rfl ?_
  refine AOps.cons (op_move (A := rd ku64 ((q3 &&& (3689348814741910323 : BitVec 64)) + (((q2 &&& (6148914691236517205 : BitVec 64)) + (x1 &&& (6148914691236517205 : BitVec 64))) &&& (3689348814741910323 : BitVec 64)))) rfl rfl (vt rfl)) rfl ?_
  refine AOps.cons (op_uadd rfl rfl (vt rfl) (vt rfl)) rfl ?_
  refine AOps.cons (op_and rfl rfl (vt rfl) (vku (1085102592571150095 : BitVec 64) rfl)) rfl ?_
  refine AOps.cons (op_assign (A := rd ku64 ((q4 + ((q3 &&& (3689348814741910323 : BitVec 64)) + (((q2 &&& (6148914691236517205 : BitVec 64)) + (x1 &&& (6148914691236517205 : BitVec 64))) &&& (3689348814741910323 : BitVec 64)))) &&& (1085102592571150095 : BitVec 64))) rfl rfl (vt rfl)) rfl ?_
  refine AOps.nil ?_
  refine AW.seq ?_
  obtain ⟨q5, hq5, h⟩ := bsome h
  refine AW.region ?_
  refine AOps.cons (op_move (A := rd ku64 ((q4 + ((q3 &&& (3689348814741910323 : BitVec 64)) + (((q2 &&& (6148914691236517205 : BitVec 64)) + (x1 &&& (6148914691236517205 : BitVec 64))) &&& (3689348814741910323 : BitVec 64)))) &&& (1085102592571150095 : BitVec 64))) rfl rfl (vt rfl)) rfl ?_
  refine AOps.cons (op_move (A := rd ku64 ((q4 + ((q3 &&& (3689348814741910323 : BitVec 64)) + (((q2 &&& (6148914691236517205 : BitVec 64)) + (x1 &&& (6148914691236517205 : BitVec 64))) &&& (3689348814741910323 : BitVec 64)))) &&& (1085102592571150095 : BitVec 64))) rfl rfl (vt rfl)) rfl ?_
  refine AOps.cons (op_ushr rfl rfl (vt rfl) (vu64 (vku (8 : BitVec 64) rfl)) hq5) rfl ?_
  refine AOps.cons (op_uadd rfl rfl (vt rfl) (vt rfl)) rfl ?_
  refine AOps.cons (op_assign (A := rd ku64 (((q4 + ((q3 &&& (3689348814741910323 : BitVec 64)) + (((q2 &&& (6148914691236517205 : BitVec 64)) + (x1 &&& (6148914691236517205 : BitVec 64))) &&& (3689348814741910323 : BitVec 64)))) &&& (1085102592571150095 : BitVec 64)) + q5)) rfl rfl (vt rfl)) rfl ?_
  refine AOps.nil ?_
  refine AW.seq ?_
  obtain ⟨q6, hq6, h⟩ := bsome h
  refine AW.region ?_
  refine AOps.cons (op_move (A := rd ku64 (((q4 + ((q3 &&& (3689348814741910323 : BitVec 64)) + (((q2 &&& (6148914691236517205 : BitVec 64)) + (x1 &&& (6148914691236517205 : BitVec 64))) &&& (3689348814741910323 : BitVec 64)))) &&& (1085102592571150095 : BitVec 64)) + q5)) rfl rfl (vt rfl)) rfl ?_
  refine AOps.cons (op_move (A := rd ku64 (((q4 + ((q3 &&& (3689348814741910323 : BitVec 64)) + (((q2 &&& (6148914691236517205 : BitVec 64)) + (x1 &&& (6148914691236517205 : BitVec 64))) &&& (3689348814741910323 : BitVec 64)))) &&& (1085102592571150095 : BitVec 64)) + q5)) rfl rfl (vt rfl)) rfl ?_
  refine AOps.cons (op_ushr rfl rfl (vt rfl) (vu64 (vku (16 : BitVec 64) rfl)) hq6) rfl ?_
  refine AOps.cons (op_uadd rfl rfl (vt rfl) (vt rfl)) rfl ?_
  refine AOps.cons (op_assign (A := rd ku64 ((((q4 + ((q3 &&& (3689348814741910323 : BitVec 64)) + (((q2 &&& (6148914691236517205 : BitVec 64)) + (x1 &&& (6148914691236517205 : BitVec 64))) &&& (3689348814741910323 : BitVec 64)))) &&& (1085102592571150095 : BitVec 64)) + q5) + q6)) rfl rfl (vt rfl)) rfl ?_
  refine AOps.nil ?_
  refine AW.seq ?_
  obtain ⟨q7, hq7, h⟩ := bsome h
  refine AW.region ?_
  refine AOps.cons (op_move (A := rd ku64 ((((q4 + ((q3 &&& (3689348814741910323 : BitVec 64)) + (((q2 &&& (6148914691236517205 : BitVec 64)) + (x1 &&& (6148914691236517205 : BitVec 64))) &&& (3689348814741910323 : BitVec 64)))) &&& (1085102592571150095 : BitVec 64)) + q5) + q6)) rfl rfl (vt rfl)) rfl ?_
  refine AOps.cons (op_move (A := rd ku64 ((((q4 + ((q3 &&& (3689348814741910323 : BitVec 64)) + (((q2 &&& (6148914691236517205 : BitVec 64)) + (x1 &&& (6148914691236517205 : BitVec 64))) &&& (3689348814741910323 : BitVec 64)))) &&& (1085102592571150095 : BitVec 64)) + q5) + q6)) rfl rfl (vt rfl)) rfl ?_
  refine AOps.cons (op_ushr rfl rfl (vt rfl) (vu64 (vku (32 : BitVec 64) rfl)) hq7) rfl ?_
  refine AOps.cons (op_uadd rfl rfl (vt rfl) (vt rfl)) rfl ?_
  refine AOps.cons (op_assign (A := rd ku64 (((((q4 + ((q3 &&& (3689348814741910323 : BitVec 64)) + (((q2 &&& (6148914691236517205 : BitVec 64)) + (x1 &&& (6148914691236517205 : BitVec 64))) &&& (3689348814741910323 : BitVec 64)))) &&& (1085102592571150095 : BitVec 64)) + q5) + q6) + q7)) rfl rfl (vt rfl)) rfl ?_
  refine AOps.nil ?_
  refine AW.seq ?_
  refine AW.region ?_
  refine AOps.cons (op_move (A := rd ku64 (((((q4 + ((q3 &&& (3689348814741910323 : BitVec 64)) + (((q2 &&& (6148914691236517205 : BitVec 64)) + (x1 &&& (6148914691236517205 : BitVec 64))) &&& (3689348814741910323 : BitVec 64)))) &&& (1085102592571150095 : BitVec 64)) + q5) + q6) + q7)) rfl rfl (vt rfl)) rfl ?_
  refine AOps.cons (op_uconv rfl rfl us50 un3 (vt rfl)) rfl ?_
  refine AOps.cons (op_iand rfl rfl (vt rfl) (vk rfl)) rfl ?_
  refine AOps.cons (op_assign (A := rd (kint .i64) (ibits .and .i64 (IntKind.i64.wrap ((((((q4 + ((q3 &&& (3689348814741910323 : BitVec 64)) + (((q2 &&& (6148914691236517205 : BitVec 64)) + (x1 &&& (6148914691236517205 : BitVec 64))) &&& (3689348814741910323 : BitVec 64)))) &&& (1085102592571150095 : BitVec 64)) + q5) + q6) + q7).toNat : Int)) 127)) rfl rfl (vt rfl)) rfl ?_
  refine AOps.nil ?_
  refine AW.ret ?_
  obtain rfl := Option.some.inj h
  exact ret1 Try.results160 rfl (out_tmp rfl)
-- weirbox/wide.Many
def F150 (a1 : Wide) : Option Int :=
  (F160 a1.Hi).bind fun x3 => (F160 a1.Lo).bind fun x4 => some (IntKind.i64.wrap (x3 + x4))
theorem c150 (a1 : Wide) (r : Int) (h : F150 a1 = some r) : PCon Try.prog 150 [rd kWide a1] (rd (kint .i64) r) := by
  refine PCon.of (Con.intro0 Try.func150 rfl Try.ntmps150 rfl fun w H => ?_)
  unfold F150 at h
  refine AW.seq ?_
  refine AW.region ?_
  refine AOps.consT rfl (op_box 2 rfl rfl (vt rfl)) ?_
  rintro _ ⟨g2, rfl⟩
  refine AOps.cons (op_assign (A := rd (kint .i64) 0) rfl rfl (vk rfl)) rfl ?_
  refine AOps.nil ?_
  refine AW.seq ?_
  obtain ⟨x3, hx3, h⟩ := bsome h
  obtain ⟨x4, hx4, h⟩ := bsome h
  refine AW.regionAny [⟨[1], [3], [], []⟩, ⟨[3], [4], [2], []⟩, ⟨[4], [5], [], []⟩, ⟨[1], [6], [], []⟩, ⟨[6], [7], [2], []⟩, ⟨[7], [8], [], []⟩, ⟨[5, 8], [9], [], []⟩, ⟨[9], [2], [], []⟩] mixed (by kernel_rfl) ?_
  refine SeqA.cons (loc [1] [] rfl rfl fun S hs hr => op_field lWide_0 rfl rfl fl52_0 (vt ((hs 1 rfl).trans rfl))) ⟨rfl, rfl, rfl, rfl⟩ ?_
  refine SeqA.cons (loc [3] [2] rfl rfl fun S hs hr => op_load rfl rfl ty50 (vt ((hs 3 rfl).trans rfl)) (i := 2) ((hr 2 rfl).trans rfl)) ⟨rfl, rfl, rfl, rfl⟩ ?_
  refine SeqA.cons (loc [4] [] rfl rfl fun S hs hr => op_call (xs := [.tmp 4]) (c160 _ _ hx3) (Ent.mk Try.func160 rfl rfl) rfl rfl ⟨vt ((hs 4 rfl).trans rfl), trivial⟩) ⟨rfl, rfl, rfl, rfl⟩ ?_
  refine SeqA.cons (loc [1] [] rfl rfl fun S hs hr => op_field lWide_1 rfl rfl fl52_1 (vt ((hs 1 rfl).trans rfl))) ⟨rfl, rfl, rfl, rfl⟩ ?_
  refine SeqA.cons (loc [6] [2] rfl rfl fun S hs hr => op_load rfl rfl ty50 (vt ((hs 6 rfl).trans rfl)) (i := 2) ((hr 2 rfl).trans rfl)) ⟨rfl, rfl, rfl, rfl⟩ ?_
  refine SeqA.cons (loc [7] [] rfl rfl fun S hs hr => op_call (xs := [.tmp 7]) (c160 _ _ hx4) (Ent.mk Try.func160 rfl rfl) rfl rfl ⟨vt ((hs 7 rfl).trans rfl), trivial⟩) ⟨rfl, rfl, rfl, rfl⟩ ?_
  refine SeqA.cons (loc [5, 8] [] rfl rfl fun S hs hr => op_add rfl rfl (vt ((hs 5 rfl).trans rfl)) (vt ((hs 8 rfl).trans rfl))) ⟨rfl, rfl, rfl, rfl⟩ ?_
  refine SeqA.cons (loc [9] [] rfl rfl fun S hs hr => op_assign (A := rd (kint .i64) (IntKind.i64.wrap (x3 + x4))) rfl rfl (vt ((hs 9 rfl).trans rfl))) ⟨rfl, rfl, rfl, rfl⟩ ?_
  refine AW.ret ?_
  obtain rfl := Option.some.inj h
  exact ret1 Try.results150 rfl (out_tmp rfl)
-- weirbox/wide.Bit
def F126 (i1 : Int) : Option Wide :=
  (bif ((decide (i1 < 0)) || (decide (i1 > 127))) then some (⟨0, 0⟩ : Wide) else (oquo .i64 i1 64).bind fun q4 => (omod i1 64).bind fun q5 => (oushl (1 : BitVec 64) q5).bind fun q6 => (chk 2 q4).bind fun j7 => some (⟨(Vector.get (Vector.set (Vector.replicate 2 0) j7.1 q6 j7.2) (⟨1, by decide⟩ : _root_.Fin 2)), (Vector.get (Vector.set (Vector.replicate 2 0) j7.1 q6 j7.2) (⟨0, by decide⟩ : _root_.Fin 2))⟩ : Wide))
theorem c126 (i1 : Int) (r : Wide) (h : F126 i1 = some r) : PCon Try.prog 126 [rd (kint .i64) i1] (rd kWide r) := by
  refine PCon.of (Con.intro0 Try.func126 rfl Try.ntmps126 rfl fun w H => ?_)
  unfold F126 at h
  refine AW.seq ?_
  refine AW.region ?_
  refine AOps.consT rfl (op_alloc 3 rfl rfl zr52) ?_
  rintro _ ⟨g2, rfl⟩
  refine AOps.nil ?_
  refine AW.seq ?_
  refine AW.region ?_
  refine AOps.consT rfl (op_alloc 4 rfl rfl zr187) ?_
  rintro _ ⟨g3, rfl⟩
  refine AOps.nil ?_
  refine AW.seq ?_
  refine AW.seq ?_
  refine AW.region ?_
  refine AOps.cons (op_move (A := rd (kint .i64) i1) rfl rfl (vt rfl)) rfl ?_
  refine AOps.cons (op_lss rfl rfl (vt rfl) (vk rfl)) rfl ?_
  refine AOps.cons (op_move (A := rd kbool (decide (i1 < 0))) rfl rfl (vt rfl)) rfl ?_
  refine AOps.consG (OpG.guard rfl rfl rfl rfl rfl fun hq => op_move (A := rd (kint .i64) i1) rfl rfl (vt rfl)) ?_
  refine AOps.consG (OpG.guard rfl rfl rfl rfl rfl fun hq => op_gtr rfl rfl (vgt rfl hq) (vk rfl)) ?_
  refine AOps.cons (op_any rfl rfl (vt rfl) (vt rfl)) rfl ?_
  refine AOps.nil ?_
  refine AW.cond (vt rfl) (fun hc => ?_) (fun hc => ?_)
  · have h := cond_t hc h
    refine AW.seq ?_
    refine AW.region ?_
    refine AOps.cons (op_build (ps := []) (x := (⟨0, 0⟩ : Wide)) rfl rfl rfl (by kernel_rfl) zr52 rfl) rfl ?_
    refine AOps.cons (op_store rfl rfl ty52 (vt rfl) (i := 3) rfl (vt rfl)) rfl ?_
    refine AOps.nil ?_
    refine AW.ret ?_
    obtain rfl := Option.some.inj h
    exact ret1 Try.results126 rfl (out_cell rfl (i := 3) rfl ty52)
  · have h := cond_f hc h
    refine AW.skip ?_
    refine AW.seq ?_
    obtain ⟨q4, hq4, h⟩ := bsome h
    obtain ⟨q5, hq5, h⟩ := bsome h
    obtain ⟨q6, hq6, h⟩ := bsome h
    obtain ⟨j7, hj7, h⟩ := bsome h
    refine AW.region ?_
    refine AOps.cons (op_move (A := rd (kint .i64) i1) rfl rfl (vt rfl)) rfl ?_
    refine AOps.cons (op_quo rfl rfl (vt rfl) (vk rfl) hq4) rfl ?_
    refine AOps.cons (op_move (A := rd (kint .i64) i1) rfl rfl (vt rfl)) rfl ?_
    refine AOps.cons (op_rem rfl rfl (vt rfl) (vk rfl) hq5) rfl ?_
    refine AOps.cons (op_ushl rfl rfl (vku (1 : BitVec 64) rfl) (vt rfl) hq6) rfl ?_
    refine AOps.cons (op_index' rfl rfl ar187 (vt rfl) (vt rfl) hj7) rfl ?_
    refine AOps.cons (op_store rfl rfl ty50 (vt rfl) (i := 4) rfl (vt rfl)) rfl ?_
    refine AOps.nil ?_
    refine AW.seq ?_
    refine AW.region ?_
    refine AOps.cons (op_index' rfl rfl ar187 (vt rfl) (vk rfl) rfl) rfl ?_
    refine AOps.cons (op_load rfl rfl ty50 (vt rfl) (i := 4) rfl) rfl ?_
    refine AOps.cons (op_index' rfl rfl ar187 (vt rfl) (vk rfl) rfl) rfl ?_
    refine AOps.cons (op_load rfl rfl ty50 (vt rfl) (i := 4) rfl) rfl ?_
    refine AOps.cons (op_build (ps := [(0, .tmp 18), (1, .tmp 20)]) (x := (⟨(Vector.get (Vector.set (Vector.replicate 2 0) j7.1 q6 j7.2) (⟨1, by decide⟩ : _root_.Fin 2)), (Vector.get (Vector.set (Vector.replicate 2 0) j7.1 q6 j7.2) (⟨0, by decide⟩ : _root_.Fin 2))⟩ : Wide)) rfl rfl rfl (by kernel_rfl) zr52 ⟨_, _, lWide_0, _, by kernel_rfl, (vt rfl), _, _, lWide_1, _, by kernel_rfl, (vt rfl), rfl⟩) rfl ?_
    refine AOps.cons (op_store rfl rfl ty52 (vt rfl) (i := 3) rfl (vt rfl)) rfl ?_
    refine AOps.nil ?_
    refine AW.ret ?_
    obtain rfl := Option.some.inj h
    exact ret1 Try.results126 rfl (out_cell rfl (i := 3) rfl ty52)
end Go.Proofs.Ytokmmcflinnfiaa.W
