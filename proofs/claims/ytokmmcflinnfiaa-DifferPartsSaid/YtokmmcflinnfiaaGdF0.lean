/- GdF0: a part of the proof. -/
import Derived.Test.YtokmmcflinnfiaaGdT
set_option linter.unusedVariables false
set_option maxRecDepth 4000
set_option linter.unusedSimpArgs false
namespace Go.Proofs.Ytokmmcflinnfiaa.W
open Go Go.Wb
-- weirbox/cube.All
def F77 : Option (Vector Tern 24) :=
  some (Vector.replicate 24 zTern)
theorem c77 (r : (Vector Tern 24)) (h : F77 = some r) : PCon Try.prog 77 [] (rd (karr 24 kTern) r) := by
  refine PCon.of (Con.intro0 Try.func77 rfl Try.ntmps77 rfl fun w H => ?_)
  unfold F77 at h
  refine AW.seq ?_
  refine AW.region ?_
  refine AOps.consT rfl (op_alloc 1 rfl rfl zr56) ?_
  rintro _ ⟨g1, rfl⟩
  refine AOps.nil ?_
  refine AW.seq ?_
  refine AW.region ?_
  refine AOps.cons (op_build (ps := []) (x := (Vector.replicate 24 zTern)) rfl rfl rfl (by kernel_rfl) zr56 rfl) rfl ?_
  refine AOps.cons (op_store rfl rfl ty56 (vt rfl) (i := 1) rfl (vt rfl)) rfl ?_
  refine AOps.nil ?_
  refine AW.ret ?_
  obtain rfl := Option.some.inj h
  exact ret1 Try.results77 rfl (out_cell rfl (i := 1) rfl ty56)
-- weirbox/wide.And
def F124 (a1 : Wide) (b2 : Wide) : Option Wide :=
  some (⟨(a1.Hi &&& b2.Hi), (a1.Lo &&& b2.Lo)⟩ : Wide)
theorem c124 (a1 : Wide) (b2 : Wide) (r : Wide) (h : F124 a1 b2 = some r) : PCon Try.prog 124 [rd kWide a1, rd kWide b2] (rd kWide r) := by
  refine PCon.of (Con.intro0 Try.func124 rfl Try.ntmps124 rfl fun w H => ?_)
  unfold F124 at h
  refine AW.seq ?_
  refine AW.region ?_
  refine AOps.consT rfl (op_box 3 rfl rfl (vt rfl)) ?_
  rintro _ ⟨g3, rfl⟩
  refine AOps.consT rfl (op_box 4 rfl rfl (vt rfl)) ?_
  rintro _ ⟨g4, rfl⟩
  refine AOps.consT rfl (op_alloc 5 rfl rfl zr52) ?_
  rintro _ ⟨g5, rfl⟩
  refine AOps.nil ?_
  refine AW.seq ?_
  refine AW.region ?_
  refine AOps.cons (op_field lWide_0 rfl rfl fl52_0 (vt rfl)) rfl ?_
  refine AOps.cons (op_load rfl rfl ty50 (vt rfl) (i := 3) rfl) rfl ?_
  refine AOps.cons (op_field lWide_0 rfl rfl fl52_0 (vt rfl)) rfl ?_
  refine AOps.cons (op_load rfl rfl ty50 (vt rfl) (i := 4) rfl) rfl ?_
  refine AOps.cons (op_and rfl rfl (vt rfl) (vt rfl)) rfl ?_
  refine AOps.cons (op_field lWide_1 rfl rfl fl52_1 (vt rfl)) rfl ?_
  refine AOps.cons (op_load rfl rfl ty50 (vt rfl) (i := 3) rfl) rfl ?_
  refine AOps.cons (op_field lWide_1 rfl rfl fl52_1 (vt rfl)) rfl ?_
  refine AOps.cons (op_load rfl rfl ty50 (vt rfl) (i := 4) rfl) rfl ?_
  refine AOps.cons (op_and rfl rfl (vt rfl) (vt rfl)) rfl ?_
  refine AOps.cons (op_build (ps := [(0, .tmp 9), (1, .tmp 14)]) (x := (⟨(a1.Hi &&& b2.Hi), (a1.Lo &&& b2.Lo)⟩ : Wide)) rfl rfl rfl (by kernel_rfl) zr52 ⟨_, _, lWide_0, _, by kernel_rfl, (vt rfl), _, _, lWide_1, _, by kernel_rfl, (vt rfl), rfl⟩) rfl ?_
  refine AOps.cons (op_store rfl rfl ty52 (vt rfl) (i := 5) rfl (vt rfl)) rfl ?_
  refine AOps.nil ?_
  refine AW.ret ?_
  obtain rfl := Option.some.inj h
  exact ret1 Try.results124 rfl (out_cell rfl (i := 5) rfl ty52)
-- weirbox/tern.Clean
def F119 (t1 : Tern) : Option Tern :=
  (F124 t1.Value t1.Mask).bind fun x4 => some (⟨x4, t1.Mask⟩ : Tern)
theorem c119 (t1 : Tern) (r : Tern) (h : F119 t1 = some r) : PCon Try.prog 119 [rd kTern t1] (rd kTern r) := by
  refine PCon.of (Con.intro0 Try.func119 rfl Try.ntmps119 rfl fun w H => ?_)
  unfold F119 at h
  refine AW.seq ?_
  refine AW.region ?_
  refine AOps.consT rfl (op_box 2 rfl rfl (vt rfl)) ?_
  rintro _ ⟨g2, rfl⟩
  refine AOps.consT rfl (op_alloc 3 rfl rfl zr54) ?_
  rintro _ ⟨g3, rfl⟩
  refine AOps.nil ?_
  refine AW.seq ?_
  obtain ⟨x4, hx4, h⟩ := bsome h
  refine AW.regionAny [⟨[1], [3], [], []⟩, ⟨[3], [4], [2], []⟩, ⟨[1], [5], [], []⟩, ⟨[5], [6], [2], []⟩, ⟨[4, 6], [7], [], []⟩, ⟨[1], [8], [], []⟩, ⟨[8], [9], [2], []⟩, ⟨[7, 9], [10], [], []⟩, ⟨[2, 10], [], [3], [3]⟩] mixed (by kernel_rfl) ?_
  refine SeqA.cons (loc [1] [] rfl rfl fun S hs hr => op_field lTern_0 rfl rfl fl54_0 (vt ((hs 1 rfl).trans rfl))) ⟨rfl, rfl, rfl, rfl⟩ ?_
  refine SeqA.cons (loc [3] [2] rfl rfl fun S hs hr => op_load rfl rfl ty52 (vt ((hs 3 rfl).trans rfl)) (i := 2) ((hr 2 rfl).trans rfl)) ⟨rfl, rfl, rfl, rfl⟩ ?_
  refine SeqA.cons (loc [1] [] rfl rfl fun S hs hr => op_field lTern_1 rfl rfl fl54_1 (vt ((hs 1 rfl).trans rfl))) ⟨rfl, rfl, rfl, rfl⟩ ?_
  refine SeqA.cons (loc [5] [2] rfl rfl fun S hs hr => op_load rfl rfl ty52 (vt ((hs 5 rfl).trans rfl)) (i := 2) ((hr 2 rfl).trans rfl)) ⟨rfl, rfl, rfl, rfl⟩ ?_
  refine SeqA.cons (loc [4, 6] [] rfl rfl fun S hs hr => op_call (xs := [.tmp 4, .tmp 6]) (c124 _ _ _ hx4) (Ent.mk Try.func124 rfl rfl) rfl rfl ⟨vt ((hs 4 rfl).trans rfl), vt ((hs 6 rfl).trans rfl), trivial⟩) ⟨rfl, rfl, rfl, rfl⟩ ?_
  refine SeqA.cons (loc [1] [] rfl rfl fun S hs hr => op_field lTern_1 rfl rfl fl54_1 (vt ((hs 1 rfl).trans rfl))) ⟨rfl, rfl, rfl, rfl⟩ ?_
  refine SeqA.cons (loc [8] [2] rfl rfl fun S hs hr => op_load rfl rfl ty52 (vt ((hs 8 rfl).trans rfl)) (i := 2) ((hr 2 rfl).trans rfl)) ⟨rfl, rfl, rfl, rfl⟩ ?_
  refine SeqA.cons (loc [7, 9] [] rfl rfl fun S hs hr => op_build (ps := [(0, .tmp 7), (1, .tmp 9)]) (x := (⟨x4, t1.Mask⟩ : Tern)) rfl rfl rfl (by kernel_rfl) zr54 ⟨_, _, lTern_0, _, by kernel_rfl, (vt ((hs 7 rfl).trans rfl)), _, _, lTern_1, _, by kernel_rfl, (vt ((hs 9 rfl).trans rfl)), rfl⟩) ⟨rfl, rfl, rfl, rfl⟩ ?_
  refine SeqA.cons (locr [2, 10] [3] rfl fun S hs hr => op_store rfl rfl ty54 (vt ((hs 2 rfl).trans rfl)) (i := 3) ((hr 3 rfl).trans rfl) (vt ((hs 10 rfl).trans rfl))) ⟨rfl, rfl, rfl, rfl⟩ ?_
  refine AW.ret ?_
  obtain rfl := Option.some.inj h
  exact ret1 Try.results119 rfl (out_cell rfl (i := 3) rfl ty54)
-- weirbox/cube.Clean$1
def F118 (i1 : Int) (c2 : (Vector Tern 24)) : Option (Tern × Bool) :=
  (chk 24 i1).bind fun j4 => (F119 (Vector.get c2 j4)).bind fun x5 => some (x5, true)
theorem c118 (i1 : Int) (c2 : (Vector Tern 24)) (r : (Tern × Bool)) (h : F118 i1 c2 = some r) : PCon Try.prog 118 [rd (kint .i64) i1, rp (karr 24 kTern) c2] (tup2 (rd kTern r.1) (rd kbool r.2)) := by
  refine PCon.of (Con.intro0 Try.func118 rfl Try.ntmps118 rfl fun w H => ?_)
  unfold F118 at h
  refine AW.seq ?_
  refine AW.region ?_
  refine AOps.consT rfl (op_alloc 4 rfl rfl zr54) ?_
  rintro _ ⟨g3, rfl⟩
  refine AOps.cons (op_assign (A := rd kbool false) rfl rfl vb) rfl ?_
  refine AOps.nil ?_
  refine AW.seq ?_
  obtain ⟨j4, hj4, h⟩ := bsome h
  obtain ⟨x5, hx5, h⟩ := bsome h
  refine AW.region ?_
  refine AOps.cons (op_move (A := rd (kint .i64) i1) rfl rfl (vt rfl)) rfl ?_
  refine AOps.cons (op_indexp' rfl rfl ar56 (vt rfl) (vt rfl) hj4) rfl ?_
  refine AOps.cons (op_loadp rfl rfl ty54 (vt rfl)) rfl ?_
  refine AOps.cons (op_call (xs := [.tmp 7]) (c119 _ _ hx5) (Ent.mk Try.func119 rfl rfl) rfl rfl ⟨vt rfl, trivial⟩) rfl ?_
  refine AOps.cons (op_store rfl rfl ty54 (vt rfl) (i := 4) rfl (vt rfl)) rfl ?_
  refine AOps.cons (op_assign (A := rd kbool true) rfl rfl vb) rfl ?_
  refine AOps.nil ?_
  refine AW.ret ?_
  obtain rfl := Option.some.inj h
  exact ret2 Try.results118 rfl (out_cell rfl (i := 4) rfl ty54) (out_tmp rfl)
-- weirbox/cube.each
def F117_l1 (f1 : (Int → Option (Tern × Bool))) : Nat → Nat → (Vector Tern 24) → Option ((Vector Tern 24) × Bool)
  | 0, i6, b5 => some (b5, true)
  | m7 + 1, i6, b5 => (f1 (i6 : Int)).bind fun x8 => (bif (!x8.2) then some ((Vector.replicate 24 zTern), false) else (chk 24 (i6 : Int)).bind fun j10 => (F117_l1 f1 m7) (i6 + 1) (Vector.set b5 j10.1 x8.1 j10.2))
def F117 (f1 : (Int → Option (Tern × Bool))) : Option ((Vector Tern 24) × Bool) :=
  F117_l1 f1 (24 : Int).toNat 0 (Vector.replicate 24 zTern)
theorem c117 (f1 : (Int → Option (Tern × Bool))) (r : ((Vector Tern 24) × Bool)) (h : F117 f1 = some r) : PCon Try.prog 117 [fa1 Try.prog (kint .i64) (fun (y : (Tern × Bool)) => tup2 (rd kTern y.1) (rd kbool y.2)) f1] (tup2 (rd (karr 24 kTern) r.1) (rd kbool r.2)) := by
  refine PCon.of (Con.intro0 Try.func117 rfl Try.ntmps117 rfl fun w H => ?_)
  unfold F117 at h
  refine AW.seq ?_
  refine AW.region ?_
  refine AOps.consT rfl (op_alloc 3 rfl rfl zr56) ?_
  rintro _ ⟨g2, rfl⟩
  refine AOps.cons (op_assign (A := rd kbool false) rfl rfl vb) rfl ?_
  refine AOps.nil ?_
  refine AW.seq ?_
  refine AW.region ?_
  refine AOps.consT rfl (op_alloc 5 rfl rfl zr56) ?_
  rintro _ ⟨g3, rfl⟩
  refine AOps.nil ?_
  refine AW.seq ?_
  refine AW.seq ?_
  refine AW.region ?_
  refine AOps.cons (op_move (A := rd (kint .i64) 0) rfl rfl (vk rfl)) rfl ?_
  refine AOps.nil ?_
  refine AW.block ?_
  refine AW.loopG (d := []) (ν := Nat × Nat × (Vector Tern 24)) (fun n => Cnt 24 n.2.1 n.1 ∧ F117_l1 f1 n.1 n.2.1 n.2.2 = some r) (fun n => n.1) (fun n => [(0, fa1 Try.prog (kint .i64) (fun (y : (Tern × Bool)) => tup2 (rd kTern y.1) (rd kbool y.2)) f1), (2, ptrL g2 (Lens.id (karr 24 kTern))), (4, ptrL g3 (Lens.id (karr 24 kTern))), (8, rd (kint .i64) (n.2.1 : Int))]) (fun n => [(3, Blk g2 56 (karr 24 kTern) (Vector.replicate 24 zTern)), (5, Blk g3 56 (karr 24 kTern) n.2.2)]) ((24 : Int).toNat, 0, (Vector.replicate 24 zTern)) ⟨Cnt.start _, h⟩ ⟨rfl, ⟨rfl, rfl, rfl, rfl, trivial⟩, ⟨rfl, rfl, trivial⟩⟩ ?_
  rintro ⟨m7, i6, b5⟩ ⟨hsf1, h⟩
  change Cnt 24 i6 m7 at hsf1
  change F117_l1 f1 m7 i6 b5 = some r at h
  change AW _ _ _ ⟨slots [(0, fa1 Try.prog (kint .i64) (fun (y : (Tern × Bool)) => tup2 (rd kTern y.1) (rd kbool y.2)) f1), (2, ptrL g2 (Lens.id (karr 24 kTern))), (4, ptrL g3 (Lens.id (karr 24 kTern))), (8, rd (kint .i64) (i6 : Int))], ress [(3, Blk g2 56 (karr 24 kTern) (Vector.replicate 24 zTern)), (5, Blk g3 56 (karr 24 kTern) b5)], _⟩
  cases m7 with
  | zero =>
    unfold F117_l1 at h
    refine AW.seq ?_
    refine AW.region ?_
    refine AOps.cons (op_lss rfl rfl (vt rfl) (vk rfl)) rfl ?_
    refine AOps.nil ?_
    refine AW.seq ?_
    refine AW.cond (vt rfl) (fun hc => absurd (of_decide_eq_true hc) hsf1.zero) (fun hc => ?_)
    refine AW.exit ?_
    refine AW.seq ?_
    refine AW.region ?_
    refine AOps.cons (op_load rfl rfl ty56 (vt rfl) (i := 5) rfl) rfl ?_
    refine AOps.cons (op_store rfl rfl ty56 (vt rfl) (i := 3) rfl (vt rfl)) rfl ?_
    refine AOps.cons (op_assign (A := rd kbool true) rfl rfl vb) rfl ?_
    refine AOps.nil ?_
    refine AW.ret ?_
    obtain rfl := Option.some.inj h
    exact ret2 Try.results117 rfl (out_cell rfl (i := 3) rfl ty56) (out_tmp rfl)
  | succ m7 =>
    unfold F117_l1 at h
    generalize hgo1 : F117_l1 f1 m7 = go1 at h
    refine AW.seq ?_
    refine AW.region ?_
    refine AOps.cons (op_lss rfl rfl (vt rfl) (vk rfl)) rfl ?_
    refine AOps.nil ?_
    refine AW.seq ?_
    refine AW.cond (vt rfl) (fun hc => ?_) (fun hc => absurd hsf1.succ (of_decide_eq_false hc))
    have hlti6 := of_decide_eq_true hc
    refine AW.skip ?_
    refine AW.seq ?_
    refine AW.block ?_
    refine AW.seq ?_
    refine AW.region ?_
    refine AOps.cons (op_move (A := rd (kint .i64) (i6 : Int)) rfl rfl (vt rfl)) rfl ?_
    refine AOps.cons (op_assign (A := rd (kint .i64) (i6 : Int)) rfl rfl (vt rfl)) rfl ?_
    refine AOps.nil ?_
    refine AW.seq ?_
    obtain ⟨x8, hx8, h⟩ := bsome h
    refine AW.region ?_
    refine AOps.cons (op_move (A := fa1 Try.prog (kint .i64) (fun (y : (Tern × Bool)) => tup2 (rd kTern y.1) (rd kbool y.2)) f1) rfl rfl (vt rfl)) rfl ?_
    refine AOps.cons (op_move (A := rd (kint .i64) (i6 : Int)) rfl rfl (vt rfl)) rfl ?_
    refine AOps.cons (op_calla1 (B := (fun (y : (Tern × Bool)) => tup2 (rd kTern y.1) (rd kbool y.2))) hx8 rfl rfl (vt rfl) (vt rfl)) rfl ?_
    refine AOps.cons (op_move (A := tup2 (rd kTern x8.1) (rd kbool x8.2)) rfl rfl (vt rfl)) rfl ?_
    refine AOps.cons (op_fst rfl rfl (vt rfl)) rfl ?_
    refine AOps.cons (op_snd rfl rfl (vt rfl)) rfl ?_
    refine AOps.consT rfl (op_alloc 7 rfl rfl zr54) ?_
    rintro _ ⟨g9, rfl⟩
    refine AOps.cons (op_store rfl rfl ty54 (vt rfl) (i := 7) rfl (vt rfl)) rfl ?_
    refine AOps.cons (op_assign (A := rd kbool x8.2) rfl rfl (vt rfl)) rfl ?_
    refine AOps.nil ?_
    refine AW.seq ?_
    refine AW.seq ?_
    refine AW.region ?_
    refine AOps.cons (op_move (A := rd kbool x8.2) rfl rfl (vt rfl)) rfl ?_
    refine AOps.cons (op_not rfl rfl (vt rfl)) rfl ?_
    refine AOps.nil ?_
    refine AW.cond (vt rfl) (fun hc => ?_) (fun hc => ?_)
    · have h := cond_t hc h
      refine AW.seq ?_
      refine AW.region ?_
      refine AOps.cons (op_build (ps := []) (x := (Vector.replicate 24 zTern)) rfl rfl rfl (by kernel_rfl) zr56 rfl) rfl ?_
      refine AOps.cons (op_store rfl rfl ty56 (vt rfl) (i := 3) rfl (vt rfl)) rfl ?_
      refine AOps.cons (op_assign (A := rd kbool false) rfl rfl vb) rfl ?_
      refine AOps.nil ?_
      refine AW.ret ?_
      obtain rfl := Option.some.inj h
      exact ret2 Try.results117 rfl (out_cell rfl (i := 3) rfl ty56) (out_tmp rfl)
    · have h := cond_f hc h
      refine AW.skip ?_
      obtain ⟨j10, hj10, h⟩ := bsome h
      refine AW.region ?_
      refine AOps.cons (op_move (A := rd (kint .i64) (i6 : Int)) rfl rfl (vt rfl)) rfl ?_
      refine AOps.cons (op_load rfl rfl ty54 (vt rfl) (i := 7) rfl) rfl ?_
      refine AOps.cons (op_index' rfl rfl ar56 (vt rfl) (vt rfl) hj10) rfl ?_
      refine AOps.cons (op_store rfl rfl ty54 (vt rfl) (i := 5) rfl (vt rfl)) rfl ?_
      refine AOps.nil ?_
      refine AW.region ?_
      refine AOps.cons (op_incrc rfl rfl (vt rfl) (vk rfl) rfl hlti6) rfl ?_
      refine AOps.cons (op_move (A := rd (kint .i64) ((i6 + 1 : Nat) : Int)) rfl rfl (vt rfl)) rfl ?_
      refine AOps.nil ?_
      subst hgo1
      exact ⟨(m7, i6 + 1, (Vector.set b5 j10.1 x8.1 j10.2)), Nat.lt_succ_self _, ⟨hsf1.next, h⟩, ⟨rfl, ⟨rfl, rfl, rfl, rfl, trivial⟩, ⟨rfl, rfl, trivial⟩⟩⟩
-- weirbox/cube.Clean
def F79 (c1 : (Vector Tern 24)) : Option (Vector Tern 24) :=
  (F117 (fun x => F118 x c1)).bind fun x4 => some x4.1
theorem c79 (c1 : (Vector Tern 24)) (r : (Vector Tern 24)) (h : F79 c1 = some r) : PCon Try.prog 79 [rd (karr 24 kTern) c1] (rd (karr 24 kTern) r) := by
  refine PCon.of (Con.intro0 Try.func79 rfl Try.ntmps79 rfl fun w H => ?_)
  unfold F79 at h
  refine AW.seq ?_
  refine AW.region ?_
  refine AOps.consT rfl (op_box 2 rfl rfl (vt rfl)) ?_
  rintro _ ⟨g2, rfl⟩
  refine AOps.consT rfl (op_alloc 3 rfl rfl zr56) ?_
  rintro _ ⟨g3, rfl⟩
  refine AOps.nil ?_
  refine AW.seq ?_
  refine AW.freezeB 1 2 rfl rfl rfl ?_
  obtain ⟨x4, hx4, h⟩ := bsome h
  refine AW.region ?_
  refine AOps.cons (op_fa1 (fs := []) (FAs := []) (cs := [.tmp 1]) (CAs := [rp (karr 24 kTern) c1]) (kx := (kint .i64)) (B := (fun (y : (Tern × Bool)) => tup2 (rd kTern y.1) (rd kbool y.2))) (fun x => F118 x c1) rfl rfl (Ent.mk Try.func118 rfl rfl) trivial ⟨vt rfl, trivial⟩ (fun x y h => c118 _ _ y h)) rfl ?_
  refine AOps.cons (op_call (xs := [.tmp 6]) (c117 _ _ hx4) (Ent.mk Try.func117 rfl rfl) rfl rfl ⟨vt rfl, trivial⟩) rfl ?_
  refine AOps.cons (op_move (A := tup2 (rd (karr 24 kTern) x4.1) (rd kbool x4.2)) rfl rfl (vt rfl)) rfl ?_
  refine AOps.cons (op_fst rfl rfl (vt rfl)) rfl ?_
  refine AOps.cons (op_snd rfl rfl (vt rfl)) rfl ?_
  refine AOps.consT rfl (op_alloc 4 rfl rfl zr56) ?_
  rintro _ ⟨g5, rfl⟩
  refine AOps.cons (op_store rfl rfl ty56 (vt rfl) (i := 4) rfl (vt rfl)) rfl ?_
  refine AOps.cons (op_assign (A := rd kbool x4.2) rfl rfl (vt rfl)) rfl ?_
  refine AOps.nil ?_
  refine AW.seq ?_
  refine AW.region ?_
  refine AOps.cons (op_load rfl rfl ty56 (vt rfl) (i := 4) rfl) rfl ?_
  refine AOps.cons (op_store rfl rfl ty56 (vt rfl) (i := 3) rfl (vt rfl)) rfl ?_
  refine AOps.nil ?_
  refine AW.ret ?_
  obtain rfl := Option.some.inj h
  exact ret1 Try.results79 rfl (out_cell rfl (i := 3) rfl ty56)
-- slices.EqualFunc[[]weirbox/api.Atom,[]weirbox/api.Atom,weirbox/api.Atom,weirbox/api.Atom]
def F88_l1 (s22 : (List Atom)) (eq3 : (Atom → Atom → Option Bool)) : (List Atom) → Nat → Option Bool
  | [], i4 => some true
  | x6 :: l5, i4 => (lget s22 (i4 : Int)).bind fun e8 => (eq3 x6 e8).bind fun x10 => (bif (!x10) then some false else (F88_l1 s22 eq3 l5) (i4 + 1))
def F88 (s11 : (List Atom)) (s22 : (List Atom)) (eq3 : (Atom → Atom → Option Bool)) : Option Bool :=
  (bif (decide ((s11.length : Int) ≠ (s22.length : Int))) then some false else F88_l1 s22 eq3 s11 0)
theorem c88 (s11 : (List Atom)) (s22 : (List Atom)) (eq3 : (Atom → Atom → Option Bool)) (r : Bool) (h : F88 s11 s22 eq3 = some r) : PCon Try.prog 88 [rd (ksl kAtom) s11, rd (ksl kAtom) s22, fn2 Try.prog kAtom kAtom kbool eq3] (rd kbool r) := by
  refine PCon.of (Con.intro0 Try.func88 rfl Try.ntmps88 rfl fun w H => ?_)
  unfold F88 at h
  refine AW.seq ?_
  refine AW.region ?_
  refine AOps.cons (op_assign (A := rd kbool false) rfl rfl vb) rfl ?_
  refine AOps.nil ?_
  refine AW.seq ?_
  refine AW.seq ?_
  refine AW.region ?_
  refine AOps.cons (op_move (A := rd (ksl kAtom) s11) rfl rfl (vt rfl)) rfl ?_
  refine AOps.cons (op_len' rfl rfl sl57 (vt rfl)) rfl ?_
  refine AOps.cons (op_move (A := rd (ksl kAtom) s22) rfl rfl (vt rfl)) rfl ?_
  refine AOps.cons (op_len' rfl rfl sl57 (vt rfl)) rfl ?_
  refine AOps.cons (op_neq rfl rfl (vt rfl) (vt rfl)) rfl ?_
  refine AOps.nil ?_
  refine AW.cond (vt rfl) (fun hc => ?_) (fun hc => ?_)
  · have h := cond_t hc h
    refine AW.seq ?_
    refine AW.region ?_
    refine AOps.cons (op_assign (A := rd kbool false) rfl rfl vb) rfl ?_
    refine AOps.nil ?_
    refine AW.ret ?_
    obtain rfl := Option.some.inj h
    exact ret1 Try.results88 rfl (out_tmp rfl)
  · have h := cond_f hc h
    refine AW.skip ?_
    refine AW.seq ?_
    refine AW.seq ?_
    refine AW.region ?_
    refine AOps.cons (op_move (A := rd (ksl kAtom) s11) rfl rfl (vt rfl)) rfl ?_
    refine AOps.cons (op_len' rfl rfl sl57 (vt rfl)) rfl ?_
    refine AOps.cons (op_move (A := rd (kint .i64) 0) rfl rfl (vk rfl)) rfl ?_
    refine AOps.nil ?_
    refine AW.block ?_
    refine AW.loopG (d := []) (ν := (List Atom) × Nat) (fun n => Sfx s11 n.2 n.1 ∧ F88_l1 s22 eq3 n.1 n.2 = some r) (fun n => n.1.length) (fun n => [(1, rd (ksl kAtom) s22), (2, fn2 Try.prog kAtom kAtom kbool eq3), (15, rd (ksl kAtom) s11), (16, rd (kint .i64) (s11.length : Int)), (17, rd (kint .i64) (n.2 : Int))]) (fun n => []) (s11, 0) ⟨Sfx.start _, h⟩ ⟨rfl, ⟨rfl, rfl, rfl, rfl, rfl, trivial⟩, trivial⟩ ?_
    rintro ⟨l5, i4⟩ ⟨hsf1, h⟩
    change Sfx s11 i4 l5 at hsf1
    change F88_l1 s22 eq3 l5 i4 = some r at h
    change AW _ _ _ ⟨slots [(1, rd (ksl kAtom) s22), (2, fn2 Try.prog kAtom kAtom kbool eq3), (15, rd (ksl kAtom) s11), (16, rd (kint .i64) (s11.length : Int)), (17, rd (kint .i64) (i4 : Int))], ress [], _⟩
    cases l5 with
    | nil =>
      unfold F88_l1 at h
      refine AW.seq ?_
      refine AW.region ?_
      refine AOps.cons (op_lss rfl rfl (vt rfl) (vt rfl)) rfl ?_
      refine AOps.nil ?_
      refine AW.seq ?_
      refine AW.cond (vt rfl) (fun hc => absurd (of_decide_eq_true hc) hsf1.nil) (fun hc => ?_)
      refine AW.exit ?_
      refine AW.seq ?_
      refine AW.region ?_
      refine AOps.cons (op_assign (A := rd kbool true) rfl rfl vb) rfl ?_
      refine AOps.nil ?_
      refine AW.ret ?_
      obtain rfl := Option.some.inj h
      exact ret1 Try.results88 rfl (out_tmp rfl)
    | cons x6 l5 =>
      unfold F88_l1 at h
      generalize hgo1 : F88_l1 s22 eq3 l5 = go1 at h
      refine AW.seq ?_
      refine AW.region ?_
      refine AOps.cons (op_lss rfl rfl (vt rfl) (vt rfl)) rfl ?_
      refine AOps.nil ?_
      refine AW.seq ?_
      refine AW.cond (vt rfl) (fun hc => ?_) (fun hc => absurd hsf1.cons (of_decide_eq_false hc))
      have hlti4 := of_decide_eq_true hc
      refine AW.skip ?_
      refine AW.seq ?_
      refine AW.block ?_
      refine AW.seq ?_
      refine AW.region ?_
      refine AOps.cons (op_move (A := rd (kint .i64) (i4 : Int)) rfl rfl (vt rfl)) rfl ?_
      refine AOps.cons (op_indexs' rfl rfl sl57 (vt rfl) (vt rfl) hsf1.lget) rfl ?_
      refine AOps.cons (op_loadp rfl rfl ty97 (vt rfl)) rfl ?_
      refine AOps.consT rfl (op_alloc 9 rfl rfl zr97) ?_
      rintro _ ⟨g7, rfl⟩
      refine AOps.cons (op_assign (A := rd (kint .i64) (i4 : Int)) rfl rfl (vt rfl)) rfl ?_
      refine AOps.cons (op_store rfl rfl ty97 (vt rfl) (i := 9) rfl (vt rfl)) rfl ?_
      refine AOps.nil ?_
      refine AW.seq ?_
      obtain ⟨e8, he8, h⟩ := bsome h
      refine AW.region ?_
      refine AOps.cons (op_move (A := rd (ksl kAtom) s22) rfl rfl (vt rfl)) rfl ?_
      refine AOps.cons (op_move (A := rd (kint .i64) (i4 : Int)) rfl rfl (vt rfl)) rfl ?_
      refine AOps.cons (op_indexs' rfl rfl sl57 (vt rfl) (vt rfl) he8) rfl ?_
      refine AOps.cons (op_loadp rfl rfl ty97 (vt rfl)) rfl ?_
      refine AOps.consT rfl (op_alloc 10 rfl rfl zr97) ?_
      rintro _ ⟨g9, rfl⟩
      refine AOps.cons (op_store rfl rfl ty97 (vt rfl) (i := 10) rfl (vt rfl)) rfl ?_
      refine AOps.nil ?_
      refine AW.seq ?_
      obtain ⟨x10, hx10, h⟩ := bsome h
      refine AW.region ?_
      refine AOps.cons (op_move (A := fn2 Try.prog kAtom kAtom kbool eq3) rfl rfl (vt rfl)) rfl ?_
      refine AOps.cons (op_load rfl rfl ty97 (vt rfl) (i := 9) rfl) rfl ?_
      refine AOps.cons (op_load rfl rfl ty97 (vt rfl) (i := 10) rfl) rfl ?_
      refine AOps.cons (op_call2 hx10 rfl rfl (vt rfl) (vt rfl) (vt rfl)) rfl ?_
      refine AOps.cons (op_not rfl rfl (vt rfl)) rfl ?_
      refine AOps.nil ?_
      refine AW.cond (vt rfl) (fun hc => ?_) (fun hc => ?_)
      · have h := cond_t hc h
        refine AW.seq ?_
        refine AW.region ?_
        refine AOps.cons (op_assign (A := rd kbool false) rfl rfl vb) rfl ?_
        refine AOps.nil ?_
        refine AW.ret ?_
        obtain rfl := Option.some.inj h
        exact ret1 Try.results88 rfl (out_tmp rfl)
      · have h := cond_f hc h
        refine AW.skip ?_
        refine AW.region ?_
        refine AOps.cons (op_incr (t := 16) rfl rfl (vt rfl) (vk rfl) (vt rfl) hlti4) rfl ?_
        refine AOps.cons (op_move (A := rd (kint .i64) ((i4 + 1 : Nat) : Int)) rfl rfl (vt rfl)) rfl ?_
        refine AOps.nil ?_
        subst hgo1
        exact ⟨(l5, i4 + 1), Nat.lt_succ_self _, ⟨hsf1.next, h⟩, ⟨rfl, ⟨rfl, rfl, rfl, rfl, rfl, trivial⟩, trivial⟩⟩
-- weirbox/wide.Xor
def F121 (a1 : Wide) (b2 : Wide) : Option Wide :=
  some (⟨(a1.Hi ^^^ b2.Hi), (a1.Lo ^^^ b2.Lo)⟩ : Wide)
theorem c121 (a1 : Wide) (b2 : Wide) (r : Wide) (h : F121 a1 b2 = some r) : PCon Try.prog 121 [rd kWide a1, rd kWide b2] (rd kWide r) := by
  refine PCon.of (Con.intro0 Try.func121 rfl Try.ntmps121 rfl fun w H => ?_)
  unfold F121 at h
  refine AW.seq ?_
  refine AW.region ?_
  refine AOps.consT rfl (op_box 3 rfl rfl (vt rfl)) ?_
  rintro _ ⟨g3, rfl⟩
  refine AOps.consT rfl (op_box 4 rfl rfl (vt rfl)) ?_
  rintro _ ⟨g4, rfl⟩
  refine AOps.consT rfl (op_alloc 5 rfl rfl zr52) ?_
  rintro _ ⟨g5, rfl⟩
  refine AOps.nil ?_
  refine AW.seq ?_
  refine AW.region ?_
  refine AOps.cons (op_field lWide_0 rfl rfl fl52_0 (vt rfl)) rfl ?_
  refine AOps.cons (op_load rfl rfl ty50 (vt rfl) (i := 3) rfl) rfl ?_
  refine AOps.cons (op_field lWide_0 rfl rfl fl52_0 (vt rfl)) rfl ?_
  refine AOps.cons (op_load rfl rfl ty50 (vt rfl) (i := 4) rfl) rfl ?_
  refine AOps.cons (op_xor rfl rfl (vt rfl) (vt rfl)) rfl ?_
  refine AOps.cons (op_field lWide_1 rfl rfl fl52_1 (vt rfl)) rfl ?_
  refine AOps.cons (op_load rfl rfl ty50 (vt rfl) (i := 3) rfl) rfl ?_
  refine AOps.cons (op_field lWide_1 rfl rfl fl52_1 (vt rfl)) rfl ?_
  refine AOps.cons (op_load rfl rfl ty50 (vt rfl) (i := 4) rfl) rfl ?_
  refine AOps.cons (op_xor rfl rfl (vt rfl) (vt rfl)) rfl ?_
  refine AOps.cons (op_build (ps := [(0, .tmp 9), (1, .tmp 14)]) (x := (⟨(a1.Hi ^^^ b2.Hi), (a1.Lo ^^^ b2.Lo)⟩ : Wide)) rfl rfl rfl (by kernel_rfl) zr52 ⟨_, _, lWide_0, _, by kernel_rfl, (vt rfl), _, _, lWide_1, _, by kernel_rfl, (vt rfl), rfl⟩) rfl ?_
  refine AOps.cons (op_store rfl rfl ty52 (vt rfl) (i := 5) rfl (vt rfl)) rfl ?_
  refine AOps.nil ?_
  refine AW.ret ?_
  obtain rfl := Option.some.inj h
  exact ret1 Try.results121 rfl (out_cell rfl (i := 5) rfl ty52)
-- weirbox/differ.bits
def F135 (a1 : Tern) (b2 : Tern) : Option Wide :=
  (F124 a1.Mask b2.Mask).bind fun x6 => (F121 a1.Value b2.Value).bind fun x7 => (F124 x6 x7).bind fun x8 => some x8
theorem c135 (a1 : Tern) (b2 : Tern) (r : Wide) (h : F135 a1 b2 = some r) : PCon Try.prog 135 [rd kTern a1, rd kTern b2] (rd kWide r) := by
  refine PCon.of (Con.intro0 Try.func135 rfl Try.ntmps135 rfl fun w H => ?_)
  unfold F135 at h
  refine AW.seq ?_
  refine AW.region ?_
  refine AOps.consT rfl (op_box 3 rfl rfl (vt rfl)) ?_
  rintro _ ⟨g3, rfl⟩
  refine AOps.consT rfl (op_box 4 rfl rfl (vt rfl)) ?_
  rintro _ ⟨g4, rfl⟩
  refine AOps.consT rfl (op_alloc 5 rfl rfl zr52) ?_
  rintro _ ⟨g5, rfl⟩
  refine AOps.nil ?_
  refine AW.seq ?_
  obtain ⟨x6, hx6, h⟩ := bsome h
  obtain ⟨x7, hx7, h⟩ := bsome h
  obtain ⟨x8, hx8, h⟩ := bsome h
  refine AW.regionAny [⟨[2], [5], [], []⟩, ⟨[5], [6], [3], []⟩, ⟨[3], [7], [], []⟩, ⟨[7], [8], [4], []⟩, ⟨[6, 8], [9], [], []⟩, ⟨[2], [10], [], []⟩, ⟨[10], [11], [3], []⟩, ⟨[3], [12], [], []⟩, ⟨[12], [13], [4], []⟩, ⟨[11, 13], [14], [], []⟩, ⟨[9, 14], [15], [], []⟩, ⟨[4, 15], [], [5], [5]⟩] mixed (by kernel_rfl) ?_
  refine SeqA.cons (loc [2] [] rfl rfl fun S hs hr => op_field lTern_1 rfl rfl fl54_1 (vt ((hs 2 rfl).trans rfl))) ⟨rfl, rfl, rfl, rfl⟩ ?_
  refine SeqA.cons (loc [5] [3] rfl rfl fun S hs hr => op_load rfl rfl ty52 (vt ((hs 5 rfl).trans rfl)) (i := 3) ((hr 3 rfl).trans rfl)) ⟨rfl, rfl, rfl, rfl⟩ ?_
  refine SeqA.cons (loc [3] [] rfl rfl fun S hs hr => op_field lTern_1 rfl rfl fl54_1 (vt ((hs 3 rfl).trans rfl))) ⟨rfl, rfl, rfl, rfl⟩ ?_
  refine SeqA.cons (loc [7] [4] rfl rfl fun S hs hr => op_load rfl rfl ty52 (vt ((hs 7 rfl).trans rfl)) (i := 4) ((hr 4 rfl).trans rfl)) ⟨rfl, rfl, rfl, rfl⟩ ?_
  refine SeqA.cons (loc [6, 8] [] rfl rfl fun S hs hr => op_call (xs := [.tmp 6, .tmp 8]) (c124 _ _ _ hx6) (Ent.mk Try.func124 rfl rfl) rfl rfl ⟨vt ((hs 6 rfl).trans rfl), vt ((hs 8 rfl).trans rfl), trivial⟩) ⟨rfl, rfl, rfl, rfl⟩ ?_
  refine SeqA.cons (loc [2] [] rfl rfl fun S hs hr => op_field lTern_0 rfl rfl fl54_0 (vt ((hs 2 rfl).trans rfl))) ⟨rfl, rfl, rfl, rfl⟩ ?_
  refine SeqA.cons (loc [10] [3] rfl rfl fun S hs hr => op_load rfl rfl ty52 (vt ((hs 10 rfl).trans rfl)) (i := 3) ((hr 3 rfl).trans rfl)) ⟨rfl, rfl, rfl, rfl⟩ ?_
  refine SeqA.cons (loc [3] [] rfl rfl fun S hs hr => op_field lTern_0 rfl rfl fl54_0 (vt ((hs 3 rfl).trans rfl))) ⟨rfl, rfl, rfl, rfl⟩ ?_
  refine SeqA.cons (loc [12] [4] rfl rfl fun S hs hr => op_load rfl rfl ty52 (vt ((hs 12 rfl).trans rfl)) (i := 4) ((hr 4 rfl).trans rfl)) ⟨rfl, rfl, rfl, rfl⟩ ?_
  refine SeqA.cons (loc [11, 13] [] rfl rfl fun S hs hr => op_call (xs := [.tmp 11, .tmp 13]) (c121 _ _ _ hx7) (Ent.mk Try.func121 rfl rfl) rfl rfl ⟨vt ((hs 11 rfl).trans rfl), vt ((hs 13 rfl).trans rfl), trivial⟩) ⟨rfl, rfl, rfl, rfl⟩ ?_
  refine SeqA.cons (loc [9, 14] [] rfl rfl fun S hs hr => op_call (xs := [.tmp 9, .tmp 14]) (c124 _ _ _ hx8) (Ent.mk Try.func124 rfl rfl) rfl rfl ⟨vt ((hs 9 rfl).trans rfl), vt ((hs 14 rfl).trans rfl), trivial⟩) ⟨rfl, rfl, rfl, rfl⟩ ?_
  refine SeqA.cons (locr [4, 15] [5] rfl fun S hs hr => op_store rfl rfl ty52 (vt ((hs 4 rfl).trans rfl)) (i := 5) ((hr 5 rfl).trans rfl) (vt ((hs 15 rfl).trans rfl))) ⟨rfl, rfl, rfl, rfl⟩ ?_
  refine AW.ret ?_
  obtain rfl := Option.some.inj h
  exact ret1 Try.results135 rfl (out_cell rfl (i := 5) rfl ty52)
end Go.Proofs.Ytokmmcflinnfiaa.W
