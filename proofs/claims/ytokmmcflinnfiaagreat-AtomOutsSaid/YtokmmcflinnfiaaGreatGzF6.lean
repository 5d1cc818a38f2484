/- GzF6: a part of the proof. -/
import Derived.Test.YtokmmcflinnfiaaGreatGzF5
set_option linter.unusedVariables false
set_option maxRecDepth 4000
set_option linter.unusedSimpArgs false
namespace Go.Proofs.YtokmmcflinnfiaaGreat.W
open Go Go.Wb
-- weirbox/wide.And
def F74 (a1 : Wide) (b2 : Wide) : Option Wide :=
  some (⟨(a1.Hi &&& b2.Hi), (a1.Lo &&& b2.Lo)⟩ : Wide)
theorem c74 (a1 : Wide) (b2 : Wide) (r : Wide) (h : F74 a1 b2 = some r) : PCon Tryz.prog 74 [rd kWide a1, rd kWide b2] (rd kWide r) := by
  refine PCon.of (Con.intro0 Tryz.func74 rfl Tryz.ntmps74 rfl fun w H => ?_)
  unfold F74 at h
  refine AW.seq ?_
  refine AW.region ?_
  refine AOps.consT rfl (op_box 3 rfl rfl (vt rfl)) ?_
  rintro _ ⟨g3, rfl⟩
  refine AOps.consT rfl (op_box 4 rfl rfl (vt rfl)) ?_
  rintro _ ⟨g4, rfl⟩
  refine AOps.consT rfl (op_alloc 5 rfl rfl zr29) ?_
  rintro _ ⟨g5, rfl⟩
  refine AOps.nil ?_
  refine AW.seq ?_
  refine AW.region ?_
  refine AOps.cons (op_field lWide_0 rfl rfl fl29_0 (vt rfl)) rfl ?_
  refine AOps.cons (op_load rfl rfl ty27 (vt rfl) (i := 3) rfl) rfl ?_
  refine AOps.cons (op_field lWide_0 rfl rfl fl29_0 (vt rfl)) rfl ?_
  refine AOps.cons (op_load rfl rfl ty27 (vt rfl) (i := 4) rfl) rfl ?_
  refine AOps.cons (op_and rfl rfl (vt rfl) (vt rfl)) rfl ?_
  refine AOps.cons (op_field lWide_1 rfl rfl fl29_1 (vt rfl)) rfl ?_
  refine AOps.cons (op_load rfl rfl ty27 (vt rfl) (i := 3) rfl) rfl ?_
  refine AOps.cons (op_field lWide_1 rfl rfl fl29_1 (vt rfl)) rfl ?_
  refine AOps.cons (op_load rfl rfl ty27 (vt rfl) (i := 4) rfl) rfl ?_
  refine AOps.cons (op_and rfl rfl (vt rfl) (vt rfl)) rfl ?_
  refine AOps.cons (op_build (ps := [(0, .tmp 9), (1, .tmp 14)]) (x := (⟨(a1.Hi &&& b2.Hi), (a1.Lo &&& b2.Lo)⟩ : Wide)) rfl rfl rfl (by kernel_rfl) zr29 ⟨_, _, lWide_0, _, by kernel_rfl, (vt rfl), _, _, lWide_1, _, by kernel_rfl, (vt rfl), rfl⟩) rfl ?_
  refine AOps.cons (op_store rfl rfl ty29 (vt rfl) (i := 5) rfl (vt rfl)) rfl ?_
  refine AOps.nil ?_
  refine AW.ret ?_
  obtain rfl := Option.some.inj h
  exact ret1 Tryz.results74 rfl (out_cell rfl (i := 5) rfl ty29)
-- weirbox/tern.Clean
def F110 (t1 : Tern) : Option Tern :=
  (F74 t1.Value t1.Mask).bind fun x4 => some (⟨x4, t1.Mask⟩ : Tern)
theorem c110 (t1 : Tern) (r : Tern) (h : F110 t1 = some r) : PCon Tryz.prog 110 [rd kTern t1] (rd kTern r) := by
  refine PCon.of (Con.intro0 Tryz.func110 rfl Tryz.ntmps110 rfl fun w H => ?_)
  unfold F110 at h
  refine AW.seq ?_
  refine AW.region ?_
  refine AOps.consT rfl (op_box 2 rfl rfl (vt rfl)) ?_
  rintro _ ⟨g2, rfl⟩
  refine AOps.consT rfl (op_alloc 3 rfl rfl zr42) ?_
  rintro _ ⟨g3, rfl⟩
  refine AOps.nil ?_
  refine AW.seq ?_
  obtain ⟨x4, hx4, h⟩ := bsome h
  refine AW.regionAny [⟨[1], [3], [], []⟩, ⟨[3], [4], [2], []⟩, ⟨[1], [5], [], []⟩, ⟨[5], [6], [2], []⟩, ⟨[4, 6], [7], [], []⟩, ⟨[1], [8], [], []⟩, ⟨[8], [9], [2], []⟩, ⟨[7, 9], [10], [], []⟩, ⟨[2, 10], [], [3], [3]⟩] mixed (by kernel_rfl) ?_
  refine SeqA.cons (loc [1] [] rfl rfl fun S hs hr => op_field lTern_0 rfl rfl fl42_0 (vt ((hs 1 rfl).trans rfl))) ⟨rfl, rfl, rfl, rfl⟩ ?_
  refine SeqA.cons (loc [3] [2] rfl rfl fun S hs hr => op_load rfl rfl ty29 (vt ((hs 3 rfl).trans rfl)) (i := 2) ((hr 2 rfl).trans rfl)) ⟨rfl, rfl, rfl, rfl⟩ ?_
  refine SeqA.cons (loc [1] [] rfl rfl fun S hs hr => op_field lTern_1 rfl rfl fl42_1 (vt ((hs 1 rfl).trans rfl))) ⟨rfl, rfl, rfl, rfl⟩ ?_
  refine SeqA.cons (loc [5] [2] rfl rfl fun S hs hr => op_load rfl rfl ty29 (vt ((hs 5 rfl).trans rfl)) (i := 2) ((hr 2 rfl).trans rfl)) ⟨rfl, rfl, rfl, rfl⟩ ?_
  refine SeqA.cons (loc [4, 6] [] rfl rfl fun S hs hr => op_call (xs := [.tmp 4, .tmp 6]) (c74 _ _ _ hx4) (Ent.mk Tryz.func74 rfl rfl) rfl rfl ⟨vt ((hs 4 rfl).trans rfl), vt ((hs 6 rfl).trans rfl), trivial⟩) ⟨rfl, rfl, rfl, rfl⟩ ?_
  refine SeqA.cons (loc [1] [] rfl rfl fun S hs hr => op_field lTern_1 rfl rfl fl42_1 (vt ((hs 1 rfl).trans rfl))) ⟨rfl, rfl, rfl, rfl⟩ ?_
  refine SeqA.cons (loc [8] [2] rfl rfl fun S hs hr => op_load rfl rfl ty29 (vt ((hs 8 rfl).trans rfl)) (i := 2) ((hr 2 rfl).trans rfl)) ⟨rfl, rfl, rfl, rfl⟩ ?_
  refine SeqA.cons (loc [7, 9] [] rfl rfl fun S hs hr => op_build (ps := [(0, .tmp 7), (1, .tmp 9)]) (x := (⟨x4, t1.Mask⟩ : Tern)) rfl rfl rfl (by kernel_rfl) zr42 ⟨_, _, lTern_0, _, by kernel_rfl, (vt ((hs 7 rfl).trans rfl)), _, _, lTern_1, _, by kernel_rfl, (vt ((hs 9 rfl).trans rfl)), rfl⟩) ⟨rfl, rfl, rfl, rfl⟩ ?_
  refine SeqA.cons (locr [2, 10] [3] rfl fun S hs hr => op_store rfl rfl ty42 (vt ((hs 2 rfl).trans rfl)) (i := 3) ((hr 3 rfl).trans rfl) (vt ((hs 10 rfl).trans rfl))) ⟨rfl, rfl, rfl, rfl⟩ ?_
  refine AW.ret ?_
  obtain rfl := Option.some.inj h
  exact ret1 Tryz.results110 rfl (out_cell rfl (i := 3) rfl ty42)
-- weirbox/rewrite.Clean$1
def F109 (i1 : Int) (c2 : (Vector Tern 24)) : Option Tern :=
  (chk 24 i1).bind fun j4 => (F110 (Vector.get c2 j4)).bind fun x5 => some x5
theorem c109 (i1 : Int) (c2 : (Vector Tern 24)) (r : Tern) (h : F109 i1 c2 = some r) : PCon Tryz.prog 109 [rd (kint .i64) i1, rp (karr 24 kTern) c2] (rd kTern r) := by
  refine PCon.of (Con.intro0 Tryz.func109 rfl Tryz.ntmps109 rfl fun w H => ?_)
  unfold F109 at h
  refine AW.seq ?_
  refine AW.region ?_
  refine AOps.consT rfl (op_alloc 4 rfl rfl zr42) ?_
  rintro _ ⟨g3, rfl⟩
  refine AOps.nil ?_
  refine AW.seq ?_
  obtain ⟨j4, hj4, h⟩ := bsome h
  obtain ⟨x5, hx5, h⟩ := bsome h
  refine AW.region ?_
  refine AOps.cons (op_move (A := rd (kint .i64) i1) rfl rfl (vt rfl)) rfl ?_
  refine AOps.cons (op_indexp' rfl rfl ar44 (vt rfl) (vt rfl) hj4) rfl ?_
  refine AOps.cons (op_loadp rfl rfl ty42 (vt rfl)) rfl ?_
  refine AOps.cons (op_call (xs := [.tmp 6]) (c110 _ _ hx5) (Ent.mk Tryz.func110 rfl rfl) rfl rfl ⟨vt rfl, trivial⟩) rfl ?_
  refine AOps.cons (op_store rfl rfl ty42 (vt rfl) (i := 4) rfl (vt rfl)) rfl ?_
  refine AOps.nil ?_
  refine AW.ret ?_
  obtain rfl := Option.some.inj h
  exact ret1 Tryz.results109 rfl (out_cell rfl (i := 4) rfl ty42)
-- weirbox/rewrite.each[weirbox/api.Rewrite]
def F108_l1 (f1 : (Int → Option Tern)) : Nat → Nat → (Vector Tern 24) → Option (Vector Tern 24)
  | 0, i6, b5 => some b5
  | m7 + 1, i6, b5 => (f1 (i6 : Int)).bind fun x8 => (chk 24 (i6 : Int)).bind fun j9 => (F108_l1 f1 m7) (i6 + 1) (Vector.set b5 j9.1 x8 j9.2)
def F108 (f1 : (Int → Option Tern)) : Option (Vector Tern 24) :=
  F108_l1 f1 (24 : Int).toNat 0 (Vector.replicate 24 zTern)
theorem c108 (f1 : (Int → Option Tern)) (r : (Vector Tern 24)) (h : F108 f1 = some r) : PCon Tryz.prog 108 [fn1 Tryz.prog (kint .i64) kTern f1] (rd (karr 24 kTern) r) := by
  refine PCon.of (Con.intro0 Tryz.func108 rfl Tryz.ntmps108 rfl fun w H => ?_)
  unfold F108 at h
  refine AW.seq ?_
  refine AW.region ?_
  refine AOps.consT rfl (op_alloc 3 rfl rfl zr44) ?_
  rintro _ ⟨g2, rfl⟩
  refine AOps.nil ?_
  refine AW.seq ?_
  refine AW.region ?_
  refine AOps.consT rfl (op_alloc 4 rfl rfl zr44) ?_
  rintro _ ⟨g3, rfl⟩
  refine AOps.nil ?_
  refine AW.seq ?_
  refine AW.seq ?_
  refine AW.region ?_
  refine AOps.cons (op_move (A := rd (kint .i64) 0) rfl rfl (vk rfl)) rfl ?_
  refine AOps.nil ?_
  refine AW.block ?_
  refine AW.loopG (d := []) (ν := Nat × Nat × (Vector Tern 24)) (fun n => Cnt 24 n.2.1 n.1 ∧ F108_l1 f1 n.1 n.2.1 n.2.2 = some r) (fun n => n.1) (fun n => [(0, fn1 Tryz.prog (kint .i64) kTern f1), (2, ptrL g2 (Lens.id (karr 24 kTern))), (3, ptrL g3 (Lens.id (karr 24 kTern))), (5, rd (kint .i64) (n.2.1 : Int))]) (fun n => [(3, Blk g2 44 (karr 24 kTern) (Vector.replicate 24 zTern)), (4, Blk g3 44 (karr 24 kTern) n.2.2)]) ((24 : Int).toNat, 0, (Vector.replicate 24 zTern)) ⟨Cnt.start _, h⟩ ⟨rfl, ⟨rfl, rfl, rfl, rfl, trivial⟩, ⟨rfl, rfl, trivial⟩⟩ ?_
  rintro ⟨m7, i6, b5⟩ ⟨hsf1, h⟩
  change Cnt 24 i6 m7 at hsf1
  change F108_l1 f1 m7 i6 b5 = some r at h
  change AW _ _ _ ⟨slots [(0, fn1 Tryz.prog (kint .i64) kTern f1), (2, ptrL g2 (Lens.id (karr 24 kTern))), (3, ptrL g3 (Lens.id (karr 24 kTern))), (5, rd (kint .i64) (i6 : Int))], ress [(3, Blk g2 44 (karr 24 kTern) (Vector.replicate 24 zTern)), (4, Blk g3 44 (karr 24 kTern) b5)], _⟩
  cases m7 with
  | zero =>
    unfold F108_l1 at h
    refine AW.seq ?_
    refine AW.region ?_
    refine AOps.cons (op_lss rfl rfl (vt rfl) (vk rfl)) rfl ?_
    refine AOps.nil ?_
    refine AW.seq ?_
    refine AW.cond (vt rfl) (fun hc => absurd (of_decide_eq_true hc) hsf1.zero) (fun hc => ?_)
    refine AW.exit ?_
    refine AW.seq ?_
    refine AW.region ?_
    refine AOps.cons (op_load rfl rfl ty44 (vt rfl) (i := 4) rfl) rfl ?_
    refine AOps.cons (op_store rfl rfl ty44 (vt rfl) (i := 3) rfl (vt rfl)) rfl ?_
    refine AOps.nil ?_
    refine AW.ret ?_
    obtain rfl := Option.some.inj h
    exact ret1 Tryz.results108 rfl (out_cell rfl (i := 3) rfl ty44)
  | succ m7 =>
    unfold F108_l1 at h
    generalize hgo1 : F108_l1 f1 m7 = go1 at h
    refine AW.seq ?_
    refine AW.region ?_
    refine AOps.cons (op_lss rfl rfl (vt rfl) (vk rfl)) rfl ?_
    refine AOps.nil ?_
    refine AW.seq ?_
    refine AW.cond (vt rfl) (fun hc => ?_) (fun hc => absurd hsf1.succ (of_decide_eq_false hc))
    have hlti6 := of_decide_eq_true hc
    refine AW.skip ?_
    refine AW.seq ?_
    refine AW.block ?_
    refine AW.seq ?_
    refine AW.region ?_
    refine AOps.cons (op_move (A := rd (kint .i64) (i6 : Int)) rfl rfl (vt rfl)) rfl ?_
    refine AOps.cons (op_assign (A := rd (kint .i64) (i6 : Int)) rfl rfl (vt rfl)) rfl ?_
    refine AOps.nil ?_
    obtain ⟨x8, hx8, h⟩ := bsome h
    obtain ⟨j9, hj9, h⟩ := bsome h
    refine AW.region ?_
    refine AOps.cons (op_move (A := rd (kint .i64) (i6 : Int)) rfl rfl (vt rfl)) rfl ?_
    refine AOps.cons (op_move (A := fn1 Tryz.prog (kint .i64) kTern f1) rfl rfl (vt rfl)) rfl ?_
    refine AOps.cons (op_move (A := rd (kint .i64) (i6 : Int)) rfl rfl (vt rfl)) rfl ?_
    refine AOps.cons (op_call1 hx8 rfl rfl (vt rfl) (vt rfl)) rfl ?_
    refine AOps.cons (op_index' rfl rfl ar44 (vt rfl) (vt rfl) hj9) rfl ?_
    refine AOps.cons (op_store rfl rfl ty42 (vt rfl) (i := 4) rfl (vt rfl)) rfl ?_
    refine AOps.nil ?_
    refine AW.region ?_
    refine AOps.cons (op_incrc rfl rfl (vt rfl) (vk rfl) rfl hlti6) rfl ?_
    refine AOps.cons (op_move (A := rd (kint .i64) ((i6 + 1 : Nat) : Int)) rfl rfl (vt rfl)) rfl ?_
    refine AOps.nil ?_
    subst hgo1
    exact ⟨(m7, i6 + 1, (Vector.set b5 j9.1 x8 j9.2)), Nat.lt_succ_self _, ⟨hsf1.next, h⟩, ⟨rfl, ⟨rfl, rfl, rfl, rfl, trivial⟩, ⟨rfl, rfl, trivial⟩⟩⟩
-- weirbox/rewrite.Clean
def F61 (r1 : (Vector Tern 24)) : Option (Vector Tern 24) :=
  (F108 (fun x => F109 x r1)).bind fun x4 => some x4
theorem c61 (r1 : (Vector Tern 24)) (r : (Vector Tern 24)) (h : F61 r1 = some r) : PCon Tryz.prog 61 [rd (karr 24 kTern) r1] (rd (karr 24 kTern) r) := by
  refine PCon.of (Con.intro0 Tryz.func61 rfl Tryz.ntmps61 rfl fun w H => ?_)
  unfold F61 at h
  refine AW.seq ?_
  refine AW.region ?_
  refine AOps.consT rfl (op_box 2 rfl rfl (vt rfl)) ?_
  rintro _ ⟨g2, rfl⟩
  refine AOps.consT rfl (op_alloc 3 rfl rfl zr44) ?_
  rintro _ ⟨g3, rfl⟩
  refine AOps.nil ?_
  refine AW.seq ?_
  refine AW.freezeB 1 2 rfl rfl rfl ?_
  obtain ⟨x4, hx4, h⟩ := bsome h
  refine AW.region ?_
  refine AOps.cons (op_fn1 (cs := [.tmp 1]) (CAs := [rp (karr 24 kTern) r1]) (fun x => F109 x r1) rfl rfl (Ent.mk Tryz.func109 rfl rfl) ⟨vt rfl, trivial⟩ (fun x y h => c109 _ _ y h)) rfl ?_
  refine AOps.cons (op_call (xs := [.tmp 3]) (c108 _ _ hx4) (Ent.mk Tryz.func108 rfl rfl) rfl rfl ⟨vt rfl, trivial⟩) rfl ?_
  refine AOps.cons (op_store rfl rfl ty44 (vt rfl) (i := 3) rfl (vt rfl)) rfl ?_
  refine AOps.nil ?_
  refine AW.ret ?_
  obtain rfl := Option.some.inj h
  exact ret1 Tryz.results61 rfl (out_cell rfl (i := 3) rfl ty44)
-- weirbox/wide.Less
def F73 (a1 : Wide) (b2 : Wide) : Option Wide :=
  some (⟨(a1.Hi &&& ~~~b2.Hi), (a1.Lo &&& ~~~b2.Lo)⟩ : Wide)
theorem c73 (a1 : Wide) (b2 : Wide) (r : Wide) (h : F73 a1 b2 = some r) : PCon Tryz.prog 73 [rd kWide a1, rd kWide b2] (rd kWide r) := by
  refine PCon.of (Con.intro0 Tryz.func73 rfl Tryz.ntmps73 rfl fun w H => ?_)
  unfold F73 at h
  refine AW.seq ?_
  refine AW.region ?_
  refine AOps.consT rfl (op_box 3 rfl rfl (vt rfl)) ?_
  rintro _ ⟨g3, rfl⟩
  refine AOps.consT rfl (op_box 4 rfl rfl (vt rfl)) ?_
  rintro _ ⟨g4, rfl⟩
  refine AOps.consT rfl (op_alloc 5 rfl rfl zr29) ?_
  rintro _ ⟨g5, rfl⟩
  refine AOps.nil ?_
  refine AW.seq ?_
  refine AW.region ?_
  refine AOps.cons (op_field lWide_0 rfl rfl fl29_0 (vt rfl)) rfl ?_
  refine AOps.cons (op_load rfl rfl ty27 (vt rfl) (i := 3) rfl) rfl ?_
  refine AOps.cons (op_field lWide_0 rfl rfl fl29_0 (vt rfl)) rfl ?_
  refine AOps.cons (op_load rfl rfl ty27 (vt rfl) (i := 4) rfl) rfl ?_
  refine AOps.cons (op_andNot rfl rfl (vt rfl) (vt rfl)) rfl ?_
  refine AOps.cons (op_field lWide_1 rfl rfl fl29_1 (vt rfl)) rfl ?_
  refine AOps.cons (op_load rfl rfl ty27 (vt rfl) (i := 3) rfl) rfl ?_
  refine AOps.cons (op_field lWide_1 rfl rfl fl29_1 (vt rfl)) rfl ?_
  refine AOps.cons (op_load rfl rfl ty27 (vt rfl) (i := 4) rfl) rfl ?_
  refine AOps.cons (op_andNot rfl rfl (vt rfl) (vt rfl)) rfl ?_
  refine AOps.cons (op_build (ps := [(0, .tmp 9), (1, .tmp 14)]) (x := (⟨(a1.Hi &&& ~~~b2.Hi), (a1.Lo &&& ~~~b2.Lo)⟩ : Wide)) rfl rfl rfl (by kernel_rfl) zr29 ⟨_, _, lWide_0, _, by kernel_rfl, (vt rfl), _, _, lWide_1, _, by kernel_rfl, (vt rfl), rfl⟩) rfl ?_
  refine AOps.cons (op_store rfl rfl ty29 (vt rfl) (i := 5) rfl (vt rfl)) rfl ?_
  refine AOps.nil ?_
  refine AW.ret ?_
  obtain rfl := Option.some.inj h
  exact ret1 Tryz.results73 rfl (out_cell rfl (i := 5) rfl ty29)
-- weirbox/wide.Or
def F72 (a1 : Wide) (b2 : Wide) : Option Wide :=
  some (⟨(a1.Hi ||| b2.Hi), (a1.Lo ||| b2.Lo)⟩ : Wide)
theorem c72 (a1 : Wide) (b2 : Wide) (r : Wide) (h : F72 a1 b2 = some r) : PCon Tryz.prog 72 [rd kWide a1, rd kWide b2] (rd kWide r) := by
  refine PCon.of (Con.intro0 Tryz.func72 rfl Tryz.ntmps72 rfl fun w H => ?_)
  unfold F72 at h
  refine AW.seq ?_
  refine AW.region ?_
  refine AOps.consT rfl (op_box 3 rfl rfl (vt rfl)) ?_
  rintro _ ⟨g3, rfl⟩
  refine AOps.consT rfl (op_box 4 rfl rfl (vt rfl)) ?_
  rintro _ ⟨g4, rfl⟩
  refine AOps.consT rfl (op_alloc 5 rfl rfl zr29) ?_
  rintro _ ⟨g5, rfl⟩
  refine AOps.nil ?_
  refine AW.seq ?_
  refine AW.region ?_
  refine AOps.cons (op_field lWide_0 rfl rfl fl29_0 (vt rfl)) rfl ?_
  refine AOps.cons (op_load rfl rfl ty27 (vt rfl) (i := 3) rfl) rfl ?_
  refine AOps.cons (op_field lWide_0 rfl rfl fl29_0 (vt rfl)) rfl ?_
  refine AOps.cons (op_load rfl rfl ty27 (vt rfl) (i := 4) rfl) rfl ?_
  refine AOps.cons (op_or rfl rfl (vt rfl) (vt rfl)) rfl ?_
  refine AOps.cons (op_field lWide_1 rfl rfl fl29_1 (vt rfl)) rfl ?_
  refine AOps.cons (op_load rfl rfl ty27 (vt rfl) (i := 3) rfl) rfl ?_
  refine AOps.cons (op_field lWide_1 rfl rfl fl29_1 (vt rfl)) rfl ?_
  refine AOps.cons (op_load rfl rfl ty27 (vt rfl) (i := 4) rfl) rfl ?_
  refine AOps.cons (op_or rfl rfl (vt rfl) (vt rfl)) rfl ?_
  refine AOps.cons (op_build (ps := [(0, .tmp 9), (1, .tmp 14)]) (x := (⟨(a1.Hi ||| b2.Hi), (a1.Lo ||| b2.Lo)⟩ : Wide)) rfl rfl rfl (by kernel_rfl) zr29 ⟨_, _, lWide_0, _, by kernel_rfl, (vt rfl), _, _, lWide_1, _, by kernel_rfl, (vt rfl), rfl⟩) rfl ?_
  refine AOps.cons (op_store rfl rfl ty29 (vt rfl) (i := 5) rfl (vt rfl)) rfl ?_
  refine AOps.nil ?_
  refine AW.ret ?_
  obtain rfl := Option.some.inj h
  exact ret1 Tryz.results72 rfl (out_cell rfl (i := 5) rfl ty29)
-- weirbox/rewrite.over
def F116 (a1 : Tern) (b2 : Tern) : Option Tern :=
  (F110 a1).bind fun x6 => (F110 b2).bind fun x7 => (F73 x6.Value x7.Mask).bind fun x8 => (F72 x8 x7.Value).bind fun x9 => (F72 x6.Mask x7.Mask).bind fun x10 => some (⟨x9, x10⟩ : Tern)
theorem c116 (a1 : Tern) (b2 : Tern) (r : Tern) (h : F116 a1 b2 = some r) : PCon Tryz.prog 116 [rd kTern a1, rd kTern b2] (rd kTern r) := by
  refine PCon.of (Con.intro0 Tryz.func116 rfl Tryz.ntmps116 rfl fun w H => ?_)
  unfold F116 at h
  refine AW.seq ?_
  refine AW.region ?_
  refine AOps.consT rfl (op_box 3 rfl rfl (vt rfl)) ?_
  rintro _ ⟨g3, rfl⟩
  refine AOps.consT rfl (op_box 4 rfl rfl (vt rfl)) ?_
  rintro _ ⟨g4, rfl⟩
  refine AOps.consT rfl (op_alloc 5 rfl rfl zr42) ?_
  rintro _ ⟨g5, rfl⟩
  refine AOps.nil ?_
  refine AW.seq ?_
  obtain ⟨x6, hx6, h⟩ := bsome h
  obtain ⟨x7, hx7, h⟩ := bsome h
  refine AW.regionAny [⟨[2], [5], [3], []⟩, ⟨[5], [6], [], []⟩, ⟨[3], [7], [4], []⟩, ⟨[7], [8], [], []⟩, ⟨[2, 6], [], [3], [3]⟩, ⟨[3, 8], [], [4], [4]⟩] mixed (by kernel_rfl) ?_
  refine SeqA.cons (loc [2] [3] rfl rfl fun S hs hr => op_load rfl rfl ty42 (vt ((hs 2 rfl).trans rfl)) (i := 3) ((hr 3 rfl).trans rfl)) ⟨rfl, rfl, rfl, rfl⟩ ?_
  refine SeqA.cons (loc [5] [] rfl rfl fun S hs hr => op_call (xs := [.tmp 5]) (c110 _ _ hx6) (Ent.mk Tryz.func110 rfl rfl) rfl rfl ⟨vt ((hs 5 rfl).trans rfl), trivial⟩) ⟨rfl, rfl, rfl, rfl⟩ ?_
  refine SeqA.cons (loc [3] [4] rfl rfl fun S hs hr => op_load rfl rfl ty42 (vt ((hs 3 rfl).trans rfl)) (i := 4) ((hr 4 rfl).trans rfl)) ⟨rfl, rfl, rfl, rfl⟩ ?_
  refine SeqA.cons (loc [7] [] rfl rfl fun S hs hr => op_call (xs := [.tmp 7]) (c110 _ _ hx7) (Ent.mk Tryz.func110 rfl rfl) rfl rfl ⟨vt ((hs 7 rfl).trans rfl), trivial⟩) ⟨rfl, rfl, rfl, rfl⟩ ?_
  refine SeqA.cons (locr [2, 6] [3] rfl fun S hs hr => op_store rfl rfl ty42 (vt ((hs 2 rfl).trans rfl)) (i := 3) ((hr 3 rfl).trans rfl) (vt ((hs 6 rfl).trans rfl))) ⟨rfl, rfl, rfl, rfl⟩ ?_
  refine SeqA.cons (locr [3, 8] [4] rfl fun S hs hr => op_store rfl rfl ty42 (vt ((hs 3 rfl).trans rfl)) (i := 4) ((hr 4 rfl).trans rfl) (vt ((hs 8 rfl).trans rfl))) ⟨rfl, rfl, rfl, rfl⟩ ?_
  refine AW.seq ?_
  obtain ⟨x8, hx8, h⟩ := bsome h
  obtain ⟨x9, hx9, h⟩ := bsome h
  obtain ⟨x10, hx10, h⟩ := bsome h
  refine AW.regionAny [⟨[2], [9], [], []⟩, ⟨[9], [10], [3], []⟩, ⟨[3], [11], [], []⟩, ⟨[11], [12], [4], []⟩, ⟨[10, 12], [13], [], []⟩, ⟨[3], [14], [], []⟩, ⟨[14], [15], [4], []⟩, ⟨[13, 15], [16], [], []⟩, ⟨[2], [17], [], []⟩, ⟨[17], [18], [3], []⟩, ⟨[3], [19], [], []⟩, ⟨[19], [20], [4], []⟩, ⟨[18, 20], [21], [], []⟩, ⟨[16, 21], [22], [], []⟩, ⟨[4, 22], [], [5], [5]⟩] mixed (by kernel_rfl) ?_
  refine SeqA.cons (loc [2] [] rfl rfl fun S hs hr => op_field lTern_0 rfl rfl fl42_0 (vt ((hs 2 rfl).trans rfl))) ⟨rfl, rfl, rfl, rfl⟩ ?_
  refine SeqA.cons (loc [9] [3] rfl rfl fun S hs hr => op_load rfl rfl ty29 (vt ((hs 9 rfl).trans rfl)) (i := 3) ((hr 3 rfl).trans rfl)) ⟨rfl, rfl, rfl, rfl⟩ ?_
  refine SeqA.cons (loc [3] [] rfl rfl fun S hs hr => op_field lTern_1 rfl rfl fl42_1 (vt ((hs 3 rfl).trans rfl))) ⟨rfl, rfl, rfl, rfl⟩ ?_
  refine SeqA.cons (loc [11] [4] rfl rfl fun S hs hr => op_load rfl rfl ty29 (vt ((hs 11 rfl).trans rfl)) (i := 4) ((hr 4 rfl).trans rfl)) ⟨rfl, rfl, rfl, rfl⟩ ?_
  refine SeqA.cons (loc [10, 12] [] rfl rfl fun S hs hr => op_call (xs := [.tmp 10, .tmp 12]) (c73 _ _ _ hx8) (Ent.mk Tryz.func73 rfl rfl) rfl rfl ⟨vt ((hs 10 rfl).trans rfl), vt ((hs 12 rfl).trans rfl), trivial⟩) ⟨rfl, rfl, rfl, rfl⟩ ?_
  refine SeqA.cons (loc [3] [] rfl rfl fun S hs hr => op_field lTern_0 rfl rfl fl42_0 (vt ((hs 3 rfl).trans rfl))) ⟨rfl, rfl, rfl, rfl⟩ ?_
  refine SeqA.cons (loc [14] [4] rfl rfl fun S hs hr => op_load rfl rfl ty29 (vt ((hs 14 rfl).trans rfl)) (i := 4) ((hr 4 rfl).trans rfl)) ⟨rfl, rfl, rfl, rfl⟩ ?_
  refine SeqA.cons (loc [13, 15] [] rfl rfl fun S hs hr => op_call (xs := [.tmp 13, .tmp 15]) (c72 _ _ _ hx9) (Ent.mk Tryz.func72 rfl rfl) rfl rfl ⟨vt ((hs 13 rfl).trans rfl), vt ((hs 15 rfl).trans rfl), trivial⟩) ⟨rfl, rfl, rfl, rfl⟩ ?_
  refine SeqA.cons (loc [2] [] rfl rfl fun S hs hr => op_field lTern_1 rfl rfl fl42_1 (vt ((hs 2 rfl).trans rfl))) ⟨rfl, rfl, rfl, rfl⟩ ?_
  refine SeqA.cons (loc [17] [3] rfl rfl fun S hs hr => op_load rfl rfl ty29 (vt ((hs 17 rfl).trans rfl)) (i := 3) ((hr 3 rfl).trans rfl)) ⟨rfl, rfl, rfl, rfl⟩ ?_
  refine SeqA.cons (loc [3] [] rfl rfl fun S hs hr => op_field lTern_1 rfl rfl fl42_1 (vt ((hs 3 rfl).trans rfl))) ⟨rfl, rfl, rfl, rfl⟩ ?_
  refine SeqA.cons (loc [19] [4] rfl rfl fun S hs hr => op_load rfl rfl ty29 (vt ((hs 19 rfl).trans rfl)) (i := 4) ((hr 4 rfl).trans rfl)) ⟨rfl, rfl, rfl, rfl⟩ ?_
  refine SeqA.cons (loc [18, 20] [] rfl rfl fun S hs hr => op_call (xs := [.tmp 18, .tmp 20]) (c72 _ _ _ hx10) (Ent.mk Tryz.func72 rfl rfl) rfl rfl ⟨vt ((hs 18 rfl).trans rfl), vt ((hs 20 rfl).trans rfl), trivial⟩) ⟨rfl, rfl, rfl, rfl⟩ ?_
  refine SeqA.cons (loc [16, 21] [] rfl rfl fun S hs hr => op_build (ps := [(0, .tmp 16), (1, .tmp 21)]) (x := (⟨x9, x10⟩ : Tern)) rfl rfl rfl (by kernel_rfl) zr42 ⟨_, _, lTern_0, _, by kernel_rfl, (vt ((hs 16 rfl).trans rfl)), _, _, lTern_1, _, by kernel_rfl, (vt ((hs 21 rfl).trans rfl)), rfl⟩) ⟨rfl, rfl, rfl, rfl⟩ ?_
  refine SeqA.cons (locr [4, 22] [5] rfl fun S hs hr => op_store rfl rfl ty42 (vt ((hs 4 rfl).trans rfl)) (i := 5) ((hr 5 rfl).trans rfl) (vt ((hs 22 rfl).trans rfl))) ⟨rfl, rfl, rfl, rfl⟩ ?_
  refine AW.ret ?_
  obtain rfl := Option.some.inj h
  exact ret1 Tryz.results116 rfl (out_cell rfl (i := 5) rfl ty42)
-- weirbox/rewrite.Set
def F79 (r1 : (Vector Tern 24)) (f2 : Int) (value3 : Wide) (mask4 : Wide) : Option (Vector Tern 24) :=
  (F61 r1).bind fun x9 => (F114 f2).bind fun x10 => (bif x10 then (chk 24 f2).bind fun j11 => (F116 (Vector.get x9 j11) (⟨value3, mask4⟩ : Tern)).bind fun x12 => (chk 24 f2).bind fun j13 => some (Vector.set x9 j13.1 x12 j13.2) else some x9)
theorem c79 (r1 : (Vector Tern 24)) (f2 : Int) (value3 : Wide) (mask4 : Wide) (r : (Vector Tern 24)) (h : F79 r1 f2 value3 mask4 = some r) : PCon Tryz.prog 79 [rd (karr 24 kTern) r1, rd (kint .i64) f2, rd kWide value3, rd kWide mask4] (rd (karr 24 kTern) r) := by
  refine PCon.of (Con.intro0 Tryz.func79 rfl Tryz.ntmps79 rfl fun w H => ?_)
  unfold F79 at h
  refine AW.seq ?_
  refine AW.region ?_
  refine AOps.consT rfl (op_box 5 rfl rfl (vt rfl)) ?_
  rintro _ ⟨g5, rfl⟩
  refine AOps.consT rfl (op_box 7 rfl rfl (vt rfl)) ?_
  rintro _ ⟨g6, rfl⟩
  refine AOps.consT rfl (op_box 8 rfl rfl (vt rfl)) ?_
  rintro _ ⟨g7, rfl⟩
  refine AOps.consT rfl (op_alloc 9 rfl rfl zr44) ?_
  rintro _ ⟨g8, rfl⟩
  refine AOps.nil ?_
  refine AW.seq ?_
  obtain ⟨x9, hx9, h⟩ := bsome h
  refine AW.region ?_
  refine AOps.cons (op_load rfl rfl ty44 (vt rfl) (i := 5) rfl) rfl ?_
  refine AOps.cons (op_call (xs := [.tmp 9]) (c61 _ _ hx9) (Ent.mk Tryz.func61 rfl rfl) rfl rfl ⟨vt rfl, trivial⟩) rfl ?_
  refine AOps.cons (op_store rfl rfl ty44 (vt rfl) (i := 5) rfl (vt rfl)) rfl ?_
  refine AOps.nil ?_
  refine AW.seq ?_
  refine AW.seq ?_
  obtain ⟨x10, hx10, h⟩ := bsome h
  refine AW.region ?_
  refine AOps.cons (op_move (A := rd (kint .i64) f2) rfl rfl (vt rfl)) rfl ?_
  refine AOps.cons (op_call (xs := [.tmp 11]) (c114 _ _ hx10) (Ent.mk Tryz.func114 rfl rfl) rfl rfl ⟨vt rfl, trivial⟩) rfl ?_
  refine AOps.nil ?_
  refine AW.cond (vt rfl) (fun hc => ?_) (fun hc => ?_)
  · have h := cond_t hc h
    obtain ⟨j11, hj11, h⟩ := bsome h
    obtain ⟨x12, hx12, h⟩ := bsome h
    obtain ⟨j13, hj13, h⟩ := bsome h
    refine AW.regionAny [⟨[1], [13], [], []⟩, ⟨[1], [14], [], []⟩, ⟨[4, 14], [15], [], []⟩, ⟨[15], [16], [5], []⟩, ⟨[6], [17], [7], []⟩, ⟨[7], [18], [8], []⟩, ⟨[17, 18], [19], [], []⟩, ⟨[16, 19], [20], [], []⟩, ⟨[4, 13], [21], [], []⟩, ⟨[21, 20], [], [5], [5]⟩] mixed (by kernel_rfl) ?_
    refine SeqA.cons (loc [1] [] rfl rfl fun S hs hr => op_move (A := rd (kint .i64) f2) rfl rfl (vt ((hs 1 rfl).trans rfl))) ⟨rfl, rfl, rfl, rfl⟩ ?_
    refine SeqA.cons (loc [1] [] rfl rfl fun S hs hr => op_move (A := rd (kint .i64) f2) rfl rfl (vt ((hs 1 rfl).trans rfl))) ⟨rfl, rfl, rfl, rfl⟩ ?_
    refine SeqA.cons (loc [4, 14] [] rfl rfl fun S hs hr => op_index' rfl rfl ar44 (vt ((hs 4 rfl).trans rfl)) (vt ((hs 14 rfl).trans rfl)) hj11) ⟨rfl, rfl, rfl, rfl⟩ ?_
    refine SeqA.cons (loc [15] [5] rfl rfl fun S hs hr => op_load rfl rfl ty42 (vt ((hs 15 rfl).trans rfl)) (i := 5) ((hr 5 rfl).trans rfl)) ⟨rfl, rfl, rfl, rfl⟩ ?_
    refine SeqA.cons (loc [6] [7] rfl rfl fun S hs hr => op_load rfl rfl ty29 (vt ((hs 6 rfl).trans rfl)) (i := 7) ((hr 7 rfl).trans rfl)) ⟨rfl, rfl, rfl, rfl⟩ ?_
    refine SeqA.cons (loc [7] [8] rfl rfl fun S hs hr => op_load rfl rfl ty29 (vt ((hs 7 rfl).trans rfl)) (i := 8) ((hr 8 rfl).trans rfl)) ⟨rfl, rfl, rfl, rfl⟩ ?_
    refine SeqA.cons (loc [17, 18] [] rfl rfl fun S hs hr => op_build (ps := [(0, .tmp 17), (1, .tmp 18)]) (x := (⟨value3, mask4⟩ : Tern)) rfl rfl rfl (by kernel_rfl) zr42 ⟨_, _, lTern_0, _, by kernel_rfl, (vt ((hs 17 rfl).trans rfl)), _, _, lTern_1, _, by kernel_rfl, (vt ((hs 18 rfl).trans rfl)), rfl⟩) ⟨rfl, rfl, rfl, rfl⟩ ?_
    refine SeqA.cons (loc [16, 19] [] rfl rfl fun S hs hr => op_call (xs := [.tmp 16, .tmp 19]) (c116 _ _ _ hx12) (Ent.mk Tryz.func116 rfl rfl) rfl rfl ⟨vt ((hs 16 rfl).trans rfl), vt ((hs 19 rfl).trans rfl), trivial⟩) ⟨rfl, rfl, rfl, rfl⟩ ?_
    refine SeqA.cons (loc [4, 13] [] rfl rfl fun S hs hr => op_index' rfl rfl ar44 (vt ((hs 4 rfl).trans rfl)) (vt ((hs 13 rfl).trans rfl)) hj13) ⟨rfl, rfl, rfl, rfl⟩ ?_
    refine SeqA.cons (locr [21, 20] [5] rfl fun S hs hr => op_store rfl rfl ty42 (vt ((hs 21 rfl).trans rfl)) (i := 5) ((hr 5 rfl).trans rfl) (vt ((hs 20 rfl).trans rfl))) ⟨rfl, rfl, rfl, rfl⟩ ?_
    refine AW.seq ?_
    refine AW.region ?_
    refine AOps.cons (op_load rfl rfl ty44 (vt rfl) (i := 5) rfl) rfl ?_
    refine AOps.cons (op_store rfl rfl ty44 (vt rfl) (i := 9) rfl (vt rfl)) rfl ?_
    refine AOps.nil ?_
    refine AW.ret ?_
    obtain rfl := Option.some.inj h
    exact ret1 Tryz.results79 rfl (out_cell rfl (i := 9) rfl ty44)
  · have h := cond_f hc h
    refine AW.skip ?_
    refine AW.seq ?_
    refine AW.region ?_
    refine AOps.cons (op_load rfl rfl ty44 (vt rfl) (i := 5) rfl) rfl ?_
    refine AOps.cons (op_store rfl rfl ty44 (vt rfl) (i := 9) rfl (vt rfl)) rfl ?_
    refine AOps.nil ?_
    refine AW.ret ?_
    obtain rfl := Option.some.inj h
    exact ret1 Tryz.results79 rfl (out_cell rfl (i := 9) rfl ty44)
end Go.Proofs.YtokmmcflinnfiaaGreat.W
