/- GzF10: a part of the proof. -/
import Derived.Test.YtokmmcflinnfiaaGreatGzF9
set_option linter.unusedVariables false
set_option maxRecDepth 4000
set_option linter.unusedSimpArgs false
namespace Go.Proofs.YtokmmcflinnfiaaGreat.W
open Go Go.Wb
-- weirbox/weirboxref10.Tern
def F82 (o1 : Oxm) : Option Tern :=
  (F118 o1.Field).bind fun x4 => (bif (!x4) then some (⟨zWide, zWide⟩ : Tern) else (bif o1.Masked then some (⟨o1.Value, o1.Mask⟩ : Tern) else (F119 o1.Field).bind fun x5 => (F86 x5).bind fun x6 => some (⟨o1.Value, x6⟩ : Tern)))
theorem c82 (o1 : Oxm) (r : Tern) (h : F82 o1 = some r) : PCon Tryz.prog 82 [rd kOxm o1] (rd kTern r) := by
  refine PCon.of (Con.intro0 Tryz.func82 rfl Tryz.ntmps82 rfl fun w H => ?_)
  unfold F82 at h
  refine AW.seq ?_
  refine AW.region ?_
  refine AOps.consT rfl (op_box 2 rfl rfl (vt rfl)) ?_
  rintro _ ⟨g2, rfl⟩
  refine AOps.consT rfl (op_alloc 3 rfl rfl zr42) ?_
  rintro _ ⟨g3, rfl⟩
  refine AOps.nil ?_
  refine AW.seq ?_
  refine AW.seq ?_
  obtain ⟨x4, hx4, h⟩ := bsome h
  refine AW.region ?_
  refine AOps.cons (op_field lOxm_0 rfl rfl fl60_0 (vt rfl)) rfl ?_
  refine AOps.cons (op_load rfl rfl ty3 (vt rfl) (i := 2) rfl) rfl ?_
  refine AOps.cons (op_call (xs := [.tmp 4]) (c118 _ _ hx4) (Ent.mk Tryz.func118 rfl rfl) rfl rfl ⟨vt rfl, trivial⟩) rfl ?_
  refine AOps.cons (op_not rfl rfl (vt rfl)) rfl ?_
  refine AOps.nil ?_
  refine AW.cond (vt rfl) (fun hc => ?_) (fun hc => ?_)
  · have h := cond_t hc h
    refine AW.seq ?_
    refine AW.region ?_
    refine AOps.cons (op_build (ps := []) (x := (⟨zWide, zWide⟩ : Tern)) rfl rfl rfl (by kernel_rfl) zr42 rfl) rfl ?_
    refine AOps.cons (op_store rfl rfl ty42 (vt rfl) (i := 3) rfl (vt rfl)) rfl ?_
    refine AOps.nil ?_
    refine AW.ret ?_
    obtain rfl := Option.some.inj h
    exact ret1 Tryz.results82 rfl (out_cell rfl (i := 3) rfl ty42)
  · have h := cond_f hc h
    refine AW.skip ?_
    refine AW.seq ?_
    refine AW.seq ?_
    refine AW.region ?_
    refine AOps.cons (op_field lOxm_1 rfl rfl fl60_1 (vt rfl)) rfl ?_
    refine AOps.cons (op_load rfl rfl ty4 (vt rfl) (i := 2) rfl) rfl ?_
    refine AOps.nil ?_
    refine AW.cond (vt rfl) (fun hc => ?_) (fun hc => ?_)
    · have h := cond_t hc h
      refine AW.seq ?_
      refine AW.region ?_
      refine AOps.cons (op_field lOxm_2 rfl rfl fl60_2 (vt rfl)) rfl ?_
      refine AOps.cons (op_load rfl rfl ty29 (vt rfl) (i := 2) rfl) rfl ?_
      refine AOps.cons (op_field lOxm_3 rfl rfl fl60_3 (vt rfl)) rfl ?_
      refine AOps.cons (op_load rfl rfl ty29 (vt rfl) (i := 2) rfl) rfl ?_
      refine AOps.cons (op_build (ps := [(0, .tmp 11), (1, .tmp 13)]) (x := (⟨o1.Value, o1.Mask⟩ : Tern)) rfl rfl rfl (by kernel_rfl) zr42 ⟨_, _, lTern_0, _, by kernel_rfl, (vt rfl), _, _, lTern_1, _, by kernel_rfl, (vt rfl), rfl⟩) rfl ?_
      refine AOps.cons (op_store rfl rfl ty42 (vt rfl) (i := 3) rfl (vt rfl)) rfl ?_
      refine AOps.nil ?_
      refine AW.ret ?_
      obtain rfl := Option.some.inj h
      exact ret1 Tryz.results82 rfl (out_cell rfl (i := 3) rfl ty42)
    · have h := cond_f hc h
      refine AW.skip ?_
      refine AW.seq ?_
      obtain ⟨x5, hx5, h⟩ := bsome h
      obtain ⟨x6, hx6, h⟩ := bsome h
      refine AW.regionAny [⟨[1], [15], [], []⟩, ⟨[15], [16], [2], []⟩, ⟨[1], [17], [], []⟩, ⟨[17], [18], [2], []⟩, ⟨[18], [19], [], []⟩, ⟨[19], [20], [], []⟩, ⟨[16, 20], [21], [], []⟩, ⟨[2, 21], [], [3], [3]⟩] mixed (by kernel_rfl) ?_
      refine SeqA.cons (loc [1] [] rfl rfl fun S hs hr => op_field lOxm_2 rfl rfl fl60_2 (vt ((hs 1 rfl).trans rfl))) ⟨rfl, rfl, rfl, rfl⟩ ?_
      refine SeqA.cons (loc [15] [2] rfl rfl fun S hs hr => op_load rfl rfl ty29 (vt ((hs 15 rfl).trans rfl)) (i := 2) ((hr 2 rfl).trans rfl)) ⟨rfl, rfl, rfl, rfl⟩ ?_
      refine SeqA.cons (loc [1] [] rfl rfl fun S hs hr => op_field lOxm_0 rfl rfl fl60_0 (vt ((hs 1 rfl).trans rfl))) ⟨rfl, rfl, rfl, rfl⟩ ?_
      refine SeqA.cons (loc [17] [2] rfl rfl fun S hs hr => op_load rfl rfl ty3 (vt ((hs 17 rfl).trans rfl)) (i := 2) ((hr 2 rfl).trans rfl)) ⟨rfl, rfl, rfl, rfl⟩ ?_
      refine SeqA.cons (loc [18] [] rfl rfl fun S hs hr => op_call (xs := [.tmp 18]) (c119 _ _ hx5) (Ent.mk Tryz.func119 rfl rfl) rfl rfl ⟨vt ((hs 18 rfl).trans rfl), trivial⟩) ⟨rfl, rfl, rfl, rfl⟩ ?_
      refine SeqA.cons (loc [19] [] rfl rfl fun S hs hr => op_call (xs := [.tmp 19]) (c86 _ _ hx6) (Ent.mk Tryz.func86 rfl rfl) rfl rfl ⟨vt ((hs 19 rfl).trans rfl), trivial⟩) ⟨rfl, rfl, rfl, rfl⟩ ?_
      refine SeqA.cons (loc [16, 20] [] rfl rfl fun S hs hr => op_build (ps := [(0, .tmp 16), (1, .tmp 20)]) (x := (⟨o1.Value, x6⟩ : Tern)) rfl rfl rfl (by kernel_rfl) zr42 ⟨_, _, lTern_0, _, by kernel_rfl, (vt ((hs 16 rfl).trans rfl)), _, _, lTern_1, _, by kernel_rfl, (vt ((hs 20 rfl).trans rfl)), rfl⟩) ⟨rfl, rfl, rfl, rfl⟩ ?_
      refine SeqA.cons (locr [2, 21] [3] rfl fun S hs hr => op_store rfl rfl ty42 (vt ((hs 2 rfl).trans rfl)) (i := 3) ((hr 3 rfl).trans rfl) (vt ((hs 21 rfl).trans rfl))) ⟨rfl, rfl, rfl, rfl⟩ ?_
      refine AW.ret ?_
      obtain rfl := Option.some.inj h
      exact ret1 Tryz.results82 rfl (out_cell rfl (i := 3) rfl ty42)
-- weirbox/weirboxref09.None
def F84 : Option (Vector Tern 24) :=
  some (Vector.replicate 24 zTern)
theorem c84 (r : (Vector Tern 24)) (h : F84 = some r) : PCon Tryz.prog 84 [] (rd (karr 24 kTern) r) := by
  refine PCon.of (Con.intro0 Tryz.func84 rfl Tryz.ntmps84 rfl fun w H => ?_)
  unfold F84 at h
  refine AW.seq ?_
  refine AW.region ?_
  refine AOps.consT rfl (op_alloc 1 rfl rfl zr44) ?_
  rintro _ ⟨g1, rfl⟩
  refine AOps.nil ?_
  refine AW.seq ?_
  refine AW.region ?_
  refine AOps.cons (op_build (ps := []) (x := (Vector.replicate 24 zTern)) rfl rfl rfl (by kernel_rfl) zr44 rfl) rfl ?_
  refine AOps.cons (op_store rfl rfl ty44 (vt rfl) (i := 1) rfl (vt rfl)) rfl ?_
  refine AOps.nil ?_
  refine AW.ret ?_
  obtain rfl := Option.some.inj h
  exact ret1 Tryz.results84 rfl (out_cell rfl (i := 1) rfl ty44)
-- weirbox/weirboxref02.And
def F77 (a1 : Wide) (b2 : Wide) : Option Wide :=
  some (⟨(a1.Hi &&& b2.Hi), (a1.Lo &&& b2.Lo)⟩ : Wide)
theorem c77 (a1 : Wide) (b2 : Wide) (r : Wide) (h : F77 a1 b2 = some r) : PCon Tryz.prog 77 [rd kWide a1, rd kWide b2] (rd kWide r) := by
  refine PCon.of (Con.intro0 Tryz.func77 rfl Tryz.ntmps77 rfl fun w H => ?_)
  unfold F77 at h
  refine AW.seq ?_
  refine AW.region ?_
  refine AOps.consT rfl (op_box 3 rfl rfl (vt rfl)) ?_
  rintro _ ⟨g3, rfl⟩
  refine AOps.consT rfl (op_box 4 rfl rfl (vt rfl)) ?_
  rintro _ ⟨g4, rfl⟩
  refine AOps.consT rfl (op_alloc 5 rfl rfl zr29) ?_
  rintro _ ⟨g5, rfl⟩
  refine AOps.nil ?_
  refine AW.seq ?_
  refine AW.region ?_
  refine AOps.cons (op_field lWide_0 rfl rfl fl29_0 (vt rfl)) rfl ?_
  refine AOps.cons (op_load rfl rfl ty27 (vt rfl) (i := 3) rfl) rfl ?_
  refine AOps.cons (op_field lWide_0 rfl rfl fl29_0 (vt rfl)) rfl ?_
  refine AOps.cons (op_load rfl rfl ty27 (vt rfl) (i := 4) rfl) rfl ?_
  refine AOps.cons (op_and rfl rfl (vt rfl) (vt rfl)) rfl ?_
  refine AOps.cons (op_field lWide_1 rfl rfl fl29_1 (vt rfl)) rfl ?_
  refine AOps.cons (op_load rfl rfl ty27 (vt rfl) (i := 3) rfl) rfl ?_
  refine AOps.cons (op_field lWide_1 rfl rfl fl29_1 (vt rfl)) rfl ?_
  refine AOps.cons (op_load rfl rfl ty27 (vt rfl) (i := 4) rfl) rfl ?_
  refine AOps.cons (op_and rfl rfl (vt rfl) (vt rfl)) rfl ?_
  refine AOps.cons (op_build (ps := [(0, .tmp 9), (1, .tmp 14)]) (x := (⟨(a1.Hi &&& b2.Hi), (a1.Lo &&& b2.Lo)⟩ : Wide)) rfl rfl rfl (by kernel_rfl) zr29 ⟨_, _, lWide_0, _, by kernel_rfl, (vt rfl), _, _, lWide_1, _, by kernel_rfl, (vt rfl), rfl⟩) rfl ?_
  refine AOps.cons (op_store rfl rfl ty29 (vt rfl) (i := 5) rfl (vt rfl)) rfl ?_
  refine AOps.nil ?_
  refine AW.ret ?_
  obtain rfl := Option.some.inj h
  exact ret1 Tryz.results77 rfl (out_cell rfl (i := 5) rfl ty29)
-- weirbox/weirboxref05.Clean
def F62 (t1 : Tern) : Option Tern :=
  (F77 t1.Value t1.Mask).bind fun x4 => some (⟨x4, t1.Mask⟩ : Tern)
theorem c62 (t1 : Tern) (r : Tern) (h : F62 t1 = some r) : PCon Tryz.prog 62 [rd kTern t1] (rd kTern r) := by
  refine PCon.of (Con.intro0 Tryz.func62 rfl Tryz.ntmps62 rfl fun w H => ?_)
  unfold F62 at h
  refine AW.seq ?_
  refine AW.region ?_
  refine AOps.consT rfl (op_box 2 rfl rfl (vt rfl)) ?_
  rintro _ ⟨g2, rfl⟩
  refine AOps.consT rfl (op_alloc 3 rfl rfl zr42) ?_
  rintro _ ⟨g3, rfl⟩
  refine AOps.nil ?_
  refine AW.seq ?_
  obtain ⟨x4, hx4, h⟩ := bsome h
  refine AW.regionAny [⟨[1], [3], [], []⟩, ⟨[3], [4], [2], []⟩, ⟨[1], [5], [], []⟩, ⟨[5], [6], [2], []⟩, ⟨[4, 6], [7], [], []⟩, ⟨[1], [8], [], []⟩, ⟨[8], [9], [2], []⟩, ⟨[7, 9], [10], [], []⟩, ⟨[2, 10], [], [3], [3]⟩] mixed (by kernel_rfl) ?_
  refine SeqA.cons (loc [1] [] rfl rfl fun S hs hr => op_field lTern_0 rfl rfl fl42_0 (vt ((hs 1 rfl).trans rfl))) ⟨rfl, rfl, rfl, rfl⟩ ?_
  refine SeqA.cons (loc [3] [2] rfl rfl fun S hs hr => op_load rfl rfl ty29 (vt ((hs 3 rfl).trans rfl)) (i := 2) ((hr 2 rfl).trans rfl)) ⟨rfl, rfl, rfl, rfl⟩ ?_
  refine SeqA.cons (loc [1] [] rfl rfl fun S hs hr => op_field lTern_1 rfl rfl fl42_1 (vt ((hs 1 rfl).trans rfl))) ⟨rfl, rfl, rfl, rfl⟩ ?_
  refine SeqA.cons (loc [5] [2] rfl rfl fun S hs hr => op_load rfl rfl ty29 (vt ((hs 5 rfl).trans rfl)) (i := 2) ((hr 2 rfl).trans rfl)) ⟨rfl, rfl, rfl, rfl⟩ ?_
  refine SeqA.cons (loc [4, 6] [] rfl rfl fun S hs hr => op_call (xs := [.tmp 4, .tmp 6]) (c77 _ _ _ hx4) (Ent.mk Tryz.func77 rfl rfl) rfl rfl ⟨vt ((hs 4 rfl).trans rfl), vt ((hs 6 rfl).trans rfl), trivial⟩) ⟨rfl, rfl, rfl, rfl⟩ ?_
  refine SeqA.cons (loc [1] [] rfl rfl fun S hs hr => op_field lTern_1 rfl rfl fl42_1 (vt ((hs 1 rfl).trans rfl))) ⟨rfl, rfl, rfl, rfl⟩ ?_
  refine SeqA.cons (loc [8] [2] rfl rfl fun S hs hr => op_load rfl rfl ty29 (vt ((hs 8 rfl).trans rfl)) (i := 2) ((hr 2 rfl).trans rfl)) ⟨rfl, rfl, rfl, rfl⟩ ?_
  refine SeqA.cons (loc [7, 9] [] rfl rfl fun S hs hr => op_build (ps := [(0, .tmp 7), (1, .tmp 9)]) (x := (⟨x4, t1.Mask⟩ : Tern)) rfl rfl rfl (by kernel_rfl) zr42 ⟨_, _, lTern_0, _, by kernel_rfl, (vt ((hs 7 rfl).trans rfl)), _, _, lTern_1, _, by kernel_rfl, (vt ((hs 9 rfl).trans rfl)), rfl⟩) ⟨rfl, rfl, rfl, rfl⟩ ?_
  refine SeqA.cons (locr [2, 10] [3] rfl fun S hs hr => op_store rfl rfl ty42 (vt ((hs 2 rfl).trans rfl)) (i := 3) ((hr 3 rfl).trans rfl) (vt ((hs 10 rfl).trans rfl))) ⟨rfl, rfl, rfl, rfl⟩ ?_
  refine AW.ret ?_
  obtain rfl := Option.some.inj h
  exact ret1 Tryz.results62 rfl (out_cell rfl (i := 3) rfl ty42)
-- weirbox/weirboxref09.Clean
def F37_l1 : Nat → (Vector Tern 24) → Int → Option (Vector Tern 24)
  | 0, _, _ => none
  | m8 + 1, b6, f7 => (bif (decide (f7 < 24)) then (chk 24 f7).bind fun j9 => (F62 (Vector.get b6 j9)).bind fun x10 => (chk 24 f7).bind fun j11 => (F37_l1 m8) (Vector.set b6 j11.1 x10 j11.2) (IntKind.i64.wrap (f7 + 1)) else some b6)
def F37 (r1 : (Vector Tern 24)) : Option (Vector Tern 24) :=
  F37_l1 (((24 : Int) - 0).toNat + 1) r1 0
theorem c37 (r1 : (Vector Tern 24)) (r : (Vector Tern 24)) (h : F37 r1 = some r) : PCon Tryz.prog 37 [rd (karr 24 kTern) r1] (rd (karr 24 kTern) r) := by
  refine PCon.of (Con.intro0 Tryz.func37 rfl Tryz.ntmps37 rfl fun w H => ?_)
  unfold F37 at h
  refine AW.seq ?_
  refine AW.region ?_
  refine AOps.consT rfl (op_box 2 rfl rfl (vt rfl)) ?_
  rintro _ ⟨g2, rfl⟩
  refine AOps.consT rfl (op_alloc 3 rfl rfl zr44) ?_
  rintro _ ⟨g3, rfl⟩
  refine AOps.nil ?_
  refine AW.seq ?_
  refine AW.seq ?_
  refine AW.region ?_
  refine AOps.cons (op_assign (A := rd (kint .i64) 0) rfl rfl (vk rfl)) rfl ?_
  refine AOps.nil ?_
  refine AW.block ?_
  refine AW.loopG (d := []) (ν := Nat × (Vector Tern 24) × Int) (fun n => True ∧ F37_l1 n.1 n.2.1 n.2.2 = some r) (fun n => n.1) (fun n => [(1, ptrL g2 (Lens.id (karr 24 kTern))), (2, ptrL g3 (Lens.id (karr 24 kTern))), (3, rd (kint .i64) n.2.2)]) (fun n => [(2, Blk g2 44 (karr 24 kTern) n.2.1), (3, Blk g3 44 (karr 24 kTern) (Vector.replicate 24 zTern))]) ((((24 : Int) - 0).toNat + 1), r1, 0) ⟨trivial, h⟩ ⟨rfl, ⟨rfl, rfl, rfl, trivial⟩, ⟨rfl, rfl, trivial⟩⟩ ?_
  rintro ⟨m8, b6, f7⟩ ⟨hsf1, h⟩
  change True at hsf1
  change F37_l1 m8 b6 f7 = some r at h
  change AW _ _ _ ⟨slots [(1, ptrL g2 (Lens.id (karr 24 kTern))), (2, ptrL g3 (Lens.id (karr 24 kTern))), (3, rd (kint .i64) f7)], ress [(2, Blk g2 44 (karr 24 kTern) b6), (3, Blk g3 44 (karr 24 kTern) (Vector.replicate 24 zTern))], _⟩
  cases m8 with
  | zero => cases h
  | succ m8 =>
    unfold F37_l1 at h
    generalize hgo1 : F37_l1 m8 = go1 at h
    refine AW.seq ?_
    refine AW.seq ?_
    refine AW.region ?_
    refine AOps.cons (op_move (A := rd (kint .i64) f7) rfl rfl (vt rfl)) rfl ?_
    refine AOps.cons (op_lss rfl rfl (vt rfl) (vk rfl)) rfl ?_
    refine AOps.nil ?_
    refine AW.cond (vt rfl) (fun hc => ?_) (fun hc => ?_)
    · have h := cond_t hc h
      refine AW.skip ?_
      refine AW.seq ?_
      refine AW.block ?_
      obtain ⟨j9, hj9, h⟩ := bsome h
      obtain ⟨x10, hx10, h⟩ := bsome h
      obtain ⟨j11, hj11, h⟩ := bsome h
      refine AW.region ?_
      refine AOps.cons (op_move (A := rd (kint .i64) f7) rfl rfl (vt rfl)) rfl ?_
      refine AOps.cons (op_move (A := rd (kint .i64) f7) rfl rfl (vt rfl)) rfl ?_
      refine AOps.cons (op_index' rfl rfl ar44 (vt rfl) (vt rfl) hj9) rfl ?_
      refine AOps.cons (op_load rfl rfl ty42 (vt rfl) (i := 2) rfl) rfl ?_
      refine AOps.cons (op_call (xs := [.tmp 11]) (c62 _ _ hx10) (Ent.mk Tryz.func62 rfl rfl) rfl rfl ⟨vt rfl, trivial⟩) rfl ?_
      refine AOps.cons (op_index' rfl rfl ar44 (vt rfl) (vt rfl) hj11) rfl ?_
      refine AOps.cons (op_store rfl rfl ty42 (vt rfl) (i := 2) rfl (vt rfl)) rfl ?_
      refine AOps.nil ?_
      refine AW.region ?_
      refine AOps.cons (op_move (A := rd (kint .i64) f7) rfl rfl (vt rfl)) rfl ?_
      refine AOps.cons (op_add rfl rfl (vt rfl) (vk rfl)) rfl ?_
      refine AOps.cons (op_assign (A := rd (kint .i64) (IntKind.i64.wrap (f7 + 1))) rfl rfl (vt rfl)) rfl ?_
      refine AOps.nil ?_
      subst hgo1
      exact ⟨(m8, (Vector.set b6 j11.1 x10 j11.2), (IntKind.i64.wrap (f7 + 1))), Nat.lt_succ_self _, ⟨trivial, h⟩, ⟨rfl, ⟨rfl, rfl, rfl, trivial⟩, ⟨rfl, rfl, trivial⟩⟩⟩
    · have h := cond_f hc h
      refine AW.exit ?_
      refine AW.seq ?_
      refine AW.region ?_
      refine AOps.cons (op_load rfl rfl ty44 (vt rfl) (i := 2) rfl) rfl ?_
      refine AOps.cons (op_store rfl rfl ty44 (vt rfl) (i := 3) rfl (vt rfl)) rfl ?_
      refine AOps.nil ?_
      refine AW.ret ?_
      obtain rfl := Option.some.inj h
      exact ret1 Tryz.results37 rfl (out_cell rfl (i := 3) rfl ty44)
-- weirbox/weirboxref02.Less
def F76 (a1 : Wide) (b2 : Wide) : Option Wide :=
  some (⟨(a1.Hi &&& ~~~b2.Hi), (a1.Lo &&& ~~~b2.Lo)⟩ : Wide)
theorem c76 (a1 : Wide) (b2 : Wide) (r : Wide) (h : F76 a1 b2 = some r) : PCon Tryz.prog 76 [rd kWide a1, rd kWide b2] (rd kWide r) := by
  refine PCon.of (Con.intro0 Tryz.func76 rfl Tryz.ntmps76 rfl fun w H => ?_)
  unfold F76 at h
  refine AW.seq ?_
  refine AW.region ?_
  refine AOps.consT rfl (op_box 3 rfl rfl (vt rfl)) ?_
  rintro _ ⟨g3, rfl⟩
  refine AOps.consT rfl (op_box 4 rfl rfl (vt rfl)) ?_
  rintro _ ⟨g4, rfl⟩
  refine AOps.consT rfl (op_alloc 5 rfl rfl zr29) ?_
  rintro _ ⟨g5, rfl⟩
  refine AOps.nil ?_
  refine AW.seq ?_
  refine AW.region ?_
  refine AOps.cons (op_field lWide_0 rfl rfl fl29_0 (vt rfl)) rfl ?_
  refine AOps.cons (op_load rfl rfl ty27 (vt rfl) (i := 3) rfl) rfl ?_
  refine AOps.cons (op_field lWide_0 rfl rfl fl29_0 (vt rfl)) rfl ?_
  refine AOps.cons (op_load rfl rfl ty27 (vt rfl) (i := 4) rfl) rfl ?_
  refine AOps.cons (op_andNot rfl rfl (vt rfl) (vt rfl)) rfl ?_
  refine AOps.cons (op_field lWide_1 rfl rfl fl29_1 (vt rfl)) rfl ?_
  refine AOps.cons (op_load rfl rfl ty27 (vt rfl) (i := 3) rfl) rfl ?_
  refine AOps.cons (op_field lWide_1 rfl rfl fl29_1 (vt rfl)) rfl ?_
  refine AOps.cons (op_load rfl rfl ty27 (vt rfl) (i := 4) rfl) rfl ?_
  refine AOps.cons (op_andNot rfl rfl (vt rfl) (vt rfl)) rfl ?_
  refine AOps.cons (op_build (ps := [(0, .tmp 9), (1, .tmp 14)]) (x := (⟨(a1.Hi &&& ~~~b2.Hi), (a1.Lo &&& ~~~b2.Lo)⟩ : Wide)) rfl rfl rfl (by kernel_rfl) zr29 ⟨_, _, lWide_0, _, by kernel_rfl, (vt rfl), _, _, lWide_1, _, by kernel_rfl, (vt rfl), rfl⟩) rfl ?_
  refine AOps.cons (op_store rfl rfl ty29 (vt rfl) (i := 5) rfl (vt rfl)) rfl ?_
  refine AOps.nil ?_
  refine AW.ret ?_
  obtain rfl := Option.some.inj h
  exact ret1 Tryz.results76 rfl (out_cell rfl (i := 5) rfl ty29)
-- weirbox/weirboxref09.Then
def F111_l1 (x7 : (Vector Tern 24)) : Nat → (Vector Tern 24) → Int → Option (Vector Tern 24)
  | 0, _, _ => none
  | m12 + 1, b10, f11 => (bif (decide (f11 < 24)) then (chk 24 f11).bind fun j13 => (chk 24 f11).bind fun j14 => (F76 ((Vector.get b10 j13).Value) ((Vector.get x7 j14).Mask)).bind fun x15 => (chk 24 f11).bind fun j16 => (F75 x15 ((Vector.get x7 j16).Value)).bind fun x17 => (chk 24 f11).bind fun j18 => (chk 24 f11).bind fun j19 => (F75 ((Vector.get b10 j18).Mask) ((Vector.get x7 j19).Mask)).bind fun x20 => (chk 24 f11).bind fun j21 => (F111_l1 x7 m12) (Vector.set b10 j21.1 (⟨x17, x20⟩ : Tern) j21.2) (IntKind.i64.wrap (f11 + 1)) else some b10)
def F111 (a1 : (Vector Tern 24)) (b2 : (Vector Tern 24)) : Option (Vector Tern 24) :=
  (F37 a1).bind fun x6 => (F37 b2).bind fun x7 => F111_l1 x7 (((24 : Int) - 0).toNat + 1) x6 0
theorem c111 (a1 : (Vector Tern 24)) (b2 : (Vector Tern 24)) (r : (Vector Tern 24)) (h : F111 a1 b2 = some r) : PCon Tryz.prog 111 [rd (karr 24 kTern) a1, rd (karr 24 kTern) b2] (rd (karr 24 kTern) r) := by
  refine PCon.of (Con.intro0 Tryz.func111 rfl Tryz.ntmps111 rfl fun w H => ?_)
  unfold F111 at h
  refine AW.seq ?_
  refine AW.region ?_
  refine AOps.consT rfl (op_box 3 rfl rfl (vt rfl)) ?_
  rintro _ ⟨g3, rfl⟩
  refine AOps.consT rfl (op_box 4 rfl rfl (vt rfl)) ?_
  rintro _ ⟨g4, rfl⟩
  refine AOps.consT rfl (op_alloc 5 rfl rfl zr44) ?_
  rintro _ ⟨g5, rfl⟩
  refine AOps.nil ?_
  refine AW.seq ?_
  obtain ⟨x6, hx6, h⟩ := bsome h
  obtain ⟨x7, hx7, h⟩ := bsome h
  refine AW.regionAny [⟨[2], [6], [3], []⟩, ⟨[6], [7], [], []⟩, ⟨[3], [8], [4], []⟩, ⟨[8], [9], [], []⟩, ⟨[2, 7], [], [3], [3]⟩, ⟨[3, 9], [], [4], [4]⟩] mixed (by kernel_rfl) ?_
  refine SeqA.cons (loc [2] [3] rfl rfl fun S hs hr => op_load rfl rfl ty44 (vt ((hs 2 rfl).trans rfl)) (i := 3) ((hr 3 rfl).trans rfl)) ⟨rfl, rfl, rfl, rfl⟩ ?_
  refine SeqA.cons (loc [6] [] rfl rfl fun S hs hr => op_call (xs := [.tmp 6]) (c37 _ _ hx6) (Ent.mk Tryz.func37 rfl rfl) rfl rfl ⟨vt ((hs 6 rfl).trans rfl), trivial⟩) ⟨rfl, rfl, rfl, rfl⟩ ?_
  refine SeqA.cons (loc [3] [4] rfl rfl fun S hs hr => op_load rfl rfl ty44 (vt ((hs 3 rfl).trans rfl)) (i := 4) ((hr 4 rfl).trans rfl)) ⟨rfl, rfl, rfl, rfl⟩ ?_
  refine SeqA.cons (loc [8] [] rfl rfl fun S hs hr => op_call (xs := [.tmp 8]) (c37 _ _ hx7) (Ent.mk Tryz.func37 rfl rfl) rfl rfl ⟨vt ((hs 8 rfl).trans rfl), trivial⟩) ⟨rfl, rfl, rfl, rfl⟩ ?_
  refine SeqA.cons (locr [2, 7] [3] rfl fun S hs hr => op_store rfl rfl ty44 (vt ((hs 2 rfl).trans rfl)) (i := 3) ((hr 3 rfl).trans rfl) (vt ((hs 7 rfl).trans rfl))) ⟨rfl, rfl, rfl, rfl⟩ ?_
  refine SeqA.cons (locr [3, 9] [4] rfl fun S hs hr => op_store rfl rfl ty44 (vt ((hs 3 rfl).trans rfl)) (i := 4) ((hr 4 rfl).trans rfl) (vt ((hs 9 rfl).trans rfl))) ⟨rfl, rfl, rfl, rfl⟩ ?_
  refine AW.seq ?_
  refine AW.seq ?_
  refine AW.region ?_
  refine AOps.cons (op_assign (A := rd (kint .i64) 0) rfl rfl (vk rfl)) rfl ?_
  refine AOps.nil ?_
  refine AW.block ?_
  refine AW.loopG (d := []) (ν := Nat × (Vector Tern 24) × Int) (fun n => True ∧ F111_l1 x7 n.1 n.2.1 n.2.2 = some r) (fun n => n.1) (fun n => [(2, ptrL g3 (Lens.id (karr 24 kTern))), (3, ptrL g4 (Lens.id (karr 24 kTern))), (4, ptrL g5 (Lens.id (karr 24 kTern))), (5, rd (kint .i64) n.2.2)]) (fun n => [(3, Blk g3 44 (karr 24 kTern) n.2.1), (4, Blk g4 44 (karr 24 kTern) x7), (5, Blk g5 44 (karr 24 kTern) (Vector.replicate 24 zTern))]) ((((24 : Int) - 0).toNat + 1), x6, 0) ⟨trivial, h⟩ ⟨rfl, ⟨rfl, rfl, rfl, rfl, trivial⟩, ⟨rfl, rfl, rfl, trivial⟩⟩ ?_
  rintro ⟨m12, b10, f11⟩ ⟨hsf1, h⟩
  change True at hsf1
  change F111_l1 x7 m12 b10 f11 = some r at h
  change AW _ _ _ ⟨slots [(2, ptrL g3 (Lens.id (karr 24 kTern))), (3, ptrL g4 (Lens.id (karr 24 kTern))), (4, ptrL g5 (Lens.id (karr 24 kTern))), (5, rd (kint .i64) f11)], ress [(3, Blk g3 44 (karr 24 kTern) b10), (4, Blk g4 44 (karr 24 kTern) x7), (5, Blk g5 44 (karr 24 kTern) (Vector.replicate 24 zTern))], _⟩
  cases m12 with
  | zero => cases h
  | succ m12 =>
    unfold F111_l1 at h
    generalize hgo1 : F111_l1 x7 m12 = go1 at h
    refine AW.seq ?_
    refine AW.seq ?_
    refine AW.region ?_
    refine AOps.cons (op_move (A := rd (kint .i64) f11) rfl rfl (vt rfl)) rfl ?_
    refine AOps.cons (op_lss rfl rfl (vt rfl) (vk rfl)) rfl ?_
    refine AOps.nil ?_
    refine AW.cond (vt rfl) (fun hc => ?_) (fun hc => ?_)
    · have h := cond_t hc h
      refine AW.skip ?_
      refine AW.seq ?_
      refine AW.block ?_
      obtain ⟨j13, hj13, h⟩ := bsome h
      obtain ⟨j14, hj14, h⟩ := bsome h
      obtain ⟨x15, hx15, h⟩ := bsome h
      obtain ⟨j16, hj16, h⟩ := bsome h
      obtain ⟨x17, hx17, h⟩ := bsome h
      obtain ⟨j18, hj18, h⟩ := bsome h
      obtain ⟨j19, hj19, h⟩ := bsome h
      obtain ⟨x20, hx20, h⟩ := bsome h
      obtain ⟨j21, hj21, h⟩ := bsome h
      refine AW.regionAny [⟨[5], [14], [], []⟩, ⟨[5], [15], [], []⟩, ⟨[2, 15], [16], [], []⟩, ⟨[16], [17], [], []⟩, ⟨[17], [18], [3], []⟩, ⟨[5], [19], [], []⟩, ⟨[3, 19], [20], [], []⟩, ⟨[20], [21], [], []⟩, ⟨[21], [22], [4], []⟩, ⟨[18, 22], [23], [], []⟩, ⟨[5], [24], [], []⟩, ⟨[3, 24], [25], [], []⟩, ⟨[25], [26], [], []⟩, ⟨[26], [27], [4], []⟩, ⟨[23, 27], [28], [], []⟩, ⟨[5], [29], [], []⟩, ⟨[2, 29], [30], [], []⟩, ⟨[30], [31], [], []⟩, ⟨[31], [32], [3], []⟩, ⟨[5], [33], [], []⟩, ⟨[3, 33], [34], [], []⟩, ⟨[34], [35], [], []⟩, ⟨[35], [36], [4], []⟩, ⟨[32, 36], [37], [], []⟩, ⟨[28, 37], [38], [], []⟩, ⟨[2, 14], [39], [], []⟩, ⟨[39, 38], [], [3], [3]⟩] mixed (by kernel_rfl) ?_
      refine SeqA.cons (loc [5] [] rfl rfl fun S hs hr => op_move (A := rd (kint .i64) f11) rfl rfl (vt ((hs 5 rfl).trans rfl))) ⟨rfl, rfl, rfl, rfl⟩ ?_
      refine SeqA.cons (loc [5] [] rfl rfl fun S hs hr => op_move (A := rd (kint .i64) f11) rfl rfl (vt ((hs 5 rfl).trans rfl))) ⟨rfl, rfl, rfl, rfl⟩ ?_
      refine SeqA.cons (loc [2, 15] [] rfl rfl fun S hs hr => op_index' rfl rfl ar44 (vt ((hs 2 rfl).trans rfl)) (vt ((hs 15 rfl).trans rfl)) hj13) ⟨rfl, rfl, rfl, rfl⟩ ?_
      refine SeqA.cons (loc [16] [] rfl rfl fun S hs hr => op_field lTern_0 rfl rfl fl42_0 (vt ((hs 16 rfl).trans rfl))) ⟨rfl, rfl, rfl, rfl⟩ ?_
      refine SeqA.cons (loc [17] [3] rfl rfl fun S hs hr => op_load rfl rfl ty29 (vt ((hs 17 rfl).trans rfl)) (i := 3) ((hr 3 rfl).trans rfl)) ⟨rfl, rfl, rfl, rfl⟩ ?_
      refine SeqA.cons (loc [5] [] rfl rfl fun S hs hr => op_move (A := rd (kint .i64) f11) rfl rfl (vt ((hs 5 rfl).trans rfl))) ⟨rfl, rfl, rfl, rfl⟩ ?_
      refine SeqA.cons (loc [3, 19] [] rfl rfl fun S hs hr => op_index' rfl rfl ar44 (vt ((hs 3 rfl).trans rfl)) (vt ((hs 19 rfl).trans rfl)) hj14) ⟨rfl, rfl, rfl, rfl⟩ ?_
      refine SeqA.cons (loc [20] [] rfl rfl fun S hs hr => op_field lTern_1 rfl rfl fl42_1 (vt ((hs 20 rfl).trans rfl))) ⟨rfl, rfl, rfl, rfl⟩ ?_
      refine SeqA.cons (loc [21] [4] rfl rfl fun S hs hr => op_load rfl rfl ty29 (vt ((hs 21 rfl).trans rfl)) (i := 4) ((hr 4 rfl).trans rfl)) ⟨rfl, rfl, rfl, rfl⟩ ?_
      refine SeqA.cons (loc [18, 22] [] rfl rfl fun S hs hr => op_call (xs := [.tmp 18, .tmp 22]) (c76 _ _ _ hx15) (Ent.mk Tryz.func76 rfl rfl) rfl rfl ⟨vt ((hs 18 rfl).trans rfl), vt ((hs 22 rfl).trans rfl), trivial⟩) ⟨rfl, rfl, rfl, rfl⟩ ?_
      refine SeqA.cons (loc [5] [] rfl rfl fun S hs hr => op_move (A := rd (kint .i64) f11) rfl rfl (vt ((hs 5 rfl).trans rfl))) ⟨rfl, rfl, rfl, rfl⟩ ?_
      refine SeqA.cons (loc [3, 24] [] rfl rfl fun S hs hr => op_index' rfl rfl ar44 (vt ((hs 3 rfl).trans rfl)) (vt ((hs 24 rfl).trans rfl)) hj16) ⟨rfl, rfl, rfl, rfl⟩ ?_
      refine SeqA.cons (loc [25] [] rfl rfl fun S hs hr => op_field lTern_0 rfl rfl fl42_0 (vt ((hs 25 rfl).trans rfl))) ⟨rfl, rfl, rfl, rfl⟩ ?_
      refine SeqA.cons (loc [26] [4] rfl rfl fun S hs hr => op_load rfl rfl ty29 (vt ((hs 26 rfl).trans rfl)) (i := 4) ((hr 4 rfl).trans rfl)) ⟨rfl, rfl, rfl, rfl⟩ ?_
      refine SeqA.cons (loc [23, 27] [] rfl rfl fun S hs hr => op_call (xs := [.tmp 23, .tmp 27]) (c75 _ _ _ hx17) (Ent.mk Tryz.func75 rfl rfl) rfl rfl ⟨vt ((hs 23 rfl).trans rfl), vt ((hs 27 rfl).trans rfl), trivial⟩) ⟨rfl, rfl, rfl, rfl⟩ ?_
      refine SeqA.cons (loc [5] [] rfl rfl fun S hs hr => op_move (A := rd (kint .i64) f11) rfl rfl (vt ((hs 5 rfl).trans rfl))) ⟨rfl, rfl, rfl, rfl⟩ ?_
      refine SeqA.cons (loc [2, 29] [] rfl rfl fun S hs hr => op_index' rfl rfl ar44 (vt ((hs 2 rfl).trans rfl)) (vt ((hs 29 rfl).trans rfl)) hj18) ⟨rfl, rfl, rfl, rfl⟩ ?_
      refine SeqA.cons (loc [30] [] rfl rfl fun S hs hr => op_field lTern_1 rfl rfl fl42_1 (vt ((hs 30 rfl).trans rfl))) ⟨rfl, rfl, rfl, rfl⟩ ?_
      refine SeqA.cons (loc [31] [3] rfl rfl fun S hs hr => op_load rfl rfl ty29 (vt ((hs 31 rfl).trans rfl)) (i := 3) ((hr 3 rfl).trans rfl)) ⟨rfl, rfl, rfl, rfl⟩ ?_
      refine SeqA.cons (loc [5] [] rfl rfl fun S hs hr => op_move (A := rd (kint .i64) f11) rfl rfl (vt ((hs 5 rfl).trans rfl))) ⟨rfl, rfl, rfl, rfl⟩ ?_
      refine SeqA.cons (loc [3, 33] [] rfl rfl fun S hs hr => op_index' rfl rfl ar44 (vt ((hs 3 rfl).trans rfl)) (vt ((hs 33 rfl).trans rfl)) hj19) ⟨rfl, rfl, rfl, rfl⟩ ?_
      refine SeqA.cons (loc [34] [] rfl rfl fun S hs hr => op_field lTern_1 rfl rfl fl42_1 (vt ((hs 34 rfl).trans rfl))) ⟨rfl, rfl, rfl, rfl⟩ ?_
      refine SeqA.cons (loc [35] [4] rfl rfl fun S hs hr => op_load rfl rfl ty29 (vt ((hs 35 rfl).trans rfl)) (i := 4) ((hr 4 rfl).trans rfl)) ⟨rfl, rfl, rfl, rfl⟩ ?_
      refine SeqA.cons (loc [32, 36] [] rfl rfl fun S hs hr => op_call (xs := [.tmp 32, .tmp 36]) (c75 _ _ _ hx20) (Ent.mk Tryz.func75 rfl rfl) rfl rfl ⟨vt ((hs 32 rfl).trans rfl), vt ((hs 36 rfl).trans rfl), trivial⟩) ⟨rfl, rfl, rfl, rfl⟩ ?_
      refine SeqA.cons (loc [28, 37] [] rfl rfl fun S hs hr => op_build (ps := [(0, .tmp 28), (1, .tmp 37)]) (x := (⟨x17, x20⟩ : Tern)) rfl rfl rfl (by kernel_rfl) zr42 ⟨_, _, lTern_0, _, by kernel_rfl, (vt ((hs 28 rfl).trans rfl)), _, _, lTern_1, _, by kernel_rfl, (vt ((hs 37 rfl).trans rfl)), rfl⟩) ⟨rfl, rfl, rfl, rfl⟩ ?_
      refine SeqA.cons (loc [2, 14] [] rfl rfl fun S hs hr => op_index' rfl rfl ar44 (vt ((hs 2 rfl).trans rfl)) (vt ((hs 14 rfl).trans rfl)) hj21) ⟨rfl, rfl, rfl, rfl⟩ ?_
      refine SeqA.cons (locr [39, 38] [3] rfl fun S hs hr => op_store rfl rfl ty42 (vt ((hs 39 rfl).trans rfl)) (i := 3) ((hr 3 rfl).trans rfl) (vt ((hs 38 rfl).trans rfl))) ⟨rfl, rfl, rfl, rfl⟩ ?_
      refine AW.region ?_
      refine AOps.cons (op_move (A := rd (kint .i64) f11) rfl rfl (vt rfl)) rfl ?_
      refine AOps.cons (op_add rfl rfl (vt rfl) (vk rfl)) rfl ?_
      refine AOps.cons (op_assign (A := rd (kint .i64) (IntKind.i64.wrap (f11 + 1))) rfl rfl (vt rfl)) rfl ?_
      refine AOps.nil ?_
      subst hgo1
      exact ⟨(m12, (Vector.set b10 j21.1 (⟨x17, x20⟩ : Tern) j21.2), (IntKind.i64.wrap (f11 + 1))), Nat.lt_succ_self _, ⟨trivial, h⟩, ⟨rfl, ⟨rfl, rfl, rfl, rfl, trivial⟩, ⟨rfl, rfl, rfl, trivial⟩⟩⟩
    · have h := cond_f hc h
      refine AW.exit ?_
      refine AW.seq ?_
      refine AW.region ?_
      refine AOps.cons (op_load rfl rfl ty44 (vt rfl) (i := 3) rfl) rfl ?_
      refine AOps.cons (op_store rfl rfl ty44 (vt rfl) (i := 5) rfl (vt rfl)) rfl ?_
      refine AOps.nil ?_
      refine AW.ret ?_
      obtain rfl := Option.some.inj h
      exact ret1 Tryz.results111 rfl (out_cell rfl (i := 5) rfl ty44)
-- weirbox/weirboxref09.Set
def F83_j1 (r1 : (Vector Tern 24)) (b10 : (Vector Tern 24)) : Option (Vector Tern 24) :=
  (F111 r1 b10).bind fun x11 => some x11
def F83 (r1 : (Vector Tern 24)) (f2 : Int) (value3 : Wide) (mask4 : Wide) : Option (Vector Tern 24) :=
  (F118 f2).bind fun x12 => (bif x12 then (chk 24 f2).bind fun j13 => F83_j1 r1 (Vector.set (Vector.replicate 24 zTern) j13.1 (⟨value3, mask4⟩ : Tern) j13.2) else F83_j1 r1 (Vector.replicate 24 zTern))
theorem c83 (r1 : (Vector Tern 24)) (f2 : Int) (value3 : Wide) (mask4 : Wide) (r : (Vector Tern 24)) (h : F83 r1 f2 value3 mask4 = some r) : PCon Tryz.prog 83 [rd (karr 24 kTern) r1, rd (kint .i64) f2, rd kWide value3, rd kWide mask4] (rd (karr 24 kTern) r) := by
  refine PCon.of (Con.intro0 Tryz.func83 rfl Tryz.ntmps83 rfl fun w H => ?_)
  unfold F83 at h
  refine AW.seq ?_
  refine AW.region ?_
  refine AOps.consT rfl (op_box 5 rfl rfl (vt rfl)) ?_
  rintro _ ⟨g5, rfl⟩
  refine AOps.consT rfl (op_box 7 rfl rfl (vt rfl)) ?_
  rintro _ ⟨g6, rfl⟩
  refine AOps.consT rfl (op_box 8 rfl rfl (vt rfl)) ?_
  rintro _ ⟨g7, rfl⟩
  refine AOps.consT rfl (op_alloc 9 rfl rfl zr44) ?_
  rintro _ ⟨g8, rfl⟩
  refine AOps.nil ?_
  refine AW.seq ?_
  refine AW.region ?_
  refine AOps.cons (op_build (ps := []) (x := (Vector.replicate 24 zTern)) rfl rfl rfl (by kernel_rfl) zr44 rfl) rfl ?_
  refine AOps.consT rfl (op_alloc 10 rfl rfl zr44) ?_
  rintro _ ⟨g9, rfl⟩
  refine AOps.cons (op_store rfl rfl ty44 (vt rfl) (i := 10) rfl (vt rfl)) rfl ?_
  refine AOps.nil ?_
  refine AW.join (d := []) (ν := (Vector Tern 24)) (fun n => F83_j1 r1 n = some r) (fun n => [(4, ptrL g5 (Lens.id (karr 24 kTern))), (8, ptrL g8 (Lens.id (karr 24 kTern))), (9, ptrL g9 (Lens.id (karr 24 kTern)))]) (fun n => [(5, Blk g5 44 (karr 24 kTern) r1), (9, Blk g8 44 (karr 24 kTern) (Vector.replicate 24 zTern)), (10, Blk g9 44 (karr 24 kTern) n)]) ?hx ?hy
  case hy =>
    intro b10 h
    unfold F83_j1 at h
    change AW _ _ _ ⟨slots [(4, ptrL g5 (Lens.id (karr 24 kTern))), (8, ptrL g8 (Lens.id (karr 24 kTern))), (9, ptrL g9 (Lens.id (karr 24 kTern)))], ress [(5, Blk g5 44 (karr 24 kTern) r1), (9, Blk g8 44 (karr 24 kTern) (Vector.replicate 24 zTern)), (10, Blk g9 44 (karr 24 kTern) b10)], _⟩
    refine AW.seq ?_
    obtain ⟨x11, hx11, h⟩ := bsome h
    refine AW.region ?_
    refine AOps.cons (op_load rfl rfl ty44 (vt rfl) (i := 5) rfl) rfl ?_
    refine AOps.cons (op_load rfl rfl ty44 (vt rfl) (i := 10) rfl) rfl ?_
    refine AOps.cons (op_call (xs := [.tmp 18, .tmp 19]) (c111 _ _ _ hx11) (Ent.mk Tryz.func111 rfl rfl) rfl rfl ⟨vt rfl, vt rfl, trivial⟩) rfl ?_
    refine AOps.cons (op_store rfl rfl ty44 (vt rfl) (i := 9) rfl (vt rfl)) rfl ?_
    refine AOps.nil ?_
    refine AW.ret ?_
    obtain rfl := Option.some.inj h
    exact ret1 Tryz.results83 rfl (out_cell rfl (i := 9) rfl ty44)
  case hx =>
    refine AW.seq ?_
    obtain ⟨x12, hx12, h⟩ := bsome h
    refine AW.region ?_
    refine AOps.cons (op_move (A := rd (kint .i64) f2) rfl rfl (vt rfl)) rfl ?_
    refine AOps.cons (op_call (xs := [.tmp 11]) (c118 _ _ hx12) (Ent.mk Tryz.func118 rfl rfl) rfl rfl ⟨vt rfl, trivial⟩) rfl ?_
    refine AOps.nil ?_
    refine AW.cond (vt rfl) (fun hc => ?_) (fun hc => ?_)
    · have h := cond_t hc h
      obtain ⟨j13, hj13, h⟩ := bsome h
      refine AW.region ?_
      refine AOps.cons (op_move (A := rd (kint .i64) f2) rfl rfl (vt rfl)) rfl ?_
      refine AOps.cons (op_load rfl rfl ty29 (vt rfl) (i := 7) rfl) rfl ?_
      refine AOps.cons (op_load rfl rfl ty29 (vt rfl) (i := 8) rfl) rfl ?_
      refine AOps.cons (op_build (ps := [(0, .tmp 14), (1, .tmp 15)]) (x := (⟨value3, mask4⟩ : Tern)) rfl rfl rfl (by kernel_rfl) zr42 ⟨_, _, lTern_0, _, by kernel_rfl, (vt rfl), _, _, lTern_1, _, by kernel_rfl, (vt rfl), rfl⟩) rfl ?_
      refine AOps.cons (op_index' rfl rfl ar44 (vt rfl) (vt rfl) hj13) rfl ?_
      refine AOps.cons (op_store rfl rfl ty42 (vt rfl) (i := 10) rfl (vt rfl)) rfl ?_
      refine AOps.nil ?_
      exact ⟨(Vector.set (Vector.replicate 24 zTern) j13.1 (⟨value3, mask4⟩ : Tern) j13.2), h, ⟨rfl, ⟨rfl, rfl, rfl, trivial⟩, ⟨rfl, rfl, rfl, trivial⟩⟩⟩
    · have h := cond_f hc h
      refine AW.skip ?_
      exact ⟨(Vector.replicate 24 zTern), h, ⟨rfl, ⟨rfl, rfl, rfl, trivial⟩, ⟨rfl, rfl, rfl, trivial⟩⟩⟩
-- weirbox/weirboxref28.Rewrite
def F52 (a1 : Action) : Option (Vector Tern 24) :=
  (bif (decide (a1.Kind = 25)) then (F82 a1.Oxm).bind fun x4 => (F84).bind fun x6 => (F83 x6 a1.Oxm.Field x4.Value x4.Mask).bind fun x7 => some x7 else (bif (decide (a1.Kind = 17)) then (F84).bind fun x8 => (F85 12).bind fun x9 => (F85 12).bind fun x10 => (F83 x8 5 x9 x10).bind fun x11 => some x11 else (bif (decide (a1.Kind = 18)) then (F84).bind fun x12 => (F86 13).bind fun x13 => (F83 x12 5 (⟨0, 0⟩ : Wide) x13).bind fun x14 => (F86 3).bind fun x16 => (F83 x14 6 (⟨0, 0⟩ : Wide) x16).bind fun x17 => some x17 else (F84).bind fun x18 => some x18)))
theorem c52 (a1 : Action) (r : (Vector Tern 24)) (h : F52 a1 = some r) : PCon Tryz.prog 52 [rd kAction a1] (rd (karr 24 kTern) r) := by
  refine PCon.of (Con.intro0 Tryz.func52 rfl Tryz.ntmps52 rfl fun w H => ?_)
  unfold F52 at h
  refine AW.seq ?_
  refine AW.region ?_
  refine AOps.consT rfl (op_box 2 rfl rfl (vt rfl)) ?_
  rintro _ ⟨g2, rfl⟩
  refine AOps.consT rfl (op_alloc 3 rfl rfl zr44) ?_
  rintro _ ⟨g3, rfl⟩
  refine AOps.nil ?_
  refine AW.seq ?_
  refine AW.seq ?_
  refine AW.region ?_
  refine AOps.cons (op_field lAction_0 rfl rfl fl62_0 (vt rfl)) rfl ?_
  refine AOps.cons (op_load rfl rfl ty3 (vt rfl) (i := 2) rfl) rfl ?_
  refine AOps.nil ?_
  refine AW.block ?_
  refine AW.seq ?_
  refine AW.region ?_
  refine AOps.cons (op_eql rfl rfl (vt rfl) (vk rfl)) rfl ?_
  refine AOps.cons (op_assign (A := rd kbool (decide (a1.Kind = 25))) rfl rfl (vt rfl)) rfl ?_
  refine AOps.nil ?_
  refine AW.cond (vt rfl) (fun hc => ?_) (fun hc => ?_)
  · have h := cond_t hc h
    refine AW.seq ?_
    obtain ⟨x4, hx4, h⟩ := bsome h
    refine AW.region ?_
    refine AOps.cons (op_field lAction_5 rfl rfl fl62_5 (vt rfl)) rfl ?_
    refine AOps.cons (op_load rfl rfl ty60 (vt rfl) (i := 2) rfl) rfl ?_
    refine AOps.cons (op_call (xs := [.tmp 10]) (c82 _ _ hx4) (Ent.mk Tryz.func82 rfl rfl) rfl rfl ⟨vt rfl, trivial⟩) rfl ?_
    refine AOps.consT rfl (op_alloc 4 rfl rfl zr42) ?_
    rintro _ ⟨g5, rfl⟩
    refine AOps.cons (op_store rfl rfl ty42 (vt rfl) (i := 4) rfl (vt rfl)) rfl ?_
    refine AOps.nil ?_
    refine AW.seq ?_
    obtain ⟨x6, hx6, h⟩ := bsome h
    obtain ⟨x7, hx7, h⟩ := bsome h
    refine AW.regionAny [⟨[], [12], [], []⟩, ⟨[1], [13], [], []⟩, ⟨[13], [14], [], []⟩, ⟨[14], [15], [2], []⟩, ⟨[3], [16], [], []⟩, ⟨[16], [17], [4], []⟩, ⟨[3], [18], [], []⟩, ⟨[18], [19], [4], []⟩, ⟨[12, 15, 17, 19], [20], [], []⟩, ⟨[2, 20], [], [3], [3]⟩] mixed (by kernel_rfl) ?_
    refine SeqA.cons (loc [] [] rfl rfl fun S hs hr => op_call (xs := []) (c84 _ hx6) (Ent.mk Tryz.func84 rfl rfl) rfl rfl trivial) ⟨rfl, rfl, rfl, rfl⟩ ?_
    refine SeqA.cons (loc [1] [] rfl rfl fun S hs hr => op_field lAction_5 rfl rfl fl62_5 (vt ((hs 1 rfl).trans rfl))) ⟨rfl, rfl, rfl, rfl⟩ ?_
    refine SeqA.cons (loc [13] [] rfl rfl fun S hs hr => op_field lOxm_0 rfl rfl fl60_0 (vt ((hs 13 rfl).trans rfl))) ⟨rfl, rfl, rfl, rfl⟩ ?_
    refine SeqA.cons (loc [14] [2] rfl rfl fun S hs hr => op_load rfl rfl ty3 (vt ((hs 14 rfl).trans rfl)) (i := 2) ((hr 2 rfl).trans rfl)) ⟨rfl, rfl, rfl, rfl⟩ ?_
    refine SeqA.cons (loc [3] [] rfl rfl fun S hs hr => op_field lTern_0 rfl rfl fl42_0 (vt ((hs 3 rfl).trans rfl))) ⟨rfl, rfl, rfl, rfl⟩ ?_
    refine SeqA.cons (loc [16] [4] rfl rfl fun S hs hr => op_load rfl rfl ty29 (vt ((hs 16 rfl).trans rfl)) (i := 4) ((hr 4 rfl).trans rfl)) ⟨rfl, rfl, rfl, rfl⟩ ?_
    refine SeqA.cons (loc [3] [] rfl rfl fun S hs hr => op_field lTern_1 rfl rfl fl42_1 (vt ((hs 3 rfl).trans rfl))) ⟨rfl, rfl, rfl, rfl⟩ ?_
    refine SeqA.cons (loc [18] [4] rfl rfl fun S hs hr => op_load rfl rfl ty29 (vt ((hs 18 rfl).trans rfl)) (i := 4) ((hr 4 rfl).trans rfl)) ⟨rfl, rfl, rfl, rfl⟩ ?_
    refine SeqA.cons (loc [12, 15, 17, 19] [] rfl rfl fun S hs hr => op_call (xs := [.tmp 12, .tmp 15, .tmp 17, .tmp 19]) (c83 _ _ _ _ _ hx7) (Ent.mk Tryz.func83 rfl rfl) rfl rfl ⟨vt ((hs 12 rfl).trans rfl), vt ((hs 15 rfl).trans rfl), vt ((hs 17 rfl).trans rfl), vt ((hs 19 rfl).trans rfl), trivial⟩) ⟨rfl, rfl, rfl, rfl⟩ ?_
    refine SeqA.cons (locr [2, 20] [3] rfl fun S hs hr => op_store rfl rfl ty44 (vt ((hs 2 rfl).trans rfl)) (i := 3) ((hr 3 rfl).trans rfl) (vt ((hs 20 rfl).trans rfl))) ⟨rfl, rfl, rfl, rfl⟩ ?_
    refine AW.ret ?_
    obtain rfl := Option.some.inj h
    exact ret1 Tryz.results52 rfl (out_cell rfl (i := 3) rfl ty44)
  · have h := cond_f hc h
    refine AW.seq ?_
    refine AW.region ?_
    refine AOps.cons (op_eql rfl rfl (vt rfl) (vk rfl)) rfl ?_
    refine AOps.cons (op_assign (A := rd kbool (decide (a1.Kind = 17))) rfl rfl (vt rfl)) rfl ?_
    refine AOps.nil ?_
    refine AW.cond (vt rfl) (fun hc => ?_) (fun hc => ?_)
    · have h := cond_t hc h
      refine AW.seq ?_
      obtain ⟨x8, hx8, h⟩ := bsome h
      obtain ⟨x9, hx9, h⟩ := bsome h
      obtain ⟨x10, hx10, h⟩ := bsome h
      obtain ⟨x11, hx11, h⟩ := bsome h
      refine AW.region ?_
      refine AOps.cons (op_call (xs := []) (c84 _ hx8) (Ent.mk Tryz.func84 rfl rfl) rfl rfl trivial) rfl ?_
      refine AOps.cons (op_call (xs := [.const (Value.int IntKind.i64 12)]) (c85 _ _ hx9) (Ent.mk Tryz.func85 rfl rfl) rfl rfl ⟨vk rfl, trivial⟩) rfl ?_
      refine AOps.cons (op_call (xs := [.const (Value.int IntKind.i64 12)]) (c85 _ _ hx10) (Ent.mk Tryz.func85 rfl rfl) rfl rfl ⟨vk rfl, trivial⟩) rfl ?_
      refine AOps.cons (op_call (xs := [.tmp 23, .const (Value.int IntKind.i64 5), .tmp 24, .tmp 25]) (c83 _ _ _ _ _ hx11) (Ent.mk Tryz.func83 rfl rfl) rfl rfl ⟨vt rfl, vk rfl, vt rfl, vt rfl, trivial⟩) rfl ?_
      refine AOps.cons (op_store rfl rfl ty44 (vt rfl) (i := 3) rfl (vt rfl)) rfl ?_
      refine AOps.nil ?_
      refine AW.ret ?_
      obtain rfl := Option.some.inj h
      exact ret1 Tryz.results52 rfl (out_cell rfl (i := 3) rfl ty44)
    · have h := cond_f hc h
      refine AW.seq ?_
      refine AW.region ?_
      refine AOps.cons (op_eql rfl rfl (vt rfl) (vk rfl)) rfl ?_
      refine AOps.cons (op_assign (A := rd kbool (decide (a1.Kind = 18))) rfl rfl (vt rfl)) rfl ?_
      refine AOps.nil ?_
      refine AW.cond (vt rfl) (fun hc => ?_) (fun hc => ?_)
      · have h := cond_t hc h
        refine AW.seq ?_
        obtain ⟨x12, hx12, h⟩ := bsome h
        obtain ⟨x13, hx13, h⟩ := bsome h
        obtain ⟨x14, hx14, h⟩ := bsome h
        refine AW.region ?_
        refine AOps.cons (op_call (xs := []) (c84 _ hx12) (Ent.mk Tryz.func84 rfl rfl) rfl rfl trivial) rfl ?_
        refine AOps.cons (op_build (ps := []) (x := (⟨0, 0⟩ : Wide)) rfl rfl rfl (by kernel_rfl) zr29 rfl) rfl ?_
        refine AOps.cons (op_call (xs := [.const (Value.int IntKind.i64 13)]) (c86 _ _ hx13) (Ent.mk Tryz.func86 rfl rfl) rfl rfl ⟨vk rfl, trivial⟩) rfl ?_
        refine AOps.cons (op_call (xs := [.tmp 29, .const (Value.int IntKind.i64 5), .tmp 30, .tmp 31]) (c83 _ _ _ _ _ hx14) (Ent.mk Tryz.func83 rfl rfl) rfl rfl ⟨vt rfl, vk rfl, vt rfl, vt rfl, trivial⟩) rfl ?_
        refine AOps.consT rfl (op_alloc 5 rfl rfl zr44) ?_
        rintro _ ⟨g15, rfl⟩
        refine AOps.cons (op_store rfl rfl ty44 (vt rfl) (i := 5) rfl (vt rfl)) rfl ?_
        refine AOps.nil ?_
        refine AW.seq ?_
        obtain ⟨x16, hx16, h⟩ := bsome h
        obtain ⟨x17, hx17, h⟩ := bsome h
        refine AW.regionAny [⟨[4], [33], [5], []⟩, ⟨[], [34], [], []⟩, ⟨[], [35], [], []⟩, ⟨[33, 34, 35], [36], [], []⟩, ⟨[2, 36], [], [3], [3]⟩] mixed (by kernel_rfl) ?_
        refine SeqA.cons (loc [4] [5] rfl rfl fun S hs hr => op_load rfl rfl ty44 (vt ((hs 4 rfl).trans rfl)) (i := 5) ((hr 5 rfl).trans rfl)) ⟨rfl, rfl, rfl, rfl⟩ ?_
        refine SeqA.cons (loc [] [] rfl rfl fun S hs hr => op_build (ps := []) (x := (⟨0, 0⟩ : Wide)) rfl rfl rfl (by kernel_rfl) zr29 rfl) ⟨rfl, rfl, rfl, rfl⟩ ?_
        refine SeqA.cons (loc [] [] rfl rfl fun S hs hr => op_call (xs := [.const (Value.int IntKind.i64 3)]) (c86 _ _ hx16) (Ent.mk Tryz.func86 rfl rfl) rfl rfl ⟨vk rfl, trivial⟩) ⟨rfl, rfl, rfl, rfl⟩ ?_
        refine SeqA.cons (loc [33, 34, 35] [] rfl rfl fun S hs hr => op_call (xs := [.tmp 33, .const (Value.int IntKind.i64 6), .tmp 34, .tmp 35]) (c83 _ _ _ _ _ hx17) (Ent.mk Tryz.func83 rfl rfl) rfl rfl ⟨vt ((hs 33 rfl).trans rfl), vk rfl, vt ((hs 34 rfl).trans rfl), vt ((hs 35 rfl).trans rfl), trivial⟩) ⟨rfl, rfl, rfl, rfl⟩ ?_
        refine SeqA.cons (locr [2, 36] [3] rfl fun S hs hr => op_store rfl rfl ty44 (vt ((hs 2 rfl).trans rfl)) (i := 3) ((hr 3 rfl).trans rfl) (vt ((hs 36 rfl).trans rfl))) ⟨rfl, rfl, rfl, rfl⟩ ?_
        refine AW.ret ?_
        obtain rfl := Option.some.inj h
        exact ret1 Tryz.results52 rfl (out_cell rfl (i := 3) rfl ty44)
      · have h := cond_f hc h
        refine AW.skip ?_
        refine AW.seq ?_
        obtain ⟨x18, hx18, h⟩ := bsome h
        refine AW.region ?_
        refine AOps.cons (op_call (xs := []) (c84 _ hx18) (Ent.mk Tryz.func84 rfl rfl) rfl rfl trivial) rfl ?_
        refine AOps.cons (op_store rfl rfl ty44 (vt rfl) (i := 3) rfl (vt rfl)) rfl ?_
        refine AOps.nil ?_
        refine AW.ret ?_
        obtain rfl := Option.some.inj h
        exact ret1 Tryz.results52 rfl (out_cell rfl (i := 3) rfl ty44)
end Go.Proofs.YtokmmcflinnfiaaGreat.W
