/- GzF7: a part of the proof. -/
import Derived.Test.YtokmmcflinnfiaaGreatGzF6
set_option linter.unusedVariables false
set_option maxRecDepth 4000
set_option linter.unusedSimpArgs false
namespace Go.Proofs.YtokmmcflinnfiaaGreat.W
open Go Go.Wb
-- weirbox/wide.Bit
def F80 (i1 : Int) : Option Wide :=
  (bif ((decide (i1 < 0)) || (decide (i1 > 127))) then some (⟨0, 0⟩ : Wide) else (oquo .i64 i1 64).bind fun q4 => (omod i1 64).bind fun q5 => (oushl (1 : BitVec 64) q5).bind fun q6 => (chk 2 q4).bind fun j7 => some (⟨(Vector.get (Vector.set (Vector.replicate 2 0) j7.1 q6 j7.2) (⟨1, by decide⟩ : _root_.Fin 2)), (Vector.get (Vector.set (Vector.replicate 2 0) j7.1 q6 j7.2) (⟨0, by decide⟩ : _root_.Fin 2))⟩ : Wide))
theorem c80 (i1 : Int) (r : Wide) (h : F80 i1 = some r) : PCon Tryz.prog 80 [rd (kint .i64) i1] (rd kWide r) := by
  refine PCon.of (Con.intro0 Tryz.func80 rfl Tryz.ntmps80 rfl fun w H => ?_)
  unfold F80 at h
  refine AW.seq ?_
  refine AW.region ?_
  refine AOps.consT rfl (op_alloc 3 rfl rfl zr29) ?_
  rintro _ ⟨g2, rfl⟩
  refine AOps.nil ?_
  refine AW.seq ?_
  refine AW.region ?_
  refine AOps.consT rfl (op_alloc 4 rfl rfl zr141) ?_
  rintro _ ⟨g3, rfl⟩
  refine AOps.nil ?_
  refine AW.seq ?_
  refine AW.seq ?_
  refine AW.region ?_
  refine AOps.cons (op_move (A := rd (kint .i64) i1) rfl rfl (vt rfl)) rfl ?_
  refine AOps.cons (op_lss rfl rfl (vt rfl) (vk rfl)) rfl ?_
  refine AOps.cons (op_move (A := rd kbool (decide (i1 < 0))) rfl rfl (vt rfl)) rfl ?_
  refine AOps.consG (OpG.guard rfl rfl rfl rfl rfl fun hq => op_move (A := rd (kint .i64) i1) rfl rfl (vt rfl)) ?_
  refine AOps.consG (OpG.guard rfl rfl rfl rfl rfl fun hq => op_gtr rfl rfl (vgt rfl hq) (vk rfl)) ?_
  refine AOps.cons (op_any rfl rfl (vt rfl) (vt rfl)) rfl ?_
  refine AOps.nil ?_
  refine AW.cond (vt rfl) (fun hc => ?_) (fun hc => ?_)
  · have h := cond_t hc h
    refine AW.seq ?_
    refine AW.region ?_
    refine AOps.cons (op_build (ps := []) (x := (⟨0, 0⟩ : Wide)) rfl rfl rfl (by kernel_rfl) zr29 rfl) rfl ?_
    refine AOps.cons (op_store rfl rfl ty29 (vt rfl) (i := 3) rfl (vt rfl)) rfl ?_
    refine AOps.nil ?_
    refine AW.ret ?_
    obtain rfl := Option.some.inj h
    exact ret1 Tryz.results80 rfl (out_cell rfl (i := 3) rfl ty29)
  · have h := cond_f hc h
    refine AW.skip ?_
    refine AW.seq ?_
    obtain ⟨q4, hq4, h⟩ := bsome h
    obtain ⟨q5, hq5, h⟩ := bsome h
    obtain ⟨q6, hq6, h⟩ := bsome h
    obtain ⟨j7, hj7, h⟩ := bsome h
    refine AW.region ?_
    refine AOps.cons (op_move (A := rd (kint .i64) i1) rfl rfl (vt rfl)) rfl ?_
    refine AOps.cons (op_quo rfl rfl (vt rfl) (vk rfl) hq4) rfl ?_
    refine AOps.cons (op_move (A := rd (kint .i64) i1) rfl rfl (vt rfl)) rfl ?_
    refine AOps.cons (op_rem rfl rfl (vt rfl) (vk rfl) hq5) rfl ?_
    refine AOps.cons (op_ushl rfl rfl (vku (1 : BitVec 64) rfl) (vt rfl) hq6) rfl ?_
    refine AOps.cons (op_index' rfl rfl ar141 (vt rfl) (vt rfl) hj7) rfl ?_
    refine AOps.cons (op_store rfl rfl ty27 (vt rfl) (i := 4) rfl (vt rfl)) rfl ?_
    refine AOps.nil ?_
    refine AW.seq ?_
    refine AW.region ?_
    refine AOps.cons (op_index' rfl rfl ar141 (vt rfl) (vk rfl) rfl) rfl ?_
    refine AOps.cons (op_load rfl rfl ty27 (vt rfl) (i := 4) rfl) rfl ?_
    refine AOps.cons (op_index' rfl rfl ar141 (vt rfl) (vk rfl) rfl) rfl ?_
    refine AOps.cons (op_load rfl rfl ty27 (vt rfl) (i := 4) rfl) rfl ?_
    refine AOps.cons (op_build (ps := [(0, .tmp 18), (1, .tmp 20)]) (x := (⟨(Vector.get (Vector.set (Vector.replicate 2 0) j7.1 q6 j7.2) (⟨1, by decide⟩ : _root_.Fin 2)), (Vector.get (Vector.set (Vector.replicate 2 0) j7.1 q6 j7.2) (⟨0, by decide⟩ : _root_.Fin 2))⟩ : Wide)) rfl rfl rfl (by kernel_rfl) zr29 ⟨_, _, lWide_0, _, by kernel_rfl, (vt rfl), _, _, lWide_1, _, by kernel_rfl, (vt rfl), rfl⟩) rfl ?_
    refine AOps.cons (op_store rfl rfl ty29 (vt rfl) (i := 3) rfl (vt rfl)) rfl ?_
    refine AOps.nil ?_
    refine AW.ret ?_
    obtain rfl := Option.some.inj h
    exact ret1 Tryz.results80 rfl (out_cell rfl (i := 3) rfl ty29)
-- weirbox/aset.Rewrite
def F51 (a1 : Action) : Option (Vector Tern 24) :=
  (F34).bind fun x4 => (bif (decide (a1.Kind = 25)) then (F78 a1.Oxm).bind fun x6 => (F79 x4 a1.Oxm.Field x6.Value x6.Mask).bind fun x8 => some x8 else (bif (decide (a1.Kind = 17)) then (F80 12).bind fun x9 => (F80 12).bind fun x10 => (F79 x4 5 x9 x10).bind fun x11 => some x11 else (bif (decide (a1.Kind = 18)) then (F81 13).bind fun x12 => (F79 x4 5 (⟨0, 0⟩ : Wide) x12).bind fun x13 => (F81 3).bind fun x14 => (F79 x13 6 (⟨0, 0⟩ : Wide) x14).bind fun x15 => some x15 else some x4)))
theorem c51 (a1 : Action) (r : (Vector Tern 24)) (h : F51 a1 = some r) : PCon Tryz.prog 51 [rd kAction a1] (rd (karr 24 kTern) r) := by
  refine PCon.of (Con.intro0 Tryz.func51 rfl Tryz.ntmps51 rfl fun w H => ?_)
  unfold F51 at h
  refine AW.seq ?_
  refine AW.region ?_
  refine AOps.consT rfl (op_box 2 rfl rfl (vt rfl)) ?_
  rintro _ ⟨g2, rfl⟩
  refine AOps.consT rfl (op_alloc 3 rfl rfl zr44) ?_
  rintro _ ⟨g3, rfl⟩
  refine AOps.nil ?_
  refine AW.seq ?_
  obtain ⟨x4, hx4, h⟩ := bsome h
  refine AW.region ?_
  refine AOps.cons (op_call (xs := []) (c34 _ hx4) (Ent.mk Tryz.func34 rfl rfl) rfl rfl trivial) rfl ?_
  refine AOps.consT rfl (op_alloc 4 rfl rfl zr44) ?_
  rintro _ ⟨g5, rfl⟩
  refine AOps.cons (op_store rfl rfl ty44 (vt rfl) (i := 4) rfl (vt rfl)) rfl ?_
  refine AOps.nil ?_
  refine AW.seq ?_
  refine AW.seq ?_
  refine AW.region ?_
  refine AOps.cons (op_field lAction_0 rfl rfl fl62_0 (vt rfl)) rfl ?_
  refine AOps.cons (op_load rfl rfl ty3 (vt rfl) (i := 2) rfl) rfl ?_
  refine AOps.nil ?_
  refine AW.block ?_
  refine AW.seq ?_
  refine AW.region ?_
  refine AOps.cons (op_eql rfl rfl (vt rfl) (vk rfl)) rfl ?_
  refine AOps.cons (op_assign (A := rd kbool (decide (a1.Kind = 25))) rfl rfl (vt rfl)) rfl ?_
  refine AOps.nil ?_
  refine AW.cond (vt rfl) (fun hc => ?_) (fun hc => ?_)
  · have h := cond_t hc h
    refine AW.seq ?_
    obtain ⟨x6, hx6, h⟩ := bsome h
    refine AW.region ?_
    refine AOps.cons (op_field lAction_5 rfl rfl fl62_5 (vt rfl)) rfl ?_
    refine AOps.cons (op_load rfl rfl ty60 (vt rfl) (i := 2) rfl) rfl ?_
    refine AOps.cons (op_call (xs := [.tmp 11]) (c78 _ _ hx6) (Ent.mk Tryz.func78 rfl rfl) rfl rfl ⟨vt rfl, trivial⟩) rfl ?_
    refine AOps.consT rfl (op_alloc 5 rfl rfl zr42) ?_
    rintro _ ⟨g7, rfl⟩
    refine AOps.cons (op_store rfl rfl ty42 (vt rfl) (i := 5) rfl (vt rfl)) rfl ?_
    refine AOps.nil ?_
    obtain ⟨x8, hx8, h⟩ := bsome h
    refine AW.region ?_
    refine AOps.cons (op_load rfl rfl ty44 (vt rfl) (i := 4) rfl) rfl ?_
    refine AOps.cons (op_field lAction_5 rfl rfl fl62_5 (vt rfl)) rfl ?_
    refine AOps.cons (op_field lOxm_0 rfl rfl fl60_0 (vt rfl)) rfl ?_
    refine AOps.cons (op_load rfl rfl ty3 (vt rfl) (i := 2) rfl) rfl ?_
    refine AOps.cons (op_field lTern_0 rfl rfl fl42_0 (vt rfl)) rfl ?_
    refine AOps.cons (op_load rfl rfl ty29 (vt rfl) (i := 5) rfl) rfl ?_
    refine AOps.cons (op_field lTern_1 rfl rfl fl42_1 (vt rfl)) rfl ?_
    refine AOps.cons (op_load rfl rfl ty29 (vt rfl) (i := 5) rfl) rfl ?_
    refine AOps.cons (op_call (xs := [.tmp 13, .tmp 16, .tmp 18, .tmp 20]) (c79 _ _ _ _ _ hx8) (Ent.mk Tryz.func79 rfl rfl) rfl rfl ⟨vt rfl, vt rfl, vt rfl, vt rfl, trivial⟩) rfl ?_
    refine AOps.cons (op_store rfl rfl ty44 (vt rfl) (i := 4) rfl (vt rfl)) rfl ?_
    refine AOps.nil ?_
    refine AW.seq ?_
    refine AW.region ?_
    refine AOps.cons (op_load rfl rfl ty44 (vt rfl) (i := 4) rfl) rfl ?_
    refine AOps.cons (op_store rfl rfl ty44 (vt rfl) (i := 3) rfl (vt rfl)) rfl ?_
    refine AOps.nil ?_
    refine AW.ret ?_
    obtain rfl := Option.some.inj h
    exact ret1 Tryz.results51 rfl (out_cell rfl (i := 3) rfl ty44)
  · have h := cond_f hc h
    refine AW.seq ?_
    refine AW.region ?_
    refine AOps.cons (op_eql rfl rfl (vt rfl) (vk rfl)) rfl ?_
    refine AOps.cons (op_assign (A := rd kbool (decide (a1.Kind = 17))) rfl rfl (vt rfl)) rfl ?_
    refine AOps.nil ?_
    refine AW.cond (vt rfl) (fun hc => ?_) (fun hc => ?_)
    · have h := cond_t hc h
      obtain ⟨x9, hx9, h⟩ := bsome h
      obtain ⟨x10, hx10, h⟩ := bsome h
      obtain ⟨x11, hx11, h⟩ := bsome h
      refine AW.regionAny [⟨[3], [24], [4], []⟩, ⟨[], [25], [], []⟩, ⟨[], [26], [], []⟩, ⟨[24, 25, 26], [27], [], []⟩, ⟨[3, 27], [], [4], [4]⟩] mixed (by kernel_rfl) ?_
      refine SeqA.cons (loc [3] [4] rfl rfl fun S hs hr => op_load rfl rfl ty44 (vt ((hs 3 rfl).trans rfl)) (i := 4) ((hr 4 rfl).trans rfl)) ⟨rfl, rfl, rfl, rfl⟩ ?_
      refine SeqA.cons (loc [] [] rfl rfl fun S hs hr => op_call (xs := [.const (Value.int IntKind.i64 12)]) (c80 _ _ hx9) (Ent.mk Tryz.func80 rfl rfl) rfl rfl ⟨vk rfl, trivial⟩) ⟨rfl, rfl, rfl, rfl⟩ ?_
      refine SeqA.cons (loc [] [] rfl rfl fun S hs hr => op_call (xs := [.const (Value.int IntKind.i64 12)]) (c80 _ _ hx10) (Ent.mk Tryz.func80 rfl rfl) rfl rfl ⟨vk rfl, trivial⟩) ⟨rfl, rfl, rfl, rfl⟩ ?_
      refine SeqA.cons (loc [24, 25, 26] [] rfl rfl fun S hs hr => op_call (xs := [.tmp 24, .const (Value.int IntKind.i64 5), .tmp 25, .tmp 26]) (c79 _ _ _ _ _ hx11) (Ent.mk Tryz.func79 rfl rfl) rfl rfl ⟨vt ((hs 24 rfl).trans rfl), vk rfl, vt ((hs 25 rfl).trans rfl), vt ((hs 26 rfl).trans rfl), trivial⟩) ⟨rfl, rfl, rfl, rfl⟩ ?_
      refine SeqA.cons (locr [3, 27] [4] rfl fun S hs hr => op_store rfl rfl ty44 (vt ((hs 3 rfl).trans rfl)) (i := 4) ((hr 4 rfl).trans rfl) (vt ((hs 27 rfl).trans rfl))) ⟨rfl, rfl, rfl, rfl⟩ ?_
      refine AW.seq ?_
      refine AW.region ?_
      refine AOps.cons (op_load rfl rfl ty44 (vt rfl) (i := 4) rfl) rfl ?_
      refine AOps.cons (op_store rfl rfl ty44 (vt rfl) (i := 3) rfl (vt rfl)) rfl ?_
      refine AOps.nil ?_
      refine AW.ret ?_
      obtain rfl := Option.some.inj h
      exact ret1 Tryz.results51 rfl (out_cell rfl (i := 3) rfl ty44)
    · have h := cond_f hc h
      refine AW.seq ?_
      refine AW.region ?_
      refine AOps.cons (op_eql rfl rfl (vt rfl) (vk rfl)) rfl ?_
      refine AOps.cons (op_assign (A := rd kbool (decide (a1.Kind = 18))) rfl rfl (vt rfl)) rfl ?_
      refine AOps.nil ?_
      refine AW.cond (vt rfl) (fun hc => ?_) (fun hc => ?_)
      · have h := cond_t hc h
        refine AW.seq ?_
        obtain ⟨x12, hx12, h⟩ := bsome h
        obtain ⟨x13, hx13, h⟩ := bsome h
        refine AW.regionAny [⟨[3], [30], [4], []⟩, ⟨[], [31], [], []⟩, ⟨[], [32], [], []⟩, ⟨[30, 31, 32], [33], [], []⟩, ⟨[3, 33], [], [4], [4]⟩] mixed (by kernel_rfl) ?_
        refine SeqA.cons (loc [3] [4] rfl rfl fun S hs hr => op_load rfl rfl ty44 (vt ((hs 3 rfl).trans rfl)) (i := 4) ((hr 4 rfl).trans rfl)) ⟨rfl, rfl, rfl, rfl⟩ ?_
        refine SeqA.cons (loc [] [] rfl rfl fun S hs hr => op_build (ps := []) (x := (⟨0, 0⟩ : Wide)) rfl rfl rfl (by kernel_rfl) zr29 rfl) ⟨rfl, rfl, rfl, rfl⟩ ?_
        refine SeqA.cons (loc [] [] rfl rfl fun S hs hr => op_call (xs := [.const (Value.int IntKind.i64 13)]) (c81 _ _ hx12) (Ent.mk Tryz.func81 rfl rfl) rfl rfl ⟨vk rfl, trivial⟩) ⟨rfl, rfl, rfl, rfl⟩ ?_
        refine SeqA.cons (loc [30, 31, 32] [] rfl rfl fun S hs hr => op_call (xs := [.tmp 30, .const (Value.int IntKind.i64 5), .tmp 31, .tmp 32]) (c79 _ _ _ _ _ hx13) (Ent.mk Tryz.func79 rfl rfl) rfl rfl ⟨vt ((hs 30 rfl).trans rfl), vk rfl, vt ((hs 31 rfl).trans rfl), vt ((hs 32 rfl).trans rfl), trivial⟩) ⟨rfl, rfl, rfl, rfl⟩ ?_
        refine SeqA.cons (locr [3, 33] [4] rfl fun S hs hr => op_store rfl rfl ty44 (vt ((hs 3 rfl).trans rfl)) (i := 4) ((hr 4 rfl).trans rfl) (vt ((hs 33 rfl).trans rfl))) ⟨rfl, rfl, rfl, rfl⟩ ?_
        obtain ⟨x14, hx14, h⟩ := bsome h
        obtain ⟨x15, hx15, h⟩ := bsome h
        refine AW.regionAny [⟨[3], [34], [4], []⟩, ⟨[], [35], [], []⟩, ⟨[], [36], [], []⟩, ⟨[34, 35, 36], [37], [], []⟩, ⟨[3, 37], [], [4], [4]⟩] mixed (by kernel_rfl) ?_
        refine SeqA.cons (loc [3] [4] rfl rfl fun S hs hr => op_load rfl rfl ty44 (vt ((hs 3 rfl).trans rfl)) (i := 4) ((hr 4 rfl).trans rfl)) ⟨rfl, rfl, rfl, rfl⟩ ?_
        refine SeqA.cons (loc [] [] rfl rfl fun S hs hr => op_build (ps := []) (x := (⟨0, 0⟩ : Wide)) rfl rfl rfl (by kernel_rfl) zr29 rfl) ⟨rfl, rfl, rfl, rfl⟩ ?_
        refine SeqA.cons (loc [] [] rfl rfl fun S hs hr => op_call (xs := [.const (Value.int IntKind.i64 3)]) (c81 _ _ hx14) (Ent.mk Tryz.func81 rfl rfl) rfl rfl ⟨vk rfl, trivial⟩) ⟨rfl, rfl, rfl, rfl⟩ ?_
        refine SeqA.cons (loc [34, 35, 36] [] rfl rfl fun S hs hr => op_call (xs := [.tmp 34, .const (Value.int IntKind.i64 6), .tmp 35, .tmp 36]) (c79 _ _ _ _ _ hx15) (Ent.mk Tryz.func79 rfl rfl) rfl rfl ⟨vt ((hs 34 rfl).trans rfl), vk rfl, vt ((hs 35 rfl).trans rfl), vt ((hs 36 rfl).trans rfl), trivial⟩) ⟨rfl, rfl, rfl, rfl⟩ ?_
        refine SeqA.cons (locr [3, 37] [4] rfl fun S hs hr => op_store rfl rfl ty44 (vt ((hs 3 rfl).trans rfl)) (i := 4) ((hr 4 rfl).trans rfl) (vt ((hs 37 rfl).trans rfl))) ⟨rfl, rfl, rfl, rfl⟩ ?_
        refine AW.seq ?_
        refine AW.region ?_
        refine AOps.cons (op_load rfl rfl ty44 (vt rfl) (i := 4) rfl) rfl ?_
        refine AOps.cons (op_store rfl rfl ty44 (vt rfl) (i := 3) rfl (vt rfl)) rfl ?_
        refine AOps.nil ?_
        refine AW.ret ?_
        obtain rfl := Option.some.inj h
        exact ret1 Tryz.results51 rfl (out_cell rfl (i := 3) rfl ty44)
      · have h := cond_f hc h
        refine AW.skip ?_
        refine AW.seq ?_
        refine AW.region ?_
        refine AOps.cons (op_load rfl rfl ty44 (vt rfl) (i := 4) rfl) rfl ?_
        refine AOps.cons (op_store rfl rfl ty44 (vt rfl) (i := 3) rfl (vt rfl)) rfl ?_
        refine AOps.nil ?_
        refine AW.ret ?_
        obtain rfl := Option.some.inj h
        exact ret1 Tryz.results51 rfl (out_cell rfl (i := 3) rfl ty44)
-- weirbox/rewrite.Apply
def F47_l1 : (List Tern) → Nat → (Vector Wide 24) → Option (Vector Wide 24)
  | [], i8, b7 => some b7
  | x10 :: l9, i8, b7 => (chk 24 (i8 : Int)).bind fun j12 => (F73 (Vector.get b7 j12) x10.Mask).bind fun x13 => (F74 x10.Value x10.Mask).bind fun x14 => (F72 x13 x14).bind fun x15 => (chk 24 (i8 : Int)).bind fun j16 => (F47_l1 l9) (i8 + 1) (Vector.set b7 j16.1 x15 j16.2)
def F47 (r1 : (Vector Tern 24)) (h2 : (Vector Wide 24)) : Option (Vector Wide 24) :=
  F47_l1 (Vector.toList r1) 0 h2
theorem c47 (r1 : (Vector Tern 24)) (h2 : (Vector Wide 24)) (r : (Vector Wide 24)) (h : F47 r1 h2 = some r) : PCon Tryz.prog 47 [rd (karr 24 kTern) r1, rd (karr 24 kWide) h2] (rd (karr 24 kWide) r) := by
  refine PCon.of (Con.intro0 Tryz.func47 rfl Tryz.ntmps47 rfl fun w H => ?_)
  unfold F47 at h
  refine AW.seq ?_
  refine AW.region ?_
  refine AOps.consT rfl (op_box 3 rfl rfl (vt rfl)) ?_
  rintro _ ⟨g3, rfl⟩
  refine AOps.consT rfl (op_box 4 rfl rfl (vt rfl)) ?_
  rintro _ ⟨g4, rfl⟩
  refine AOps.consT rfl (op_alloc 5 rfl rfl zr31) ?_
  rintro _ ⟨g5, rfl⟩
  refine AOps.nil ?_
  refine AW.seq ?_
  refine AW.seq ?_
  refine AW.region ?_
  refine AOps.cons (op_load rfl rfl ty44 (vt rfl) (i := 3) rfl) rfl ?_
  refine AOps.cons (op_move (A := rd (kint .i64) 0) rfl rfl (vk rfl)) rfl ?_
  refine AOps.nil ?_
  refine AW.block ?_
  refine AW.loopG (d := []) (ν := (List Tern) × Nat × (Vector Wide 24)) (fun n => Sfx (Vector.toList r1) n.2.1 n.1 ∧ F47_l1 n.1 n.2.1 n.2.2 = some r) (fun n => n.1.length) (fun n => [(3, ptrL g4 (Lens.id (karr 24 kWide))), (4, ptrL g5 (Lens.id (karr 24 kWide))), (7, rd (karr 24 kTern) r1), (8, rd (kint .i64) (n.2.1 : Int))]) (fun n => [(4, Blk g4 31 (karr 24 kWide) n.2.2), (5, Blk g5 31 (karr 24 kWide) (Vector.replicate 24 zWide))]) ((Vector.toList r1), 0, h2) ⟨Sfx.start _, h⟩ ⟨rfl, ⟨rfl, rfl, rfl, rfl, trivial⟩, ⟨rfl, rfl, trivial⟩⟩ ?_
  rintro ⟨l9, i8, b7⟩ ⟨hsf1, h⟩
  change Sfx (Vector.toList r1) i8 l9 at hsf1
  change F47_l1 l9 i8 b7 = some r at h
  change AW _ _ _ ⟨slots [(3, ptrL g4 (Lens.id (karr 24 kWide))), (4, ptrL g5 (Lens.id (karr 24 kWide))), (7, rd (karr 24 kTern) r1), (8, rd (kint .i64) (i8 : Int))], ress [(4, Blk g4 31 (karr 24 kWide) b7), (5, Blk g5 31 (karr 24 kWide) (Vector.replicate 24 zWide))], _⟩
  cases l9 with
  | nil =>
    unfold F47_l1 at h
    refine AW.seq ?_
    refine AW.region ?_
    refine AOps.cons (op_lss rfl rfl (vt rfl) (vk rfl)) rfl ?_
    refine AOps.nil ?_
    refine AW.seq ?_
    refine AW.cond (vt rfl) (fun hc => absurd (of_decide_eq_true hc) (hsf1.niln (by simp))) (fun hc => ?_)
    refine AW.exit ?_
    refine AW.seq ?_
    refine AW.region ?_
    refine AOps.cons (op_load rfl rfl ty31 (vt rfl) (i := 4) rfl) rfl ?_
    refine AOps.cons (op_store rfl rfl ty31 (vt rfl) (i := 5) rfl (vt rfl)) rfl ?_
    refine AOps.nil ?_
    refine AW.ret ?_
    obtain rfl := Option.some.inj h
    exact ret1 Tryz.results47 rfl (out_cell rfl (i := 5) rfl ty31)
  | cons x10 l9 =>
    unfold F47_l1 at h
    generalize hgo1 : F47_l1 l9 = go1 at h
    refine AW.seq ?_
    refine AW.region ?_
    refine AOps.cons (op_lss rfl rfl (vt rfl) (vk rfl)) rfl ?_
    refine AOps.nil ?_
    refine AW.seq ?_
    refine AW.cond (vt rfl) (fun hc => ?_) (fun hc => absurd (hsf1.consn (by simp)) (of_decide_eq_false hc))
    have hlti8 := of_decide_eq_true hc
    refine AW.skip ?_
    refine AW.seq ?_
    refine AW.block ?_
    refine AW.seq ?_
    refine AW.region ?_
    refine AOps.cons (op_move (A := rd (kint .i64) (i8 : Int)) rfl rfl (vt rfl)) rfl ?_
    refine AOps.cons (op_indexv rfl rfl ar44 ty42 (vt rfl) (vt rfl) hsf1.lget) rfl ?_
    refine AOps.consT rfl (op_alloc 7 rfl rfl zr42) ?_
    rintro _ ⟨g11, rfl⟩
    refine AOps.cons (op_assign (A := rd (kint .i64) (i8 : Int)) rfl rfl (vt rfl)) rfl ?_
    refine AOps.cons (op_store rfl rfl ty42 (vt rfl) (i := 7) rfl (vt rfl)) rfl ?_
    refine AOps.nil ?_
    obtain ⟨j12, hj12, h⟩ := bsome h
    obtain ⟨x13, hx13, h⟩ := bsome h
    obtain ⟨x14, hx14, h⟩ := bsome h
    obtain ⟨x15, hx15, h⟩ := bsome h
    obtain ⟨j16, hj16, h⟩ := bsome h
    refine AW.regionAny [⟨[5], [12], [], []⟩, ⟨[5], [13], [], []⟩, ⟨[3, 13], [14], [], []⟩, ⟨[14], [15], [4], []⟩, ⟨[6], [16], [], []⟩, ⟨[16], [17], [7], []⟩, ⟨[15, 17], [18], [], []⟩, ⟨[6], [19], [], []⟩, ⟨[19], [20], [7], []⟩, ⟨[6], [21], [], []⟩, ⟨[21], [22], [7], []⟩, ⟨[20, 22], [23], [], []⟩, ⟨[18, 23], [24], [], []⟩, ⟨[3, 12], [25], [], []⟩, ⟨[25, 24], [], [4], [4]⟩] mixed (by kernel_rfl) ?_
    refine SeqA.cons (loc [5] [] rfl rfl fun S hs hr => op_move (A := rd (kint .i64) (i8 : Int)) rfl rfl (vt ((hs 5 rfl).trans rfl))) ⟨rfl, rfl, rfl, rfl⟩ ?_
    refine SeqA.cons (loc [5] [] rfl rfl fun S hs hr => op_move (A := rd (kint .i64) (i8 : Int)) rfl rfl (vt ((hs 5 rfl).trans rfl))) ⟨rfl, rfl, rfl, rfl⟩ ?_
    refine SeqA.cons (loc [3, 13] [] rfl rfl fun S hs hr => op_index' rfl rfl ar31 (vt ((hs 3 rfl).trans rfl)) (vt ((hs 13 rfl).trans rfl)) hj12) ⟨rfl, rfl, rfl, rfl⟩ ?_
    refine SeqA.cons (loc [14] [4] rfl rfl fun S hs hr => op_load rfl rfl ty29 (vt ((hs 14 rfl).trans rfl)) (i := 4) ((hr 4 rfl).trans rfl)) ⟨rfl, rfl, rfl, rfl⟩ ?_
    refine SeqA.cons (loc [6] [] rfl rfl fun S hs hr => op_field lTern_1 rfl rfl fl42_1 (vt ((hs 6 rfl).trans rfl))) ⟨rfl, rfl, rfl, rfl⟩ ?_
    refine SeqA.cons (loc [16] [7] rfl rfl fun S hs hr => op_load rfl rfl ty29 (vt ((hs 16 rfl).trans rfl)) (i := 7) ((hr 7 rfl).trans rfl)) ⟨rfl, rfl, rfl, rfl⟩ ?_
    refine SeqA.cons (loc [15, 17] [] rfl rfl fun S hs hr => op_call (xs := [.tmp 15, .tmp 17]) (c73 _ _ _ hx13) (Ent.mk Tryz.func73 rfl rfl) rfl rfl ⟨vt ((hs 15 rfl).trans rfl), vt ((hs 17 rfl).trans rfl), trivial⟩) ⟨rfl, rfl, rfl, rfl⟩ ?_
    refine SeqA.cons (loc [6] [] rfl rfl fun S hs hr => op_field lTern_0 rfl rfl fl42_0 (vt ((hs 6 rfl).trans rfl))) ⟨rfl, rfl, rfl, rfl⟩ ?_
    refine SeqA.cons (loc [19] [7] rfl rfl fun S hs hr => op_load rfl rfl ty29 (vt ((hs 19 rfl).trans rfl)) (i := 7) ((hr 7 rfl).trans rfl)) ⟨rfl, rfl, rfl, rfl⟩ ?_
    refine SeqA.cons (loc [6] [] rfl rfl fun S hs hr => op_field lTern_1 rfl rfl fl42_1 (vt ((hs 6 rfl).trans rfl))) ⟨rfl, rfl, rfl, rfl⟩ ?_
    refine SeqA.cons (loc [21] [7] rfl rfl fun S hs hr => op_load rfl rfl ty29 (vt ((hs 21 rfl).trans rfl)) (i := 7) ((hr 7 rfl).trans rfl)) ⟨rfl, rfl, rfl, rfl⟩ ?_
    refine SeqA.cons (loc [20, 22] [] rfl rfl fun S hs hr => op_call (xs := [.tmp 20, .tmp 22]) (c74 _ _ _ hx14) (Ent.mk Tryz.func74 rfl rfl) rfl rfl ⟨vt ((hs 20 rfl).trans rfl), vt ((hs 22 rfl).trans rfl), trivial⟩) ⟨rfl, rfl, rfl, rfl⟩ ?_
    refine SeqA.cons (loc [18, 23] [] rfl rfl fun S hs hr => op_call (xs := [.tmp 18, .tmp 23]) (c72 _ _ _ hx15) (Ent.mk Tryz.func72 rfl rfl) rfl rfl ⟨vt ((hs 18 rfl).trans rfl), vt ((hs 23 rfl).trans rfl), trivial⟩) ⟨rfl, rfl, rfl, rfl⟩ ?_
    refine SeqA.cons (loc [3, 12] [] rfl rfl fun S hs hr => op_index' rfl rfl ar31 (vt ((hs 3 rfl).trans rfl)) (vt ((hs 12 rfl).trans rfl)) hj16) ⟨rfl, rfl, rfl, rfl⟩ ?_
    refine SeqA.cons (locr [25, 24] [4] rfl fun S hs hr => op_store rfl rfl ty29 (vt ((hs 25 rfl).trans rfl)) (i := 4) ((hr 4 rfl).trans rfl) (vt ((hs 24 rfl).trans rfl))) ⟨rfl, rfl, rfl, rfl⟩ ?_
    refine AW.region ?_
    refine AOps.cons (op_incrc rfl rfl (vt rfl) (vk rfl) rfl hlti8) rfl ?_
    refine AOps.cons (op_move (A := rd (kint .i64) ((i8 + 1 : Nat) : Int)) rfl rfl (vt rfl)) rfl ?_
    refine AOps.nil ?_
    subst hgo1
    exact ⟨(l9, i8 + 1, (Vector.set b7 j16.1 x15 j16.2)), Nat.lt_succ_self _, ⟨hsf1.next, h⟩, ⟨rfl, ⟨rfl, rfl, rfl, rfl, trivial⟩, ⟨rfl, rfl, trivial⟩⟩⟩
-- (*weirbox/exec.run).do
def F29s_l1 (R31 : (exec_run → Int → Option exec_run)) : (List Action) → Nat → (List Out) → Env → (List Group) → (Vector Wide 24) → Int → Option exec_run
  | [], i17, l11, b13, b14, b15, b16 => some (⟨b13, b14, l11, b15, b16⟩ : exec_run)
  | x19 :: l18, i17, l11, b13, b14, b15, b16 => (bif (decide (x19.Kind = 0)) then (F50 x19).bind fun x21 => (appd l11 [(⟨x19.Port, x21, b15⟩ : Out)]).bind fun l22 => (F29s_l1 R31 l18) (i17 + 1) l22 b13 b14 b15 b16 else (bif (decide (x19.Kind = 22)) then (R31 (⟨b13, b14, l11, b15, b16⟩ : exec_run) x19.Group).bind fun b24 => (F29s_l1 R31 l18) (i17 + 1) b24.out b24.Env b24.groups b24.header b24.depth else (F51 x19).bind fun x26 => (F47 x26 b15).bind fun x27 => (F29s_l1 R31 l18) (i17 + 1) l11 b13 b14 x27 b16))
def F29s (R29 : (exec_run → (List Action) → Option exec_run)) (R31 : (exec_run → Int → Option exec_run)) (r1 : exec_run) (acts4 : (List Action)) : Option exec_run :=
  F29s_l1 R31 acts4 0 r1.out r1.Env r1.groups r1.header r1.depth
theorem c29s (R29 : (exec_run → (List Action) → Option exec_run)) (hR29 : ∀ (g2 : Nat) (r1 : exec_run) (acts4 : (List Action)) (r : exec_run), R29 r1 acts4 = some r → Con Tryz.prog 29 [ptrL g2 (Lens.id kexec_run_o2), rd (ksl kAction) acts4] (BoxF g2 72 kexec_run_o2 (fun v => (⟨r1.Env, r1.groups, v, r1.header, r1.depth⟩ : exec_run_o2)) 69 kOut r1.out) (fun _ : Unit => top) (fun _ => BoxF g2 72 kexec_run_o2 (fun v => (⟨r.Env, r.groups, v, r.header, r.depth⟩ : exec_run_o2)) 69 kOut r.out)) (R31 : (exec_run → Int → Option exec_run)) (hR31 : ∀ (g2 : Nat) (r1 : exec_run) (id4 : Int) (r : exec_run), R31 r1 id4 = some r → Con Tryz.prog 31 [ptrL g2 (Lens.id kexec_run_o2), rd (kint .i64) id4] (BoxF g2 72 kexec_run_o2 (fun v => (⟨r1.Env, r1.groups, v, r1.header, r1.depth⟩ : exec_run_o2)) 69 kOut r1.out) (fun _ : Unit => top) (fun _ => BoxF g2 72 kexec_run_o2 (fun v => (⟨r.Env, r.groups, v, r.header, r.depth⟩ : exec_run_o2)) 69 kOut r.out)) (g2 : Nat) (r1 : exec_run) (acts4 : (List Action)) (r : exec_run) (h : F29s R29 R31 r1 acts4 = some r) : Con Tryz.prog 29 [ptrL g2 (Lens.id kexec_run_o2), rd (ksl kAction) acts4] (BoxF g2 72 kexec_run_o2 (fun v => (⟨r1.Env, r1.groups, v, r1.header, r1.depth⟩ : exec_run_o2)) 69 kOut r1.out) (fun _ : Unit => top) (fun _ => BoxF g2 72 kexec_run_o2 (fun v => (⟨r.Env, r.groups, v, r.header, r.depth⟩ : exec_run_o2)) 69 kOut r.out) := by
  refine Con.intro Tryz.func29 rfl Tryz.ntmps29 rfl fun w H X => ?_
  unfold F29s at h
  refine AW.unboxF 0 2002 (by decide) rfl rfl fun v3 => ?_
  refine AW.seq ?_
  refine AW.region ?_
  refine AOps.cons (op_move (A := rd (ksl kAction) acts4) rfl rfl (vt rfl)) rfl ?_
  refine AOps.cons (op_len' rfl rfl sl26 (vt rfl)) rfl ?_
  refine AOps.cons (op_move (A := rd (kint .i64) 0) rfl rfl (vk rfl)) rfl ?_
  refine AOps.nil ?_
  refine AW.block ?_
  refine AW.loopG (d := []) (ν := (List Action) × Nat × (List Out) × Env × (List Group) × (Vector Wide 24) × Int × Value) (fun n => Sfx acts4 n.2.1 n.1 ∧ F29s_l1 R31 n.1 n.2.1 n.2.2.1 n.2.2.2.1 n.2.2.2.2.1 n.2.2.2.2.2.1 n.2.2.2.2.2.2.1 = some r) (fun n => n.1.length) (fun n => [(0, ptrL g2 (Lens.id kexec_run_o2)), (6, rd (ksl kAction) acts4), (7, rd (kint .i64) (acts4.length : Int)), (8, rd (kint .i64) (n.2.1 : Int))]) (fun n => [(0, Blk g2 72 kexec_run_o2 (⟨n.2.2.2.1, n.2.2.2.2.1, n.2.2.2.2.2.2.2, n.2.2.2.2.2.1, n.2.2.2.2.2.2.1⟩ : exec_run_o2)), (2002, Row n.2.2.2.2.2.2.2 69 kOut n.2.2.1)]) (acts4, 0, r1.out, r1.Env, r1.groups, r1.header, r1.depth, v3) ⟨Sfx.start _, h⟩ ⟨rfl, ⟨rfl, rfl, rfl, rfl, trivial⟩, ⟨rfl, rfl, trivial⟩⟩ ?_
  rintro ⟨l18, i17, l11, b13, b14, b15, b16, v12⟩ ⟨hsf1, h⟩
  change Sfx acts4 i17 l18 at hsf1
  change F29s_l1 R31 l18 i17 l11 b13 b14 b15 b16 = some r at h
  change AW _ _ _ ⟨slots [(0, ptrL g2 (Lens.id kexec_run_o2)), (6, rd (ksl kAction) acts4), (7, rd (kint .i64) (acts4.length : Int)), (8, rd (kint .i64) (i17 : Int))], ress [(0, Blk g2 72 kexec_run_o2 (⟨b13, b14, v12, b15, b16⟩ : exec_run_o2)), (2002, Row v12 69 kOut l11)], _⟩
  cases l18 with
  | nil =>
    unfold F29s_l1 at h
    refine AW.seq ?_
    refine AW.region ?_
    refine AOps.cons (op_lss rfl rfl (vt rfl) (vt rfl)) rfl ?_
    refine AOps.nil ?_
    refine AW.seq ?_
    refine AW.cond (vt rfl) (fun hc => absurd (of_decide_eq_true hc) hsf1.nil) (fun hc => ?_)
    refine AW.exit ?_
    obtain rfl := Option.some.inj h
    exact RetOK.turn (Turn.packF 0 2002 (fun v => (⟨b13, b14, v, b15, b16⟩ : exec_run_o2)) (by decide) rfl rfl) (ret0Y (i := 0) Tryz.results29 rfl rfl)
  | cons x19 l18 =>
    unfold F29s_l1 at h
    generalize hgo1 : F29s_l1 R31 l18 = go1 at h
    refine AW.seq ?_
    refine AW.region ?_
    refine AOps.cons (op_lss rfl rfl (vt rfl) (vt rfl)) rfl ?_
    refine AOps.nil ?_
    refine AW.seq ?_
    refine AW.cond (vt rfl) (fun hc => ?_) (fun hc => absurd hsf1.cons (of_decide_eq_false hc))
    have hlti17 := of_decide_eq_true hc
    refine AW.skip ?_
    refine AW.seq ?_
    refine AW.block ?_
    refine AW.seq ?_
    refine AW.region ?_
    refine AOps.cons (op_indexs' rfl rfl sl26 (vt rfl) (vt rfl) hsf1.lget) rfl ?_
    refine AOps.cons (op_loadp rfl rfl ty62 (vt rfl)) rfl ?_
    refine AOps.consT rfl (op_alloc 6 rfl rfl zr62) ?_
    rintro _ ⟨g20, rfl⟩
    refine AOps.cons (op_store rfl rfl ty62 (vt rfl) (i := 6) rfl (vt rfl)) rfl ?_
    refine AOps.nil ?_
    refine AW.seq ?_
    refine AW.region ?_
    refine AOps.cons (op_field lAction_0 rfl rfl fl62_0 (vt rfl)) rfl ?_
    refine AOps.cons (op_load rfl rfl ty3 (vt rfl) (i := 6) rfl) rfl ?_
    refine AOps.nil ?_
    refine AW.block ?_
    refine AW.seq ?_
    refine AW.region ?_
    refine AOps.cons (op_eql rfl rfl (vt rfl) (vk rfl)) rfl ?_
    refine AOps.cons (op_assign (A := rd kbool (decide (x19.Kind = 0))) rfl rfl (vt rfl)) rfl ?_
    refine AOps.nil ?_
    refine AW.cond (vt rfl) (fun hc => ?_) (fun hc => ?_)
    · have h := cond_t hc h
      obtain ⟨x21, hx21, h⟩ := bsome h
      obtain ⟨l22, hl22, h⟩ := bsome h
      refine AW.regionAny [⟨[0], [26], [], []⟩, ⟨[0], [27], [], []⟩, ⟨[27], [28], [], []⟩, ⟨[28], [29], [], []⟩, ⟨[29], [30], [0], []⟩, ⟨[5], [31], [], []⟩, ⟨[31], [32], [6], []⟩, ⟨[5], [33], [6], []⟩, ⟨[33], [34], [], []⟩, ⟨[0], [35], [], []⟩, ⟨[35], [36], [], []⟩, ⟨[36], [37], [], []⟩, ⟨[37], [38], [0], []⟩, ⟨[32, 34, 38], [39], [], []⟩, ⟨[39], [40], [], []⟩, ⟨[30, 40], [41], [2002], [2002]⟩, ⟨[26], [42], [], []⟩, ⟨[42], [43], [], []⟩, ⟨[43, 41], [41], [0], [0]⟩] mixed (by kernel_rfl) ?_
      refine SeqA.cons (loc [0] [] rfl rfl fun S hs hr => op_move (A := ptrL g2 (Lens.id kexec_run_o2)) rfl rfl (vt ((hs 0 rfl).trans rfl))) ⟨rfl, rfl, rfl, rfl⟩ ?_
      refine SeqA.cons (loc [0] [] rfl rfl fun S hs hr => op_move (A := ptrL g2 (Lens.id kexec_run_o2)) rfl rfl (vt ((hs 0 rfl).trans rfl))) ⟨rfl, rfl, rfl, rfl⟩ ?_
      refine SeqA.cons (loc [27] [] rfl rfl fun S hs hr => op_nilCheck rfl rfl (vt ((hs 27 rfl).trans rfl))) ⟨rfl, rfl, rfl, rfl⟩ ?_
      refine SeqA.cons (loc [28] [] rfl rfl fun S hs hr => op_field lexec_run_o2_2 rfl rfl flv72_2_2 (vt ((hs 28 rfl).trans rfl))) ⟨rfl, rfl, rfl, rfl⟩ ?_
      refine SeqA.cons (loc [29] [0] rfl rfl fun S hs hr => op_loadv v12 rfl rfl tyr34 (vt ((hs 29 rfl).trans rfl)) (i := 0) ((hr 0 rfl).trans rfl) rfl) ⟨rfl, rfl, rfl, rfl⟩ ?_
      refine SeqA.cons (loc [5] [] rfl rfl fun S hs hr => op_field lAction_1 rfl rfl fl62_1 (vt ((hs 5 rfl).trans rfl))) ⟨rfl, rfl, rfl, rfl⟩ ?_
      refine SeqA.cons (loc [31] [6] rfl rfl fun S hs hr => op_load rfl rfl ty3 (vt ((hs 31 rfl).trans rfl)) (i := 6) ((hr 6 rfl).trans rfl)) ⟨rfl, rfl, rfl, rfl⟩ ?_
      refine SeqA.cons (loc [5] [6] rfl rfl fun S hs hr => op_load rfl rfl ty62 (vt ((hs 5 rfl).trans rfl)) (i := 6) ((hr 6 rfl).trans rfl)) ⟨rfl, rfl, rfl, rfl⟩ ?_
      refine SeqA.cons (loc [33] [] rfl rfl fun S hs hr => op_call (xs := [.tmp 33]) (c50 _ _ hx21) (Ent.mk Tryz.func50 rfl rfl) rfl rfl ⟨vt ((hs 33 rfl).trans rfl), trivial⟩) ⟨rfl, rfl, rfl, rfl⟩ ?_
      refine SeqA.cons (loc [0] [] rfl rfl fun S hs hr => op_move (A := ptrL g2 (Lens.id kexec_run_o2)) rfl rfl (vt ((hs 0 rfl).trans rfl))) ⟨rfl, rfl, rfl, rfl⟩ ?_
      refine SeqA.cons (loc [35] [] rfl rfl fun S hs hr => op_nilCheck rfl rfl (vt ((hs 35 rfl).trans rfl))) ⟨rfl, rfl, rfl, rfl⟩ ?_
      refine SeqA.cons (loc [36] [] rfl rfl fun S hs hr => op_field lexec_run_o2_3 rfl rfl flv72_3_2 (vt ((hs 36 rfl).trans rfl))) ⟨rfl, rfl, rfl, rfl⟩ ?_
      refine SeqA.cons (loc [37] [0] rfl rfl fun S hs hr => op_load rfl rfl ty31 (vt ((hs 37 rfl).trans rfl)) (i := 0) ((hr 0 rfl).trans rfl)) ⟨rfl, rfl, rfl, rfl⟩ ?_
      refine SeqA.cons (loc [32, 34, 38] [] rfl rfl fun S hs hr => op_build (ps := [(0, .tmp 32), (1, .tmp 34), (2, .tmp 38)]) (x := (⟨x19.Port, x21, b15⟩ : Out)) rfl rfl rfl (by kernel_rfl) zr69 ⟨_, _, lOut_0, _, by kernel_rfl, (vt ((hs 32 rfl).trans rfl)), _, _, lOut_1, _, by kernel_rfl, (vt ((hs 34 rfl).trans rfl)), _, _, lOut_2, _, by kernel_rfl, (vt ((hs 38 rfl).trans rfl)), rfl⟩) ⟨rfl, rfl, rfl, rfl⟩ ?_
      refine SeqA.cons (loc [39] [] rfl rfl fun S hs hr => op_buildSliceR (ps := [(0, .tmp 39)]) (l := [(⟨x19.Port, x21, b15⟩ : Out)]) rfl rfl sl34 zr69 rfl rfl ⟨_, _, Lens.idx 1 kOut 0 (by decide), _, rfl, (vt ((hs 39 rfl).trans rfl)), rfl⟩ rfl) ⟨rfl, rfl, rfl, rfl⟩ ?_
      refine SeqA.cons (locs (us := [(41, ownR 69 kOut l22)]) (ur := [(2002, emp)]) [30, 40] [2002] rfl fun S hs hr => op_appendO 2002 hl22 rfl rfl rfl el34 (vt ((hs 30 rfl).trans rfl)) ((hr 2002 rfl).trans rfl) (vt ((hs 40 rfl).trans rfl))) ⟨rfl, rfl, rfl, rfl⟩ ?_
      refine SeqA.cons (loc [26] [] rfl rfl fun S hs hr => op_nilCheck rfl rfl (vt ((hs 26 rfl).trans rfl))) ⟨rfl, rfl, rfl, rfl⟩ ?_
      refine SeqA.cons (loc [42] [] rfl rfl fun S hs hr => op_field lexec_run_o2_2 rfl rfl flv72_2_2 (vt ((hs 42 rfl).trans rfl))) ⟨rfl, rfl, rfl, rfl⟩ ?_
      refine SeqA.cons (locs (us := [(41, top)]) (ur := [(0, BoxF g2 72 kexec_run_o2 (fun v => ((Lens.comp (Lens.id kexec_run_o2) lexec_run_o2_2)).set (⟨b13, b14, v12, b15, b16⟩ : exec_run_o2) v) 69 kOut l22)]) [43, 41] [0] rfl fun S hs hr => op_storeR rfl rfl tyr34 (vt ((hs 43 rfl).trans rfl)) ((hr 0 rfl).trans rfl) ((hs 41 rfl).trans rfl)) ⟨rfl, rfl, rfl, rfl⟩ ?_
      refine AW.unboxF 0 2002 (by decide) rfl rfl fun v23 => ?_
      refine AW.region ?_
      refine AOps.cons (op_incr (t := 7) rfl rfl (vt rfl) (vk rfl) (vt rfl) hlti17) rfl ?_
      refine AOps.cons (op_move (A := rd (kint .i64) ((i17 + 1 : Nat) : Int)) rfl rfl (vt rfl)) rfl ?_
      refine AOps.nil ?_
      subst hgo1
      exact ⟨(l18, i17 + 1, l22, b13, b14, b15, b16, v23), Nat.lt_succ_self _, ⟨hsf1.next, h⟩, ⟨rfl, ⟨rfl, rfl, rfl, rfl, trivial⟩, ⟨rfl, rfl, trivial⟩⟩⟩
    · have h := cond_f hc h
      refine AW.seq ?_
      refine AW.region ?_
      refine AOps.cons (op_eql rfl rfl (vt rfl) (vk rfl)) rfl ?_
      refine AOps.cons (op_assign (A := rd kbool (decide (x19.Kind = 22))) rfl rfl (vt rfl)) rfl ?_
      refine AOps.nil ?_
      refine AW.cond (vt rfl) (fun hc => ?_) (fun hc => ?_)
      · have h := cond_t hc h
        obtain ⟨b24, hb24, h⟩ := bsome h
        refine AW.region ?_
        refine AOps.cons (op_move (A := ptrL g2 (Lens.id kexec_run_o2)) rfl rfl (vt rfl)) rfl ?_
        refine AOps.cons (op_field lAction_3 rfl rfl fl62_3 (vt rfl)) rfl ?_
        refine AOps.cons (op_load rfl rfl ty3 (vt rfl) (i := 6) rfl) rfl ?_
        refine AOps.packF 0 2002 (fun v => (⟨b13, b14, v, b15, b16⟩ : exec_run_o2)) (by decide) rfl rfl ?_
        refine AOps.consT rfl (op_callR 0 (xs := [.tmp 46, .tmp 48]) (hR31 _ _ _ _ hb24) (Ent.mk Tryz.func31 rfl rfl) rfl rfl ⟨vt rfl, vt rfl, trivial⟩ rfl) ?_
        rintro _ ⟨_u, rfl⟩
        refine AOps.unboxF 0 2002 (by decide) rfl rfl fun v25 => ?_
        refine AOps.nil ?_
        refine AW.region ?_
        refine AOps.cons (op_incr (t := 7) rfl rfl (vt rfl) (vk rfl) (vt rfl) hlti17) rfl ?_
        refine AOps.cons (op_move (A := rd (kint .i64) ((i17 + 1 : Nat) : Int)) rfl rfl (vt rfl)) rfl ?_
        refine AOps.nil ?_
        subst hgo1
        exact ⟨(l18, i17 + 1, b24.out, b24.Env, b24.groups, b24.header, b24.depth, v25), Nat.lt_succ_self _, ⟨hsf1.next, h⟩, ⟨rfl, ⟨rfl, rfl, rfl, rfl, trivial⟩, ⟨rfl, rfl, trivial⟩⟩⟩
      · have h := cond_f hc h
        obtain ⟨x26, hx26, h⟩ := bsome h
        obtain ⟨x27, hx27, h⟩ := bsome h
        refine AW.regionAny [⟨[0], [14], [], []⟩, ⟨[5], [15], [6], []⟩, ⟨[15], [16], [], []⟩, ⟨[0], [17], [], []⟩, ⟨[17], [18], [], []⟩, ⟨[18], [19], [], []⟩, ⟨[19], [20], [0], []⟩, ⟨[16, 20], [21], [], []⟩, ⟨[14], [22], [], []⟩, ⟨[22], [23], [], []⟩, ⟨[23, 21], [], [0], [0]⟩] mixed (by kernel_rfl) ?_
        refine SeqA.cons (loc [0] [] rfl rfl fun S hs hr => op_move (A := ptrL g2 (Lens.id kexec_run_o2)) rfl rfl (vt ((hs 0 rfl).trans rfl))) ⟨rfl, rfl, rfl, rfl⟩ ?_
        refine SeqA.cons (loc [5] [6] rfl rfl fun S hs hr => op_load rfl rfl ty62 (vt ((hs 5 rfl).trans rfl)) (i := 6) ((hr 6 rfl).trans rfl)) ⟨rfl, rfl, rfl, rfl⟩ ?_
        refine SeqA.cons (loc [15] [] rfl rfl fun S hs hr => op_call (xs := [.tmp 15]) (c51 _ _ hx26) (Ent.mk Tryz.func51 rfl rfl) rfl rfl ⟨vt ((hs 15 rfl).trans rfl), trivial⟩) ⟨rfl, rfl, rfl, rfl⟩ ?_
        refine SeqA.cons (loc [0] [] rfl rfl fun S hs hr => op_move (A := ptrL g2 (Lens.id kexec_run_o2)) rfl rfl (vt ((hs 0 rfl).trans rfl))) ⟨rfl, rfl, rfl, rfl⟩ ?_
        refine SeqA.cons (loc [17] [] rfl rfl fun S hs hr => op_nilCheck rfl rfl (vt ((hs 17 rfl).trans rfl))) ⟨rfl, rfl, rfl, rfl⟩ ?_
        refine SeqA.cons (loc [18] [] rfl rfl fun S hs hr => op_field lexec_run_o2_3 rfl rfl flv72_3_2 (vt ((hs 18 rfl).trans rfl))) ⟨rfl, rfl, rfl, rfl⟩ ?_
        refine SeqA.cons (loc [19] [0] rfl rfl fun S hs hr => op_load rfl rfl ty31 (vt ((hs 19 rfl).trans rfl)) (i := 0) ((hr 0 rfl).trans rfl)) ⟨rfl, rfl, rfl, rfl⟩ ?_
        refine SeqA.cons (loc [16, 20] [] rfl rfl fun S hs hr => op_call (xs := [.tmp 16, .tmp 20]) (c47 _ _ _ hx27) (Ent.mk Tryz.func47 rfl rfl) rfl rfl ⟨vt ((hs 16 rfl).trans rfl), vt ((hs 20 rfl).trans rfl), trivial⟩) ⟨rfl, rfl, rfl, rfl⟩ ?_
        refine SeqA.cons (loc [14] [] rfl rfl fun S hs hr => op_nilCheck rfl rfl (vt ((hs 14 rfl).trans rfl))) ⟨rfl, rfl, rfl, rfl⟩ ?_
        refine SeqA.cons (loc [22] [] rfl rfl fun S hs hr => op_field lexec_run_o2_3 rfl rfl flv72_3_2 (vt ((hs 22 rfl).trans rfl))) ⟨rfl, rfl, rfl, rfl⟩ ?_
        refine SeqA.cons (locr [23, 21] [0] rfl fun S hs hr => op_store rfl rfl ty31 (vt ((hs 23 rfl).trans rfl)) (i := 0) ((hr 0 rfl).trans rfl) (vt ((hs 21 rfl).trans rfl))) ⟨rfl, rfl, rfl, rfl⟩ ?_
        refine AW.region ?_
        refine AOps.cons (op_incr (t := 7) rfl rfl (vt rfl) (vk rfl) (vt rfl) hlti17) rfl ?_
        refine AOps.cons (op_move (A := rd (kint .i64) ((i17 + 1 : Nat) : Int)) rfl rfl (vt rfl)) rfl ?_
        refine AOps.nil ?_
        subst hgo1
        exact ⟨(l18, i17 + 1, l11, b13, b14, x27, b16, v12), Nat.lt_succ_self _, ⟨hsf1.next, h⟩, ⟨rfl, ⟨rfl, rfl, rfl, rfl, trivial⟩, ⟨rfl, rfl, trivial⟩⟩⟩
-- (*weirbox/exec.run).group
def F31s_l1 (x5 : (Group × Bool)) (R29 : (exec_run → (List Action) → Option exec_run)) (r1 : exec_run) : (List Int) → Nat → (List Out) → Env → (List Group) → (Vector Wide 24) → Int → Option exec_run
  | [], i21, l15, b17, b18, b19, b20 => some (⟨b17, b18, l15, b19, (IntKind.i64.wrap (b20 - 1))⟩ : exec_run)
  | x23 :: l22, i21, l15, b17, b18, b19, b20 => (lget x5.1.Buckets x23).bind fun e24 => (F56 [] e24.Acts).bind fun x25 => (F55 x25).bind fun x26 => (R29 (⟨b17, b18, l15, b19, b20⟩ : exec_run) x26).bind fun b27 => (F31s_l1 x5 R29 r1 l22) (i21 + 1) b27.out b27.Env b27.groups r1.header b27.depth
def F31s (R29 : (exec_run → (List Action) → Option exec_run)) (R31 : (exec_run → Int → Option exec_run)) (r1 : exec_run) (id4 : Int) : Option exec_run :=
  (F53 r1.groups id4).bind fun x5 => (bif ((!x5.2) || (decide (r1.depth ≥ 8))) then some (⟨r1.Env, r1.groups, r1.out, r1.header, r1.depth⟩ : exec_run) else (F54 r1.Env x5.1).bind fun x8 => F31s_l1 x5 R29 r1 x8 0 r1.out r1.Env r1.groups r1.header (IntKind.i64.wrap (r1.depth + 1)))
theorem c31s (R29 : (exec_run → (List Action) → Option exec_run)) (hR29 : ∀ (g2 : Nat) (r1 : exec_run) (acts4 : (List Action)) (r : exec_run), R29 r1 acts4 = some r → Con Tryz.prog 29 [ptrL g2 (Lens.id kexec_run_o2), rd (ksl kAction) acts4] (BoxF g2 72 kexec_run_o2 (fun v => (⟨r1.Env, r1.groups, v, r1.header, r1.depth⟩ : exec_run_o2)) 69 kOut r1.out) (fun _ : Unit => top) (fun _ => BoxF g2 72 kexec_run_o2 (fun v => (⟨r.Env, r.groups, v, r.header, r.depth⟩ : exec_run_o2)) 69 kOut r.out)) (R31 : (exec_run → Int → Option exec_run)) (hR31 : ∀ (g2 : Nat) (r1 : exec_run) (id4 : Int) (r : exec_run), R31 r1 id4 = some r → Con Tryz.prog 31 [ptrL g2 (Lens.id kexec_run_o2), rd (kint .i64) id4] (BoxF g2 72 kexec_run_o2 (fun v => (⟨r1.Env, r1.groups, v, r1.header, r1.depth⟩ : exec_run_o2)) 69 kOut r1.out) (fun _ : Unit => top) (fun _ => BoxF g2 72 kexec_run_o2 (fun v => (⟨r.Env, r.groups, v, r.header, r.depth⟩ : exec_run_o2)) 69 kOut r.out)) (g2 : Nat) (r1 : exec_run) (id4 : Int) (r : exec_run) (h : F31s R29 R31 r1 id4 = some r) : Con Tryz.prog 31 [ptrL g2 (Lens.id kexec_run_o2), rd (kint .i64) id4] (BoxF g2 72 kexec_run_o2 (fun v => (⟨r1.Env, r1.groups, v, r1.header, r1.depth⟩ : exec_run_o2)) 69 kOut r1.out) (fun _ : Unit => top) (fun _ => BoxF g2 72 kexec_run_o2 (fun v => (⟨r.Env, r.groups, v, r.header, r.depth⟩ : exec_run_o2)) 69 kOut r.out) := by
  refine Con.intro Tryz.func31 rfl Tryz.ntmps31 rfl fun w H X => ?_
  unfold F31s at h
  refine AW.unboxF 0 2002 (by decide) rfl rfl fun v3 => ?_
  refine AW.seq ?_
  obtain ⟨x5, hx5, h⟩ := bsome h
  refine AW.region ?_
  refine AOps.cons (op_move (A := ptrL g2 (Lens.id kexec_run_o2)) rfl rfl (vt rfl)) rfl ?_
  refine AOps.cons (op_nilCheck rfl rfl (vt rfl)) rfl ?_
  refine AOps.cons (op_field lexec_run_o2_1 rfl rfl flv72_1_2 (vt rfl)) rfl ?_
  refine AOps.cons (op_load rfl rfl ty22 (vt rfl) (i := 0) rfl) rfl ?_
  refine AOps.cons (op_move (A := rd (kint .i64) id4) rfl rfl (vt rfl)) rfl ?_
  refine AOps.cons (op_call (xs := [.tmp 13, .tmp 14]) (c53 _ _ _ hx5) (Ent.mk Tryz.func53 rfl rfl) rfl rfl ⟨vt rfl, vt rfl, trivial⟩) rfl ?_
  refine AOps.cons (op_move (A := tup2 (rd kGroup x5.1) (rd kbool x5.2)) rfl rfl (vt rfl)) rfl ?_
  refine AOps.cons (op_fst rfl rfl (vt rfl)) rfl ?_
  refine AOps.cons (op_snd rfl rfl (vt rfl)) rfl ?_
  refine AOps.consT rfl (op_alloc 5 rfl rfl zr67) ?_
  rintro _ ⟨g6, rfl⟩
  refine AOps.cons (op_store rfl rfl ty67 (vt rfl) (i := 5) rfl (vt rfl)) rfl ?_
  refine AOps.cons (op_assign (A := rd kbool x5.2) rfl rfl (vt rfl)) rfl ?_
  refine AOps.nil ?_
  refine AW.seq ?_
  refine AW.seq ?_
  refine AW.region ?_
  refine AOps.cons (op_move (A := rd kbool x5.2) rfl rfl (vt rfl)) rfl ?_
  refine AOps.cons (op_not rfl rfl (vt rfl)) rfl ?_
  refine AOps.cons (op_move (A := rd kbool (!x5.2)) rfl rfl (vt rfl)) rfl ?_
  refine AOps.consG (OpG.guard rfl rfl rfl rfl rfl fun hq => op_move (A := ptrL g2 (Lens.id kexec_run_o2)) rfl rfl (vt rfl)) ?_
  refine AOps.consG (OpG.guard rfl rfl rfl rfl rfl fun hq => op_nilCheck rfl rfl (vgt rfl hq)) ?_
  refine AOps.consG (OpG.guard rfl rfl rfl rfl rfl fun hq => op_field lexec_run_o2_4 rfl rfl flv72_4_2 (vgt rfl hq)) ?_
  refine AOps.consG (OpG.guard rfl rfl rfl rfl rfl fun hq => op_load rfl rfl ty3 (vgt rfl hq) (i := 0) rfl) ?_
  refine AOps.consG (OpG.guard rfl rfl rfl rfl rfl fun hq => op_geq rfl rfl (vgt rfl hq) (vk rfl)) ?_
  refine AOps.cons (op_any rfl rfl (vt rfl) (vt rfl)) rfl ?_
  refine AOps.nil ?_
  refine AW.cond (vt rfl) (fun hc => ?_) (fun hc => ?_)
  · have h := cond_t hc h
    refine AW.ret ?_
    obtain rfl := Option.some.inj h
    exact RetOK.turn (Turn.packF 0 2002 (fun v => (⟨r1.Env, r1.groups, v, r1.header, r1.depth⟩ : exec_run_o2)) (by decide) rfl rfl) (ret0Y (i := 0) Tryz.results31 rfl rfl)
  · have h := cond_f hc h
    refine AW.skip ?_
    refine AW.seq ?_
    refine AW.region ?_
    refine AOps.cons (op_move (A := ptrL g2 (Lens.id kexec_run_o2)) rfl rfl (vt rfl)) rfl ?_
    refine AOps.cons (op_nilCheck rfl rfl (vt rfl)) rfl ?_
    refine AOps.cons (op_field lexec_run_o2_3 rfl rfl flv72_3_2 (vt rfl)) rfl ?_
    refine AOps.cons (op_load rfl rfl ty31 (vt rfl) (i := 0) rfl) rfl ?_
    refine AOps.consT rfl (op_alloc 7 rfl rfl zr31) ?_
    rintro _ ⟨g7, rfl⟩
    refine AOps.cons (op_store rfl rfl ty31 (vt rfl) (i := 7) rfl (vt rfl)) rfl ?_
    refine AOps.nil ?_
    refine AW.seq ?_
    refine AW.region ?_
    refine AOps.cons (op_move (A := ptrL g2 (Lens.id kexec_run_o2)) rfl rfl (vt rfl)) rfl ?_
    refine AOps.cons (op_nilCheck rfl rfl (vt rfl)) rfl ?_
    refine AOps.cons (op_field lexec_run_o2_4 rfl rfl flv72_4_2 (vt rfl)) rfl ?_
    refine AOps.cons (op_load rfl rfl ty3 (vt rfl) (i := 0) rfl) rfl ?_
    refine AOps.cons (op_add rfl rfl (vt rfl) (vk rfl)) rfl ?_
    refine AOps.cons (op_nilCheck rfl rfl (vt rfl)) rfl ?_
    refine AOps.cons (op_field lexec_run_o2_4 rfl rfl flv72_4_2 (vt rfl)) rfl ?_
    refine AOps.cons (op_store rfl rfl ty3 (vt rfl) (i := 0) rfl (vt rfl)) rfl ?_
    refine AOps.nil ?_
    refine AW.seq ?_
    refine AW.seq ?_
    obtain ⟨x8, hx8, h⟩ := bsome h
    refine AW.regionAny [⟨[0], [38], [], []⟩, ⟨[38], [39], [], []⟩, ⟨[39], [40], [], []⟩, ⟨[40], [41], [0], []⟩, ⟨[4], [42], [5], []⟩, ⟨[41, 42], [43], [], []⟩, ⟨[43], [44], [], []⟩, ⟨[], [45], [], []⟩] mixed (by kernel_rfl) ?_
    refine SeqA.cons (loc [0] [] rfl rfl fun S hs hr => op_move (A := ptrL g2 (Lens.id kexec_run_o2)) rfl rfl (vt ((hs 0 rfl).trans rfl))) ⟨rfl, rfl, rfl, rfl⟩ ?_
    refine SeqA.cons (loc [38] [] rfl rfl fun S hs hr => op_nilCheck rfl rfl (vt ((hs 38 rfl).trans rfl))) ⟨rfl, rfl, rfl, rfl⟩ ?_
    refine SeqA.cons (loc [39] [] rfl rfl fun S hs hr => op_field lexec_run_o2_0 rfl rfl flv72_0_2 (vt ((hs 39 rfl).trans rfl))) ⟨rfl, rfl, rfl, rfl⟩ ?_
    refine SeqA.cons (loc [40] [0] rfl rfl fun S hs hr => op_load rfl rfl ty25 (vt ((hs 40 rfl).trans rfl)) (i := 0) ((hr 0 rfl).trans rfl)) ⟨rfl, rfl, rfl, rfl⟩ ?_
    refine SeqA.cons (loc [4] [5] rfl rfl fun S hs hr => op_load rfl rfl ty67 (vt ((hs 4 rfl).trans rfl)) (i := 5) ((hr 5 rfl).trans rfl)) ⟨rfl, rfl, rfl, rfl⟩ ?_
    refine SeqA.cons (loc [41, 42] [] rfl rfl fun S hs hr => op_call (xs := [.tmp 41, .tmp 42]) (c54 _ _ _ hx8) (Ent.mk Tryz.func54 rfl rfl) rfl rfl ⟨vt ((hs 41 rfl).trans rfl), vt ((hs 42 rfl).trans rfl), trivial⟩) ⟨rfl, rfl, rfl, rfl⟩ ?_
    refine SeqA.cons (loc [43] [] rfl rfl fun S hs hr => op_len' rfl rfl sl23 (vt ((hs 43 rfl).trans rfl))) ⟨rfl, rfl, rfl, rfl⟩ ?_
    refine SeqA.cons (loc [] [] rfl rfl fun S hs hr => op_move (A := rd (kint .i64) 0) rfl rfl (vk rfl)) ⟨rfl, rfl, rfl, rfl⟩ ?_
    refine AW.block ?_
    refine AW.loopG (d := []) (ν := (List Int) × Nat × (List Out) × Env × (List Group) × (Vector Wide 24) × Int × Value) (fun n => Sfx x8 n.2.1 n.1 ∧ F31s_l1 x5 R29 r1 n.1 n.2.1 n.2.2.1 n.2.2.2.1 n.2.2.2.2.1 n.2.2.2.2.2.1 n.2.2.2.2.2.2.1 = some r) (fun n => n.1.length) (fun n => [(0, ptrL g2 (Lens.id kexec_run_o2)), (4, ptrL g6 (Lens.id kGroup)), (6, ptrL g7 (Lens.id (karr 24 kWide))), (43, rd (ksl (kint .i64)) x8), (44, rd (kint .i64) (x8.length : Int)), (45, rd (kint .i64) (n.2.1 : Int))]) (fun n => [(0, Blk g2 72 kexec_run_o2 (⟨n.2.2.2.1, n.2.2.2.2.1, n.2.2.2.2.2.2.2, n.2.2.2.2.2.1, n.2.2.2.2.2.2.1⟩ : exec_run_o2)), (5, Blk g6 67 kGroup x5.1), (7, Blk g7 31 (karr 24 kWide) r1.header), (2002, Row n.2.2.2.2.2.2.2 69 kOut n.2.2.1)]) (x8, 0, r1.out, r1.Env, r1.groups, r1.header, (IntKind.i64.wrap (r1.depth + 1)), v3) ⟨Sfx.start _, h⟩ ⟨rfl, ⟨rfl, rfl, rfl, rfl, rfl, rfl, trivial⟩, ⟨rfl, rfl, rfl, rfl, trivial⟩⟩ ?_
    rintro ⟨l22, i21, l15, b17, b18, b19, b20, v16⟩ ⟨hsf1, h⟩
    change Sfx x8 i21 l22 at hsf1
    change F31s_l1 x5 R29 r1 l22 i21 l15 b17 b18 b19 b20 = some r at h
    change AW _ _ _ ⟨slots [(0, ptrL g2 (Lens.id kexec_run_o2)), (4, ptrL g6 (Lens.id kGroup)), (6, ptrL g7 (Lens.id (karr 24 kWide))), (43, rd (ksl (kint .i64)) x8), (44, rd (kint .i64) (x8.length : Int)), (45, rd (kint .i64) (i21 : Int))], ress [(0, Blk g2 72 kexec_run_o2 (⟨b17, b18, v16, b19, b20⟩ : exec_run_o2)), (5, Blk g6 67 kGroup x5.1), (7, Blk g7 31 (karr 24 kWide) r1.header), (2002, Row v16 69 kOut l15)], _⟩
    cases l22 with
    | nil =>
      unfold F31s_l1 at h
      refine AW.seq ?_
      refine AW.region ?_
      refine AOps.cons (op_lss rfl rfl (vt rfl) (vt rfl)) rfl ?_
      refine AOps.nil ?_
      refine AW.seq ?_
      refine AW.cond (vt rfl) (fun hc => absurd (of_decide_eq_true hc) hsf1.nil) (fun hc => ?_)
      refine AW.exit ?_
      refine AW.region ?_
      refine AOps.cons (op_move (A := ptrL g2 (Lens.id kexec_run_o2)) rfl rfl (vt rfl)) rfl ?_
      refine AOps.cons (op_nilCheck rfl rfl (vt rfl)) rfl ?_
      refine AOps.cons (op_field lexec_run_o2_4 rfl rfl flv72_4_2 (vt rfl)) rfl ?_
      refine AOps.cons (op_load rfl rfl ty3 (vt rfl) (i := 0) rfl) rfl ?_
      refine AOps.cons (op_sub rfl rfl (vt rfl) (vk rfl)) rfl ?_
      refine AOps.cons (op_nilCheck rfl rfl (vt rfl)) rfl ?_
      refine AOps.cons (op_field lexec_run_o2_4 rfl rfl flv72_4_2 (vt rfl)) rfl ?_
      refine AOps.cons (op_store rfl rfl ty3 (vt rfl) (i := 0) rfl (vt rfl)) rfl ?_
      refine AOps.nil ?_
      obtain rfl := Option.some.inj h
      exact RetOK.turn (Turn.packF 0 2002 (fun v => (⟨b17, b18, v, b19, (IntKind.i64.wrap (b20 - 1))⟩ : exec_run_o2)) (by decide) rfl rfl) (ret0Y (i := 0) Tryz.results31 rfl rfl)
    | cons x23 l22 =>
      unfold F31s_l1 at h
      generalize hgo1 : F31s_l1 x5 R29 r1 l22 = go1 at h
      refine AW.seq ?_
      refine AW.region ?_
      refine AOps.cons (op_lss rfl rfl (vt rfl) (vt rfl)) rfl ?_
      refine AOps.nil ?_
      refine AW.seq ?_
      refine AW.cond (vt rfl) (fun hc => ?_) (fun hc => absurd hsf1.cons (of_decide_eq_false hc))
      have hlti21 := of_decide_eq_true hc
      refine AW.skip ?_
      refine AW.seq ?_
      refine AW.block ?_
      refine AW.seq ?_
      refine AW.region ?_
      refine AOps.cons (op_indexs' rfl rfl sl23 (vt rfl) (vt rfl) hsf1.lget) rfl ?_
      refine AOps.cons (op_loadp rfl rfl ty3 (vt rfl)) rfl ?_
      refine AOps.cons (op_assign (A := rd (kint .i64) x23) rfl rfl (vt rfl)) rfl ?_
      refine AOps.nil ?_
      refine AW.seq ?_
      obtain ⟨e24, he24, h⟩ := bsome h
      obtain ⟨x25, hx25, h⟩ := bsome h
      obtain ⟨x26, hx26, h⟩ := bsome h
      obtain ⟨b27, hb27, h⟩ := bsome h
      refine AW.region ?_
      refine AOps.cons (op_move (A := ptrL g2 (Lens.id kexec_run_o2)) rfl rfl (vt rfl)) rfl ?_
      refine AOps.cons (op_field lGroup_2 rfl rfl fl67_2 (vt rfl)) rfl ?_
      refine AOps.cons (op_load rfl rfl ty65 (vt rfl) (i := 5) rfl) rfl ?_
      refine AOps.cons (op_move (A := rd (kint .i64) x23) rfl rfl (vt rfl)) rfl ?_
      refine AOps.cons (op_indexs' rfl rfl sl65 (vt rfl) (vt rfl) he24) rfl ?_
      refine AOps.cons (op_fieldp lBucket_3 rfl rfl fl64_3 (vt rfl)) rfl ?_
      refine AOps.cons (op_loadp rfl rfl ty26 (vt rfl)) rfl ?_
      refine AOps.cons (op_call (xs := [.const (Value.slice none 0 0), .tmp 55]) (c56 _ _ _ hx25) (Ent.mk Tryz.func56 rfl rfl) rfl rfl ⟨vnil, vt rfl, trivial⟩) rfl ?_
      refine AOps.cons (op_call (xs := [.tmp 56]) (c55 _ _ hx26) (Ent.mk Tryz.func55 rfl rfl) rfl rfl ⟨vt rfl, trivial⟩) rfl ?_
      refine AOps.packF 0 2002 (fun v => (⟨b17, b18, v, b19, b20⟩ : exec_run_o2)) (by decide) rfl rfl ?_
      refine AOps.consT rfl (op_callR 0 (xs := [.tmp 49, .tmp 57]) (hR29 _ _ _ _ hb27) (Ent.mk Tryz.func29 rfl rfl) rfl rfl ⟨vt rfl, vt rfl, trivial⟩ rfl) ?_
      rintro _ ⟨_u, rfl⟩
      refine AOps.unboxF 0 2002 (by decide) rfl rfl fun v28 => ?_
      refine AOps.nil ?_
      refine AW.region ?_
      refine AOps.cons (op_move (A := ptrL g2 (Lens.id kexec_run_o2)) rfl rfl (vt rfl)) rfl ?_
      refine AOps.cons (op_load rfl rfl ty31 (vt rfl) (i := 7) rfl) rfl ?_
      refine AOps.cons (op_nilCheck rfl rfl (vt rfl)) rfl ?_
      refine AOps.cons (op_field lexec_run_o2_3 rfl rfl flv72_3_2 (vt rfl)) rfl ?_
      refine AOps.cons (op_store rfl rfl ty31 (vt rfl) (i := 0) rfl (vt rfl)) rfl ?_
      refine AOps.nil ?_
      refine AW.region ?_
      refine AOps.cons (op_incr (t := 44) rfl rfl (vt rfl) (vk rfl) (vt rfl) hlti21) rfl ?_
      refine AOps.cons (op_move (A := rd (kint .i64) ((i21 + 1 : Nat) : Int)) rfl rfl (vt rfl)) rfl ?_
      refine AOps.nil ?_
      subst hgo1
      exact ⟨(l22, i21 + 1, b27.out, b27.Env, b27.groups, r1.header, b27.depth, v28), Nat.lt_succ_self _, ⟨hsf1.next, h⟩, ⟨rfl, ⟨rfl, rfl, rfl, rfl, rfl, rfl, trivial⟩, ⟨rfl, rfl, rfl, rfl, trivial⟩⟩⟩
def FR29_31 : Nat → (exec_run → (List Action) → Option exec_run) × (exec_run → Int → Option exec_run)
  | 0 => ((fun _ _ => none), (fun _ _ => none))
  | n + 1 => ((F29s (FR29_31 n).1 (FR29_31 n).2), (F31s (FR29_31 n).1 (FR29_31 n).2))
theorem cR29_31 : ∀ n : Nat, (∀ (g2 : Nat) (r1 : exec_run) (acts4 : (List Action)) (r : exec_run), (FR29_31 n).1 r1 acts4 = some r → Con Tryz.prog 29 [ptrL g2 (Lens.id kexec_run_o2), rd (ksl kAction) acts4] (BoxF g2 72 kexec_run_o2 (fun v => (⟨r1.Env, r1.groups, v, r1.header, r1.depth⟩ : exec_run_o2)) 69 kOut r1.out) (fun _ : Unit => top) (fun _ => BoxF g2 72 kexec_run_o2 (fun v => (⟨r.Env, r.groups, v, r.header, r.depth⟩ : exec_run_o2)) 69 kOut r.out)) ∧ (∀ (g2 : Nat) (r1 : exec_run) (id4 : Int) (r : exec_run), (FR29_31 n).2 r1 id4 = some r → Con Tryz.prog 31 [ptrL g2 (Lens.id kexec_run_o2), rd (kint .i64) id4] (BoxF g2 72 kexec_run_o2 (fun v => (⟨r1.Env, r1.groups, v, r1.header, r1.depth⟩ : exec_run_o2)) 69 kOut r1.out) (fun _ : Unit => top) (fun _ => BoxF g2 72 kexec_run_o2 (fun v => (⟨r.Env, r.groups, v, r.header, r.depth⟩ : exec_run_o2)) 69 kOut r.out))
  | 0 => ⟨(by intros; rename_i h; cases h), (by intros; rename_i h; cases h)⟩
  | n + 1 => by
    have ih := cR29_31 n
    exact ⟨(c29s (FR29_31 n).1 ih.1 (FR29_31 n).2 ih.2), (c31s (FR29_31 n).1 ih.1 (FR29_31 n).2 ih.2)⟩
def F29 (r1 : exec_run) (acts4 : (List Action)) : Option exec_run := (FR29_31 fuel0).1 r1 acts4
theorem c29 : ∀ (g2 : Nat) (r1 : exec_run) (acts4 : (List Action)) (r : exec_run), F29 r1 acts4 = some r → Con Tryz.prog 29 [ptrL g2 (Lens.id kexec_run_o2), rd (ksl kAction) acts4] (BoxF g2 72 kexec_run_o2 (fun v => (⟨r1.Env, r1.groups, v, r1.header, r1.depth⟩ : exec_run_o2)) 69 kOut r1.out) (fun _ : Unit => top) (fun _ => BoxF g2 72 kexec_run_o2 (fun v => (⟨r.Env, r.groups, v, r.header, r.depth⟩ : exec_run_o2)) 69 kOut r.out) := (cR29_31 fuel0).1
def F31 (r1 : exec_run) (id4 : Int) : Option exec_run := (FR29_31 fuel0).2 r1 id4
theorem c31 : ∀ (g2 : Nat) (r1 : exec_run) (id4 : Int) (r : exec_run), F31 r1 id4 = some r → Con Tryz.prog 31 [ptrL g2 (Lens.id kexec_run_o2), rd (kint .i64) id4] (BoxF g2 72 kexec_run_o2 (fun v => (⟨r1.Env, r1.groups, v, r1.header, r1.depth⟩ : exec_run_o2)) 69 kOut r1.out) (fun _ : Unit => top) (fun _ => BoxF g2 72 kexec_run_o2 (fun v => (⟨r.Env, r.groups, v, r.header, r.depth⟩ : exec_run_o2)) 69 kOut r.out) := (cR29_31 fuel0).2
-- weirbox/exec.Do
def F8 (l1 : (List Group)) (e2 : Env) (acts3 : (List Action)) (h4 : (Vector Wide 24)) : Option ((List Out) × (Vector Wide 24)) :=
  (F29 (⟨e2, l1, [], h4, 0⟩ : exec_run) acts3).bind fun b9 => some (b9.out, b9.header)
theorem c8 (l1 : (List Group)) (e2 : Env) (acts3 : (List Action)) (h4 : (Vector Wide 24)) (r : ((List Out) × (Vector Wide 24))) (h : F8 l1 e2 acts3 h4 = some r) : PCon Tryz.prog 8 [rd (ksl kGroup) l1, rd kEnv e2, rd (ksl kAction) acts3, rd (karr 24 kWide) h4] (tup2 (rd (ksl kOut) r.1) (rd (karr 24 kWide) r.2)) := by
  refine PCon.of (Con.intro0 Tryz.func8 rfl Tryz.ntmps8 rfl fun w H => ?_)
  unfold F8 at h
  refine AW.seq ?_
  refine AW.region ?_
  refine AOps.consT rfl (op_box 6 rfl rfl (vt rfl)) ?_
  rintro _ ⟨g5, rfl⟩
  refine AOps.consT rfl (op_box 8 rfl rfl (vt rfl)) ?_
  rintro _ ⟨g6, rfl⟩
  refine AOps.cons (op_assign (A := rd (ksl kOut) []) rfl rfl vnil) rfl ?_
  refine AOps.consT rfl (op_alloc 10 rfl rfl zr31) ?_
  rintro _ ⟨g7, rfl⟩
  refine AOps.nil ?_
  refine AW.seq ?_
  refine AW.newnil 2322 69 kOut ?_
  refine AW.region ?_
  refine AOps.cons (op_load rfl rfl ty25 (vt rfl) (i := 6) rfl) rfl ?_
  refine AOps.cons (op_move (A := rd (ksl kGroup) l1) rfl rfl (vt rfl)) rfl ?_
  refine AOps.cons (op_load rfl rfl ty31 (vt rfl) (i := 8) rfl) rfl ?_
  refine AOps.cons (op_build (ps := [(0, .tmp 11), (1, .tmp 12), (3, .tmp 13)]) (x := (⟨e2, l1, (.slice none 0 0), h4, 0⟩ : exec_run_o2)) rfl rfl rfl (by kernel_rfl) zrv72_2 ⟨_, _, lexec_run_o2_0, _, by kernel_rfl, (vt rfl), _, _, lexec_run_o2_1, _, by kernel_rfl, (vt rfl), _, _, lexec_run_o2_3, _, by kernel_rfl, (vt rfl), rfl⟩) rfl ?_
  refine AOps.consT rfl (op_box 16 rfl rfl (vt rfl)) ?_
  rintro _ ⟨g8, rfl⟩
  refine AOps.cons (op_assign (A := ptrL g8 (Lens.id kexec_run_o2)) rfl rfl (vt rfl)) rfl ?_
  refine AOps.nil ?_
  refine AW.seq ?_
  obtain ⟨b9, hb9, h⟩ := bsome h
  refine AW.region ?_
  refine AOps.cons (op_move (A := ptrL g8 (Lens.id kexec_run_o2)) rfl rfl (vt rfl)) rfl ?_
  refine AOps.cons (op_move (A := rd (ksl kAction) acts3) rfl rfl (vt rfl)) rfl ?_
  refine AOps.packF 16 2322 (fun v => (⟨e2, l1, v, h4, 0⟩ : exec_run_o2)) (by decide) rfl rfl ?_
  refine AOps.consT rfl (op_callR 16 (xs := [.tmp 16, .tmp 17]) (c29 _ _ _ _ hb9) (Ent.mk Tryz.func29 rfl rfl) rfl rfl ⟨vt rfl, vt rfl, trivial⟩ rfl) ?_
  rintro _ ⟨_u, rfl⟩
  refine AOps.unboxF 16 2322 (by decide) rfl rfl fun v10 => ?_
  refine AOps.nil ?_
  refine AW.seq ?_
  refine AW.regionAny [⟨[10], [19], [], []⟩, ⟨[19], [20], [], []⟩, ⟨[20], [21], [], []⟩, ⟨[21], [22], [16], []⟩, ⟨[10], [23], [], []⟩, ⟨[23], [24], [], []⟩, ⟨[24], [25], [], []⟩, ⟨[25], [26], [16], []⟩, ⟨[22], [8], [], []⟩, ⟨[9, 26], [], [10], [10]⟩] mixed (by kernel_rfl) ?_
  refine SeqA.cons (loc [10] [] rfl rfl fun S hs hr => op_move (A := ptrL g8 (Lens.id kexec_run_o2)) rfl rfl (vt ((hs 10 rfl).trans rfl))) ⟨rfl, rfl, rfl, rfl⟩ ?_
  refine SeqA.cons (loc [19] [] rfl rfl fun S hs hr => op_nilCheck rfl rfl (vt ((hs 19 rfl).trans rfl))) ⟨rfl, rfl, rfl, rfl⟩ ?_
  refine SeqA.cons (loc [20] [] rfl rfl fun S hs hr => op_field lexec_run_o2_2 rfl rfl flv72_2_2 (vt ((hs 20 rfl).trans rfl))) ⟨rfl, rfl, rfl, rfl⟩ ?_
  refine SeqA.cons (loc [21] [16] rfl rfl fun S hs hr => op_loadv v10 rfl rfl tyr34 (vt ((hs 21 rfl).trans rfl)) (i := 16) ((hr 16 rfl).trans rfl) rfl) ⟨rfl, rfl, rfl, rfl⟩ ?_
  refine SeqA.cons (loc [10] [] rfl rfl fun S hs hr => op_move (A := ptrL g8 (Lens.id kexec_run_o2)) rfl rfl (vt ((hs 10 rfl).trans rfl))) ⟨rfl, rfl, rfl, rfl⟩ ?_
  refine SeqA.cons (loc [23] [] rfl rfl fun S hs hr => op_nilCheck rfl rfl (vt ((hs 23 rfl).trans rfl))) ⟨rfl, rfl, rfl, rfl⟩ ?_
  refine SeqA.cons (loc [24] [] rfl rfl fun S hs hr => op_field lexec_run_o2_3 rfl rfl flv72_3_2 (vt ((hs 24 rfl).trans rfl))) ⟨rfl, rfl, rfl, rfl⟩ ?_
  refine SeqA.cons (loc [25] [16] rfl rfl fun S hs hr => op_load rfl rfl ty31 (vt ((hs 25 rfl).trans rfl)) (i := 16) ((hr 16 rfl).trans rfl)) ⟨rfl, rfl, rfl, rfl⟩ ?_
  refine SeqA.cons (loc [22] [] rfl rfl fun S hs hr => op_assign (A := raw v10) rfl rfl (vt ((hs 22 rfl).trans rfl))) ⟨rfl, rfl, rfl, rfl⟩ ?_
  refine SeqA.cons (locr [9, 26] [10] rfl fun S hs hr => op_store rfl rfl ty31 (vt ((hs 9 rfl).trans rfl)) (i := 10) ((hr 10 rfl).trans rfl) (vt ((hs 26 rfl).trans rfl))) ⟨rfl, rfl, rfl, rfl⟩ ?_
  refine AW.freezes [8, 22] 2322 rfl ⟨rfl, rfl, trivial⟩ rfl ?_
  refine AW.ret ?_
  obtain rfl := Option.some.inj h
  exact ret2 Tryz.results8 rfl (out_tmp rfl) (out_cell rfl (i := 10) rfl ty31)
-- weirbox/exec.Group
def F10 (l1 : (List Group)) (e2 : Env) (id3 : Int) (h4 : (Vector Wide 24)) : Option (List Out) :=
  (F31 (⟨e2, l1, [], h4, 0⟩ : exec_run) id3).bind fun b8 => some b8.out
theorem c10 (l1 : (List Group)) (e2 : Env) (id3 : Int) (h4 : (Vector Wide 24)) (r : (List Out)) (h : F10 l1 e2 id3 h4 = some r) : PCon Tryz.prog 10 [rd (ksl kGroup) l1, rd kEnv e2, rd (kint .i64) id3, rd (karr 24 kWide) h4] (rd (ksl kOut) r) := by
  refine PCon.of (Con.intro0 Tryz.func10 rfl Tryz.ntmps10 rfl fun w H => ?_)
  unfold F10 at h
  refine AW.seq ?_
  refine AW.region ?_
  refine AOps.consT rfl (op_box 6 rfl rfl (vt rfl)) ?_
  rintro _ ⟨g5, rfl⟩
  refine AOps.consT rfl (op_box 8 rfl rfl (vt rfl)) ?_
  rintro _ ⟨g6, rfl⟩
  refine AOps.cons (op_assign (A := rd (ksl kOut) []) rfl rfl vnil) rfl ?_
  refine AOps.nil ?_
  refine AW.seq ?_
  refine AW.newnil 2302 69 kOut ?_
  refine AW.region ?_
  refine AOps.cons (op_load rfl rfl ty25 (vt rfl) (i := 6) rfl) rfl ?_
  refine AOps.cons (op_move (A := rd (ksl kGroup) l1) rfl rfl (vt rfl)) rfl ?_
  refine AOps.cons (op_load rfl rfl ty31 (vt rfl) (i := 8) rfl) rfl ?_
  refine AOps.cons (op_build (ps := [(0, .tmp 10), (1, .tmp 11), (3, .tmp 12)]) (x := (⟨e2, l1, (.slice none 0 0), h4, 0⟩ : exec_run_o2)) rfl rfl rfl (by kernel_rfl) zrv72_2 ⟨_, _, lexec_run_o2_0, _, by kernel_rfl, (vt rfl), _, _, lexec_run_o2_1, _, by kernel_rfl, (vt rfl), _, _, lexec_run_o2_3, _, by kernel_rfl, (vt rfl), rfl⟩) rfl ?_
  refine AOps.consT rfl (op_box 15 rfl rfl (vt rfl)) ?_
  rintro _ ⟨g7, rfl⟩
  refine AOps.cons (op_assign (A := ptrL g7 (Lens.id kexec_run_o2)) rfl rfl (vt rfl)) rfl ?_
  refine AOps.nil ?_
  refine AW.seq ?_
  obtain ⟨b8, hb8, h⟩ := bsome h
  refine AW.region ?_
  refine AOps.cons (op_move (A := ptrL g7 (Lens.id kexec_run_o2)) rfl rfl (vt rfl)) rfl ?_
  refine AOps.cons (op_move (A := rd (kint .i64) id3) rfl rfl (vt rfl)) rfl ?_
  refine AOps.packF 15 2302 (fun v => (⟨e2, l1, v, h4, 0⟩ : exec_run_o2)) (by decide) rfl rfl ?_
  refine AOps.consT rfl (op_callR 15 (xs := [.tmp 15, .tmp 16]) (c31 _ _ _ _ hb8) (Ent.mk Tryz.func31 rfl rfl) rfl rfl ⟨vt rfl, vt rfl, trivial⟩ rfl) ?_
  rintro _ ⟨_u, rfl⟩
  refine AOps.unboxF 15 2302 (by decide) rfl rfl fun v9 => ?_
  refine AOps.nil ?_
  refine AW.seq ?_
  refine AW.region ?_
  refine AOps.cons (op_move (A := ptrL g7 (Lens.id kexec_run_o2)) rfl rfl (vt rfl)) rfl ?_
  refine AOps.cons (op_nilCheck rfl rfl (vt rfl)) rfl ?_
  refine AOps.cons (op_field lexec_run_o2_2 rfl rfl flv72_2_2 (vt rfl)) rfl ?_
  refine AOps.cons (op_loadv v9 rfl rfl tyr34 (vt rfl) (i := 15) rfl rfl) rfl ?_
  refine AOps.cons (op_assign (A := raw v9) rfl rfl (vt rfl)) rfl ?_
  refine AOps.nil ?_
  refine AW.freezes [8, 21] 2302 rfl ⟨rfl, rfl, trivial⟩ rfl ?_
  refine AW.ret ?_
  obtain rfl := Option.some.inj h
  exact ret1 Tryz.results10 rfl (out_tmp rfl)
-- slices.Equal[[]weirbox/api.Out,weirbox/api.Out]
def F33_l1 (s11 : (List Out)) (s22 : (List Out)) : Nat → Nat → Option Bool
  | 0, i3 => some true
  | m4 + 1, i3 => (lget s11 (i3 : Int)).bind fun e5 => (lget s22 (i3 : Int)).bind fun e6 => (bif (decide (e5 ≠ e6)) then some false else (F33_l1 s11 s22 m4) (i3 + 1))
def F33 (s11 : (List Out)) (s22 : (List Out)) : Option Bool :=
  (bif (decide ((s11.length : Int) ≠ (s22.length : Int))) then some false else F33_l1 s11 s22 ((s11.length : Int) : Int).toNat 0)
theorem c33 (s11 : (List Out)) (s22 : (List Out)) (r : Bool) (h : F33 s11 s22 = some r) : PCon Tryz.prog 33 [rd (ksl kOut) s11, rd (ksl kOut) s22] (rd kbool r) := by
  refine PCon.of (Con.intro0 Tryz.func33 rfl Tryz.ntmps33 rfl fun w H => ?_)
  unfold F33 at h
  refine AW.seq ?_
  refine AW.region ?_
  refine AOps.cons (op_assign (A := rd kbool false) rfl rfl vb) rfl ?_
  refine AOps.nil ?_
  refine AW.seq ?_
  refine AW.seq ?_
  refine AW.region ?_
  refine AOps.cons (op_move (A := rd (ksl kOut) s11) rfl rfl (vt rfl)) rfl ?_
  refine AOps.cons (op_len' rfl rfl sl34 (vt rfl)) rfl ?_
  refine AOps.cons (op_move (A := rd (ksl kOut) s22) rfl rfl (vt rfl)) rfl ?_
  refine AOps.cons (op_len' rfl rfl sl34 (vt rfl)) rfl ?_
  refine AOps.cons (op_neq rfl rfl (vt rfl) (vt rfl)) rfl ?_
  refine AOps.nil ?_
  refine AW.cond (vt rfl) (fun hc => ?_) (fun hc => ?_)
  · have h := cond_t hc h
    refine AW.seq ?_
    refine AW.region ?_
    refine AOps.cons (op_assign (A := rd kbool false) rfl rfl vb) rfl ?_
    refine AOps.nil ?_
    refine AW.ret ?_
    obtain rfl := Option.some.inj h
    exact ret1 Tryz.results33 rfl (out_tmp rfl)
  · have h := cond_f hc h
    refine AW.skip ?_
    refine AW.seq ?_
    refine AW.seq ?_
    refine AW.region ?_
    refine AOps.cons (op_move (A := rd (ksl kOut) s11) rfl rfl (vt rfl)) rfl ?_
    refine AOps.cons (op_len' rfl rfl sl34 (vt rfl)) rfl ?_
    refine AOps.cons (op_move (A := rd (kint .i64) 0) rfl rfl (vk rfl)) rfl ?_
    refine AOps.nil ?_
    refine AW.block ?_
    refine AW.loopG (d := []) (ν := Nat × Nat) (fun n => Cnt (s11.length : Int) n.2 n.1 ∧ F33_l1 s11 s22 n.1 n.2 = some r) (fun n => n.1) (fun n => [(0, rd (ksl kOut) s11), (1, rd (ksl kOut) s22), (12, rd (kint .i64) (s11.length : Int)), (13, rd (kint .i64) (n.2 : Int))]) (fun n => []) (((s11.length : Int) : Int).toNat, 0) ⟨Cnt.start _, h⟩ ⟨rfl, ⟨rfl, rfl, rfl, rfl, trivial⟩, trivial⟩ ?_
    rintro ⟨m4, i3⟩ ⟨hsf1, h⟩
    change Cnt (s11.length : Int) i3 m4 at hsf1
    change F33_l1 s11 s22 m4 i3 = some r at h
    change AW _ _ _ ⟨slots [(0, rd (ksl kOut) s11), (1, rd (ksl kOut) s22), (12, rd (kint .i64) (s11.length : Int)), (13, rd (kint .i64) (i3 : Int))], ress [], _⟩
    cases m4 with
    | zero =>
      unfold F33_l1 at h
      refine AW.seq ?_
      refine AW.region ?_
      refine AOps.cons (op_lss rfl rfl (vt rfl) (vt rfl)) rfl ?_
      refine AOps.nil ?_
      refine AW.seq ?_
      refine AW.cond (vt rfl) (fun hc => absurd (of_decide_eq_true hc) hsf1.zero) (fun hc => ?_)
      refine AW.exit ?_
      refine AW.seq ?_
      refine AW.region ?_
      refine AOps.cons (op_assign (A := rd kbool true) rfl rfl vb) rfl ?_
      refine AOps.nil ?_
      refine AW.ret ?_
      obtain rfl := Option.some.inj h
      exact ret1 Tryz.results33 rfl (out_tmp rfl)
    | succ m4 =>
      unfold F33_l1 at h
      generalize hgo1 : F33_l1 s11 s22 m4 = go1 at h
      refine AW.seq ?_
      refine AW.region ?_
      refine AOps.cons (op_lss rfl rfl (vt rfl) (vt rfl)) rfl ?_
      refine AOps.nil ?_
      refine AW.seq ?_
      refine AW.cond (vt rfl) (fun hc => ?_) (fun hc => absurd hsf1.succ (of_decide_eq_false hc))
      have hlti3 := of_decide_eq_true hc
      refine AW.skip ?_
      refine AW.seq ?_
      refine AW.block ?_
      refine AW.seq ?_
      refine AW.region ?_
      refine AOps.cons (op_move (A := rd (kint .i64) (i3 : Int)) rfl rfl (vt rfl)) rfl ?_
      refine AOps.cons (op_assign (A := rd (kint .i64) (i3 : Int)) rfl rfl (vt rfl)) rfl ?_
      refine AOps.nil ?_
      refine AW.seq ?_
      obtain ⟨e5, he5, h⟩ := bsome h
      obtain ⟨e6, he6, h⟩ := bsome h
      refine AW.regionAny [⟨[0], [16], [], []⟩, ⟨[5], [17], [], []⟩, ⟨[16, 17], [18], [], []⟩, ⟨[18], [19], [], []⟩, ⟨[1], [20], [], []⟩, ⟨[5], [21], [], []⟩, ⟨[20, 21], [22], [], []⟩, ⟨[22], [23], [], []⟩, ⟨[19, 23], [24], [], []⟩] mixed (by kernel_rfl) ?_
      refine SeqA.cons (loc [0] [] rfl rfl fun S hs hr => op_move (A := rd (ksl kOut) s11) rfl rfl (vt ((hs 0 rfl).trans rfl))) ⟨rfl, rfl, rfl, rfl⟩ ?_
      refine SeqA.cons (loc [5] [] rfl rfl fun S hs hr => op_move (A := rd (kint .i64) (i3 : Int)) rfl rfl (vt ((hs 5 rfl).trans rfl))) ⟨rfl, rfl, rfl, rfl⟩ ?_
      refine SeqA.cons (loc [16, 17] [] rfl rfl fun S hs hr => op_indexs' rfl rfl sl34 (vt ((hs 16 rfl).trans rfl)) (vt ((hs 17 rfl).trans rfl)) he5) ⟨rfl, rfl, rfl, rfl⟩ ?_
      refine SeqA.cons (loc [18] [] rfl rfl fun S hs hr => op_loadp rfl rfl ty69 (vt ((hs 18 rfl).trans rfl))) ⟨rfl, rfl, rfl, rfl⟩ ?_
      refine SeqA.cons (loc [1] [] rfl rfl fun S hs hr => op_move (A := rd (ksl kOut) s22) rfl rfl (vt ((hs 1 rfl).trans rfl))) ⟨rfl, rfl, rfl, rfl⟩ ?_
      refine SeqA.cons (loc [5] [] rfl rfl fun S hs hr => op_move (A := rd (kint .i64) (i3 : Int)) rfl rfl (vt ((hs 5 rfl).trans rfl))) ⟨rfl, rfl, rfl, rfl⟩ ?_
      refine SeqA.cons (loc [20, 21] [] rfl rfl fun S hs hr => op_indexs' rfl rfl sl34 (vt ((hs 20 rfl).trans rfl)) (vt ((hs 21 rfl).trans rfl)) he6) ⟨rfl, rfl, rfl, rfl⟩ ?_
      refine SeqA.cons (loc [22] [] rfl rfl fun S hs hr => op_loadp rfl rfl ty69 (vt ((hs 22 rfl).trans rfl))) ⟨rfl, rfl, rfl, rfl⟩ ?_
      refine SeqA.cons (loc [19, 23] [] rfl rfl fun S hs hr => op_neqk rfl rfl eqk69 (by decide) rfl eg69 (vt ((hs 19 rfl).trans rfl)) (vt ((hs 23 rfl).trans rfl))) ⟨rfl, rfl, rfl, rfl⟩ ?_
      refine AW.cond (vt rfl) (fun hc => ?_) (fun hc => ?_)
      · have h := cond_t hc h
        refine AW.seq ?_
        refine AW.region ?_
        refine AOps.cons (op_assign (A := rd kbool false) rfl rfl vb) rfl ?_
        refine AOps.nil ?_
        refine AW.ret ?_
        obtain rfl := Option.some.inj h
        exact ret1 Tryz.results33 rfl (out_tmp rfl)
      · have h := cond_f hc h
        refine AW.skip ?_
        refine AW.region ?_
        refine AOps.cons (op_incr (t := 12) rfl rfl (vt rfl) (vk rfl) (vt rfl) hlti3) rfl ?_
        refine AOps.cons (op_move (A := rd (kint .i64) ((i3 + 1 : Nat) : Int)) rfl rfl (vt rfl)) rfl ?_
        refine AOps.nil ?_
        subst hgo1
        exact ⟨(m4, i3 + 1), Nat.lt_succ_self _, ⟨hsf1.next, h⟩, ⟨rfl, ⟨rfl, rfl, rfl, rfl, trivial⟩, trivial⟩⟩
-- weirbox/exec.Same
def F13 (a1 : (List Out)) (b2 : (List Out)) : Option Bool :=
  (F33 a1 b2).bind fun x3 => some x3
theorem c13 (a1 : (List Out)) (b2 : (List Out)) (r : Bool) (h : F13 a1 b2 = some r) : PCon Tryz.prog 13 [rd (ksl kOut) a1, rd (ksl kOut) b2] (rd kbool r) := by
  refine PCon.of (Con.intro0 Tryz.func13 rfl Tryz.ntmps13 rfl fun w H => ?_)
  unfold F13 at h
  refine AW.seq ?_
  refine AW.region ?_
  refine AOps.cons (op_assign (A := rd kbool false) rfl rfl vb) rfl ?_
  refine AOps.nil ?_
  refine AW.seq ?_
  obtain ⟨x3, hx3, h⟩ := bsome h
  refine AW.region ?_
  refine AOps.cons (op_move (A := rd (ksl kOut) a1) rfl rfl (vt rfl)) rfl ?_
  refine AOps.cons (op_move (A := rd (ksl kOut) b2) rfl rfl (vt rfl)) rfl ?_
  refine AOps.cons (op_call (xs := [.tmp 5, .tmp 6]) (c33 _ _ _ hx3) (Ent.mk Tryz.func33 rfl rfl) rfl rfl ⟨vt rfl, vt rfl, trivial⟩) rfl ?_
  refine AOps.cons (op_assign (A := rd kbool x3) rfl rfl (vt rfl)) rfl ?_
  refine AOps.nil ?_
  refine AW.ret ?_
  obtain rfl := Option.some.inj h
  exact ret1 Tryz.results13 rfl (out_tmp rfl)
end Go.Proofs.YtokmmcflinnfiaaGreat.W
