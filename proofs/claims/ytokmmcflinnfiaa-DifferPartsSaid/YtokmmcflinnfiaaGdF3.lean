/- GdF3: a part of the proof. -/
import Derived.Test.YtokmmcflinnfiaaGdF2
set_option linter.unusedVariables false
set_option maxRecDepth 4000
set_option linter.unusedSimpArgs false
namespace Go.Proofs.Ytokmmcflinnfiaa.W
open Go Go.Wb
-- weirbox/differ.List
def F37 (c1 : (Vector Tern 24)) (a2 : (List Atom)) (b3 : (List Atom)) : Option (List (Vector Tern 24)) :=
  (F34 c1 a2 b3).bind fun x5 => (F87 x5).bind fun x6 => some x6
theorem c37 (c1 : (Vector Tern 24)) (a2 : (List Atom)) (b3 : (List Atom)) (r : (List (Vector Tern 24))) (h : F37 c1 a2 b3 = some r) : PCon Try.prog 37 [rd (karr 24 kTern) c1, rd (ksl kAtom) a2, rd (ksl kAtom) b3] (rd (ksl (karr 24 kTern)) r) := by
  refine PCon.of (Con.intro0 Try.func37 rfl Try.ntmps37 rfl fun w H => ?_)
  unfold F37 at h
  refine AW.seq ?_
  refine AW.region ?_
  refine AOps.consT rfl (op_box 4 rfl rfl (vt rfl)) ?_
  rintro _ ⟨g4, rfl⟩
  refine AOps.cons (op_assign (A := rd (ksl (karr 24 kTern)) []) rfl rfl vnil) rfl ?_
  refine AOps.nil ?_
  refine AW.seq ?_
  obtain ⟨x5, hx5, h⟩ := bsome h
  obtain ⟨x6, hx6, h⟩ := bsome h
  refine AW.region ?_
  refine AOps.cons (op_load rfl rfl ty56 (vt rfl) (i := 4) rfl) rfl ?_
  refine AOps.cons (op_move (A := rd (ksl kAtom) a2) rfl rfl (vt rfl)) rfl ?_
  refine AOps.cons (op_move (A := rd (ksl kAtom) b3) rfl rfl (vt rfl)) rfl ?_
  refine AOps.cons (op_call (xs := [.tmp 7, .tmp 8, .tmp 9]) (c34 _ _ _ _ hx5) (Ent.mk Try.func34 rfl rfl) rfl rfl ⟨vt rfl, vt rfl, vt rfl, trivial⟩) rfl ?_
  refine AOps.cons (op_call (xs := [.tmp 10]) (c87 _ _ hx6) (Ent.mk Try.func87 rfl rfl) rfl rfl ⟨vt rfl, trivial⟩) rfl ?_
  refine AOps.cons (op_assign (A := rd (ksl (karr 24 kTern)) x6) rfl rfl (vt rfl)) rfl ?_
  refine AOps.nil ?_
  refine AW.ret ?_
  obtain rfl := Option.some.inj h
  exact ret1 Try.results37 rfl (out_tmp rfl)
-- weirbox/differ.At
def F41_b1 (h3 : (Vector Wide 24)) (b8 : Bool) (x10 : differ_single) : Option (Lp Bool) :=
  (chk 24 x10.field).bind fun j12 => (F81 (Vector.get h3 j12) x10.bit).bind fun x13 => (bif (!(x13 == x10.on)) then some (.out .ret true) else some (.go b8))
def F41 (a1 : (List Atom)) (b2 : (List Atom)) (h3 : (Vector Wide 24)) : Option Bool :=
  (F39 a1 b2).bind fun x6 => (bif x6 then some true else (F80 a1 b2).bind fun x7 => (Itr.run x7 Bool (F41_b1 h3) (.go false)).bind fun z9 => lpCase z9 (fun s14 => some false) (fun c s14 => bif cRet c then some s14 else none))
theorem c41 (a1 : (List Atom)) (b2 : (List Atom)) (h3 : (Vector Wide 24)) (r : Bool) (h : F41 a1 b2 h3 = some r) : PCon Try.prog 41 [rd (ksl kAtom) a1, rd (ksl kAtom) b2, rd (karr 24 kWide) h3] (rd kbool r) := by
  refine PCon.of (Con.intro0 Try.func41 rfl Try.ntmps41 rfl fun w H => ?_)
  unfold F41 at h
  refine AW.seq ?_
  refine AW.region ?_
  refine AOps.consT rfl (op_box 6 rfl rfl (vt rfl)) ?_
  rintro _ ⟨g4, rfl⟩
  refine AOps.consT rfl (op_alloc 7 rfl rfl zr4) ?_
  rintro _ ⟨g5, rfl⟩
  refine AOps.nil ?_
  refine AW.seq ?_
  refine AW.seq ?_
  obtain ⟨x6, hx6, h⟩ := bsome h
  refine AW.region ?_
  refine AOps.cons (op_move (A := rd (ksl kAtom) a1) rfl rfl (vt rfl)) rfl ?_
  refine AOps.cons (op_move (A := rd (ksl kAtom) b2) rfl rfl (vt rfl)) rfl ?_
  refine AOps.cons (op_call (xs := [.tmp 8, .tmp 9]) (c39 _ _ _ hx6) (Ent.mk Try.func39 rfl rfl) rfl rfl ⟨vt rfl, vt rfl, trivial⟩) rfl ?_
  refine AOps.nil ?_
  refine AW.cond (vt rfl) (fun hc => ?_) (fun hc => ?_)
  · have h := cond_t hc h
    refine AW.seq ?_
    refine AW.region ?_
    refine AOps.cons (op_store rfl rfl ty4 (vt rfl) (i := 7) rfl vb) rfl ?_
    refine AOps.nil ?_
    refine AW.ret ?_
    obtain rfl := Option.some.inj h
    exact ret1 Try.results41 rfl (out_cell rfl (i := 7) rfl ty4)
  · have h := cond_f hc h
    refine AW.skip ?_
    refine AW.seq ?_
    refine AW.seq ?_
    obtain ⟨x7, hx7, h⟩ := bsome h
    refine AW.region ?_
    refine AOps.cons (op_move (A := rd (ksl kAtom) a1) rfl rfl (vt rfl)) rfl ?_
    refine AOps.cons (op_move (A := rd (ksl kAtom) b2) rfl rfl (vt rfl)) rfl ?_
    refine AOps.cons (op_call (xs := [.tmp 11, .tmp 12]) (c80 _ _ _ hx7) (Ent.mk Try.func80 rfl rfl) rfl rfl ⟨vt rfl, vt rfl, trivial⟩) rfl ?_
    refine AOps.nil ?_
    refine AW.block ?_
    obtain ⟨z9, hz9, h⟩ := bsome h
    refine AW.fit (d := []) (L := [(5, ptrL g4 (Lens.id (karr 24 kWide))), (6, ptrL g5 (Lens.id kbool)), (13, seqA Try.prog kdiffer_single x7)]) (M := [(6, Blk g4 59 (karr 24 kWide) h3), (7, Blk g5 4 kbool false)]) ⟨rfl, ⟨rfl, rfl, rfl, trivial⟩, ⟨rfl, rfl, trivial⟩⟩ ?_
    refine AW.rangeFunc (σ := Bool) (fun x => [rd kdiffer_single x]) (F41_b1 h3) (fun s => ress ((fun s => [(6, Blk g4 59 (karr 24 kWide) h3), (7, Blk g5 4 kbool s)]) s)) (fun _ s => ress ((fun s => [(6, Blk g4 59 (karr 24 kWide) h3), (7, Blk g5 4 kbool s)]) s)) [(5, ptrL g4 (Lens.id (karr 24 kWide))), (6, ptrL g5 (Lens.id kbool))] (fun b8 x10 S1 => ∃ (g11 : Nat), Fit S1 [] [(5, ptrL g4 (Lens.id (karr 24 kWide))), (6, ptrL g5 (Lens.id kbool)), (7, ptrL g11 (Lens.id kdiffer_single))] [(6, Blk g4 59 (karr 24 kWide) h3), (7, Blk g5 4 kbool b8), (8, Blk g11 124 kdiffer_single x10)]) 3001 (s0 := false) (sE := z9) rfl (vt rfl) ⟨rfl, inferInstance, rfl, inferInstance, trivial⟩ rfl (fun _ => rfl) (by intro p hp; have hp : p ∈ [14] := hp; rw [List.mem_singleton.1 hp]; show 14 < 25; decide) ?ha ?hb (fun Lf => ⟨top, _, _, Lf, _, _, hz9, rfl, rfl, rfl, rfl⟩) ?he
    case ha =>
      rintro b8 x10 r hF l w H X
      refine AW.region ?_
      refine AOps.consT rfl (op_alloc 8 rfl rfl zr124) ?_
      rintro _ ⟨g11, rfl⟩
      refine AOps.cons (op_store rfl rfl ty124 (vt rfl) (i := 8) rfl (vt rfl)) rfl ?_
      refine AOps.nil ?_
      exact ⟨rfl, g11, rfl, ⟨rfl, rfl, rfl, trivial⟩, ⟨rfl, rfl, rfl, trivial⟩⟩
    case hb =>
      rintro b8 x10 r h S1 ⟨g11, hfit⟩ l w H X
      refine AW.fit (d := []) (L := [(5, ptrL g4 (Lens.id (karr 24 kWide))), (6, ptrL g5 (Lens.id kbool)), (7, ptrL g11 (Lens.id kdiffer_single))]) (M := [(6, Blk g4 59 (karr 24 kWide) h3), (7, Blk g5 4 kbool b8), (8, Blk g11 124 kdiffer_single x10)]) hfit ?_
      refine AW.bodyT ?_
      change F41_b1 h3 b8 x10 = some r at h
      unfold F41_b1 at h
      refine AW.block ?_
      refine AW.seq ?_
      obtain ⟨j12, hj12, h⟩ := bsome h
      obtain ⟨x13, hx13, h⟩ := bsome h
      refine AW.regionAny [⟨[7], [15], [], []⟩, ⟨[15], [16], [8], []⟩, ⟨[5, 16], [17], [], []⟩, ⟨[17], [18], [6], []⟩, ⟨[7], [19], [], []⟩, ⟨[19], [20], [8], []⟩, ⟨[18, 20], [21], [], []⟩, ⟨[7], [22], [], []⟩, ⟨[22], [23], [8], []⟩, ⟨[21, 23], [24], [], []⟩] mixed (by kernel_rfl) ?_
      refine SeqA.cons (loc [7] [] rfl rfl fun S hs hr => op_field ldiffer_single_0 rfl rfl fl124_0 (vt ((hs 7 rfl).trans rfl))) ⟨rfl, rfl, rfl, rfl⟩ ?_
      refine SeqA.cons (loc [15] [8] rfl rfl fun S hs hr => op_load rfl rfl ty3 (vt ((hs 15 rfl).trans rfl)) (i := 8) ((hr 8 rfl).trans rfl)) ⟨rfl, rfl, rfl, rfl⟩ ?_
      refine SeqA.cons (loc [5, 16] [] rfl rfl fun S hs hr => op_index' rfl rfl ar59 (vt ((hs 5 rfl).trans rfl)) (vt ((hs 16 rfl).trans rfl)) hj12) ⟨rfl, rfl, rfl, rfl⟩ ?_
      refine SeqA.cons (loc [17] [6] rfl rfl fun S hs hr => op_load rfl rfl ty52 (vt ((hs 17 rfl).trans rfl)) (i := 6) ((hr 6 rfl).trans rfl)) ⟨rfl, rfl, rfl, rfl⟩ ?_
      refine SeqA.cons (loc [7] [] rfl rfl fun S hs hr => op_field ldiffer_single_1 rfl rfl fl124_1 (vt ((hs 7 rfl).trans rfl))) ⟨rfl, rfl, rfl, rfl⟩ ?_
      refine SeqA.cons (loc [19] [8] rfl rfl fun S hs hr => op_load rfl rfl ty3 (vt ((hs 19 rfl).trans rfl)) (i := 8) ((hr 8 rfl).trans rfl)) ⟨rfl, rfl, rfl, rfl⟩ ?_
      refine SeqA.cons (loc [18, 20] [] rfl rfl fun S hs hr => op_call (xs := [.tmp 18, .tmp 20]) (c81 _ _ _ hx13) (Ent.mk Try.func81 rfl rfl) rfl rfl ⟨vt ((hs 18 rfl).trans rfl), vt ((hs 20 rfl).trans rfl), trivial⟩) ⟨rfl, rfl, rfl, rfl⟩ ?_
      refine SeqA.cons (loc [7] [] rfl rfl fun S hs hr => op_field ldiffer_single_2 rfl rfl fl124_2 (vt ((hs 7 rfl).trans rfl))) ⟨rfl, rfl, rfl, rfl⟩ ?_
      refine SeqA.cons (loc [22] [8] rfl rfl fun S hs hr => op_load rfl rfl ty4 (vt ((hs 22 rfl).trans rfl)) (i := 8) ((hr 8 rfl).trans rfl)) ⟨rfl, rfl, rfl, rfl⟩ ?_
      refine SeqA.cons (loc [21, 23] [] rfl rfl fun S hs hr => op_neqb rfl rfl un4 (vt ((hs 21 rfl).trans rfl)) (vt ((hs 23 rfl).trans rfl))) ⟨rfl, rfl, rfl, rfl⟩ ?_
      refine AW.cond (vt rfl) (fun hc => ?_) (fun hc => ?_)
      · have h := cond_t hc h
        refine AW.seq ?_
        refine AW.region ?_
        refine AOps.cons (op_store rfl rfl ty4 (vt rfl) (i := 7) rfl vb) rfl ?_
        refine AOps.nil ?_
        refine AW.ret ?_
        obtain rfl := Option.some.inj h
        exact ⟨_, true, Turn.refl, rfl, ⟨rfl, rfl, trivial⟩⟩
      · have h := cond_f hc h
        refine AW.skip ?_
        obtain rfl := Option.some.inj h
        exact ⟨_, b8, Turn.refl, rfl, ⟨rfl, rfl, trivial⟩⟩
    case he =>
      intro D
      cases z9 with
      | go s14 =>
        change _ = some r at h
        refine AW.seq ?_
        refine AW.region ?_
        refine AOps.cons (op_store rfl rfl ty4 (vt rfl) (i := 7) rfl vb) rfl ?_
        refine AOps.nil ?_
        refine AW.ret ?_
        obtain rfl := Option.some.inj h
        exact ⟨rfl, 3001, rfl, ret1 Try.results41 rfl (out_cell rfl (i := 7) rfl ty4)⟩
      | out c s14 =>
        change (bif cRet c then _ else _) = some r at h
        cases hc : cRet c with
        | true =>
          rw [hc] at h
          have hc := cRet_of hc
          subst hc
          change _ = some r at h
          refine AW.ret ?_
          obtain rfl := Option.some.inj h
          exact ⟨rfl, 3001, rfl, ret1 Try.results41 rfl (out_cell rfl (i := 7) rfl ty4)⟩
        | false =>
          rw [hc] at h
          cases h
-- weirbox/weirboxlaw39.awake
def F32 : Option Bool :=
  (F77).bind fun x1 => (F37 x1 [(⟨(Vector.set (Vector.replicate 24 zTern) 0 (⟨(⟨0, (1 : BitVec 64)⟩ : Wide), (⟨0, (1 : BitVec 64)⟩ : Wide)⟩ : Tern) (by decide)), false, 1, 0⟩ : Atom)] [(⟨(Vector.replicate 24 zTern), false, 1, 0⟩ : Atom)]).bind fun x2 => (F39 [(⟨(Vector.set (Vector.replicate 24 zTern) 0 (⟨(⟨0, (1 : BitVec 64)⟩ : Wide), (⟨0, (1 : BitVec 64)⟩ : Wide)⟩ : Tern) (by decide)), false, 1, 0⟩ : Atom)] [(⟨(Vector.replicate 24 zTern), false, 1, 0⟩ : Atom)]).bind fun x3 => (opt (!x3) (F39 [(⟨(Vector.set (Vector.replicate 24 zTern) 0 (⟨(⟨0, (1 : BitVec 64)⟩ : Wide), (⟨0, (1 : BitVec 64)⟩ : Wide)⟩ : Tern) (by decide)), false, 1, 0⟩ : Atom)] [])).bind fun x4 => (opt (((!x3) && x4) && (decide ((x2.length : Int) = 1))) (lget x2 0)).bind fun e5 => (opt ((((!x3) && x4) && (decide ((x2.length : Int) = 1))) && (decide ((((Vector.get e5 (⟨0, by decide⟩ : _root_.Fin 24)).Mask).Lo) = (1 : BitVec 64)))) (lget x2 0)).bind fun e6 => (opt (((((!x3) && x4) && (decide ((x2.length : Int) = 1))) && (decide ((((Vector.get e5 (⟨0, by decide⟩ : _root_.Fin 24)).Mask).Lo) = (1 : BitVec 64)))) && (decide ((((Vector.get e6 (⟨0, by decide⟩ : _root_.Fin 24)).Value).Lo) = (0 : BitVec 64)))) (F41 [(⟨(Vector.set (Vector.replicate 24 zTern) 0 (⟨(⟨0, (1 : BitVec 64)⟩ : Wide), (⟨0, (1 : BitVec 64)⟩ : Wide)⟩ : Tern) (by decide)), false, 1, 0⟩ : Atom)] [(⟨(Vector.replicate 24 zTern), false, 1, 0⟩ : Atom)] (Vector.replicate 24 zWide))).bind fun x7 => (opt ((((((!x3) && x4) && (decide ((x2.length : Int) = 1))) && (decide ((((Vector.get e5 (⟨0, by decide⟩ : _root_.Fin 24)).Mask).Lo) = (1 : BitVec 64)))) && (decide ((((Vector.get e6 (⟨0, by decide⟩ : _root_.Fin 24)).Value).Lo) = (0 : BitVec 64)))) && x7) (F41 [(⟨(Vector.set (Vector.replicate 24 zTern) 0 (⟨(⟨0, (1 : BitVec 64)⟩ : Wide), (⟨0, (1 : BitVec 64)⟩ : Wide)⟩ : Tern) (by decide)), false, 1, 0⟩ : Atom)] [(⟨(Vector.replicate 24 zTern), false, 1, 0⟩ : Atom)] (Vector.set (Vector.replicate 24 zWide) 0 (⟨0, (1 : BitVec 64)⟩ : Wide) (by decide)))).bind fun x8 => (opt (((((((!x3) && x4) && (decide ((x2.length : Int) = 1))) && (decide ((((Vector.get e5 (⟨0, by decide⟩ : _root_.Fin 24)).Mask).Lo) = (1 : BitVec 64)))) && (decide ((((Vector.get e6 (⟨0, by decide⟩ : _root_.Fin 24)).Value).Lo) = (0 : BitVec 64)))) && x7) && (!x8)) (F77)).bind fun x9 => (opt (((((((!x3) && x4) && (decide ((x2.length : Int) = 1))) && (decide ((((Vector.get e5 (⟨0, by decide⟩ : _root_.Fin 24)).Mask).Lo) = (1 : BitVec 64)))) && (decide ((((Vector.get e6 (⟨0, by decide⟩ : _root_.Fin 24)).Value).Lo) = (0 : BitVec 64)))) && x7) && (!x8)) (F34 x9 [(⟨(Vector.set (Vector.replicate 24 zTern) 0 (⟨(⟨0, (1 : BitVec 64)⟩ : Wide), (⟨0, (1 : BitVec 64)⟩ : Wide)⟩ : Tern) (by decide)), false, 1, 0⟩ : Atom)] [(⟨(Vector.replicate 24 zTern), false, 1, 0⟩ : Atom)])).bind fun x10 => some ((((((((!x3) && x4) && (decide ((x2.length : Int) = 1))) && (decide ((((Vector.get e5 (⟨0, by decide⟩ : _root_.Fin 24)).Mask).Lo) = (1 : BitVec 64)))) && (decide ((((Vector.get e6 (⟨0, by decide⟩ : _root_.Fin 24)).Value).Lo) = (0 : BitVec 64)))) && x7) && (!x8)) && true)
theorem c32 (r : Bool) (h : F32 = some r) : PCon Try.prog 32 [] (rd kbool r) := by
  refine PCon.of (Con.intro0 Try.func32 rfl Try.ntmps32 rfl fun w H => ?_)
  unfold F32 at h
  refine AW.seq ?_
  refine AW.region ?_
  refine AOps.cons (op_assign (A := rd kbool false) rfl rfl vb) rfl ?_
  refine AOps.nil ?_
  refine AW.seq ?_
  refine AW.region ?_
  refine AOps.cons (op_build (ps := [(1, .const (Value.int IntKind.u64 1))]) (x := (⟨0, (1 : BitVec 64)⟩ : Wide)) rfl rfl rfl (by kernel_rfl) zr52 ⟨_, _, lWide_1, _, by kernel_rfl, (vku (1 : BitVec 64) rfl), rfl⟩) rfl ?_
  refine AOps.cons (op_build (ps := [(1, .const (Value.int IntKind.u64 1))]) (x := (⟨0, (1 : BitVec 64)⟩ : Wide)) rfl rfl rfl (by kernel_rfl) zr52 ⟨_, _, lWide_1, _, by kernel_rfl, (vku (1 : BitVec 64) rfl), rfl⟩) rfl ?_
  refine AOps.cons (op_build (ps := [(0, .tmp 4), (1, .tmp 5)]) (x := (⟨(⟨0, (1 : BitVec 64)⟩ : Wide), (⟨0, (1 : BitVec 64)⟩ : Wide)⟩ : Tern)) rfl rfl rfl (by kernel_rfl) zr54 ⟨_, _, lTern_0, _, by kernel_rfl, (vt rfl), _, _, lTern_1, _, by kernel_rfl, (vt rfl), rfl⟩) rfl ?_
  refine AOps.cons (op_build (ps := [(0, .tmp 6)]) (x := (Vector.set (Vector.replicate 24 zTern) 0 (⟨(⟨0, (1 : BitVec 64)⟩ : Wide), (⟨0, (1 : BitVec 64)⟩ : Wide)⟩ : Tern) (by decide))) rfl rfl rfl (by kernel_rfl) zr95 ⟨_, _, Lens.idx 24 kTern 0 (by decide), _, by kernel_rfl, (vt rfl), rfl⟩) rfl ?_
  refine AOps.cons (op_build (ps := [(2, .const (Value.int IntKind.i64 1)), (0, .tmp 7)]) (x := (⟨(Vector.set (Vector.replicate 24 zTern) 0 (⟨(⟨0, (1 : BitVec 64)⟩ : Wide), (⟨0, (1 : BitVec 64)⟩ : Wide)⟩ : Tern) (by decide)), false, 1, 0⟩ : Atom)) rfl rfl rfl (by kernel_rfl) zr97 ⟨_, _, lAtom_2, _, by kernel_rfl, (vk rfl), _, _, lAtom_0, _, by kernel_rfl, (vt rfl), rfl⟩) rfl ?_
  refine AOps.cons (op_buildSliceR (ps := [(0, .tmp 8)]) (l := [(⟨(Vector.set (Vector.replicate 24 zTern) 0 (⟨(⟨0, (1 : BitVec 64)⟩ : Wide), (⟨0, (1 : BitVec 64)⟩ : Wide)⟩ : Tern) (by decide)), false, 1, 0⟩ : Atom)]) rfl rfl sl57 zr97 rfl rfl ⟨_, _, Lens.idx 1 kAtom 0 (by decide), _, rfl, (vt rfl), rfl⟩ rfl) rfl ?_
  refine AOps.cons (op_assign (A := rd (ksl kAtom) [(⟨(Vector.set (Vector.replicate 24 zTern) 0 (⟨(⟨0, (1 : BitVec 64)⟩ : Wide), (⟨0, (1 : BitVec 64)⟩ : Wide)⟩ : Tern) (by decide)), false, 1, 0⟩ : Atom)]) rfl rfl (vt rfl)) rfl ?_
  refine AOps.nil ?_
  refine AW.seq ?_
  refine AW.region ?_
  refine AOps.cons (op_build (ps := [(2, .const (Value.int IntKind.i64 1))]) (x := (⟨(Vector.replicate 24 zTern), false, 1, 0⟩ : Atom)) rfl rfl rfl (by kernel_rfl) zr97 ⟨_, _, lAtom_2, _, by kernel_rfl, (vk rfl), rfl⟩) rfl ?_
  refine AOps.cons (op_buildSliceR (ps := [(0, .tmp 10)]) (l := [(⟨(Vector.replicate 24 zTern), false, 1, 0⟩ : Atom)]) rfl rfl sl57 zr97 rfl rfl ⟨_, _, Lens.idx 1 kAtom 0 (by decide), _, rfl, (vt rfl), rfl⟩ rfl) rfl ?_
  refine AOps.cons (op_assign (A := rd (ksl kAtom) [(⟨(Vector.replicate 24 zTern), false, 1, 0⟩ : Atom)]) rfl rfl (vt rfl)) rfl ?_
  refine AOps.nil ?_
  refine AW.seq ?_
  obtain ⟨x1, hx1, h⟩ := bsome h
  obtain ⟨x2, hx2, h⟩ := bsome h
  refine AW.region ?_
  refine AOps.cons (op_call (xs := []) (c77 _ hx1) (Ent.mk Try.func77 rfl rfl) rfl rfl trivial) rfl ?_
  refine AOps.cons (op_move (A := rd (ksl kAtom) [(⟨(Vector.set (Vector.replicate 24 zTern) 0 (⟨(⟨0, (1 : BitVec 64)⟩ : Wide), (⟨0, (1 : BitVec 64)⟩ : Wide)⟩ : Tern) (by decide)), false, 1, 0⟩ : Atom)]) rfl rfl (vt rfl)) rfl ?_
  refine AOps.cons (op_move (A := rd (ksl kAtom) [(⟨(Vector.replicate 24 zTern), false, 1, 0⟩ : Atom)]) rfl rfl (vt rfl)) rfl ?_
  refine AOps.cons (op_call (xs := [.tmp 12, .tmp 13, .tmp 14]) (c37 _ _ _ _ hx2) (Ent.mk Try.func37 rfl rfl) rfl rfl ⟨vt rfl, vt rfl, vt rfl, trivial⟩) rfl ?_
  refine AOps.cons (op_assign (A := rd (ksl (karr 24 kTern)) x2) rfl rfl (vt rfl)) rfl ?_
  refine AOps.nil ?_
  refine AW.seq ?_
  obtain ⟨x3, hx3, h⟩ := bsome h
  obtain ⟨x4, hx4, h⟩ := bsome h
  obtain ⟨e5, he5, h⟩ := bsome h
  obtain ⟨e6, he6, h⟩ := bsome h
  obtain ⟨x7, hx7, h⟩ := bsome h
  obtain ⟨x8, hx8, h⟩ := bsome h
  obtain ⟨x9, hx9, h⟩ := bsome h
  obtain ⟨x10, hx10, h⟩ := bsome h
  refine AW.region ?_
  refine AOps.cons (op_move (A := rd (ksl kAtom) [(⟨(Vector.set (Vector.replicate 24 zTern) 0 (⟨(⟨0, (1 : BitVec 64)⟩ : Wide), (⟨0, (1 : BitVec 64)⟩ : Wide)⟩ : Tern) (by decide)), false, 1, 0⟩ : Atom)]) rfl rfl (vt rfl)) rfl ?_
  refine AOps.cons (op_move (A := rd (ksl kAtom) [(⟨(Vector.replicate 24 zTern), false, 1, 0⟩ : Atom)]) rfl rfl (vt rfl)) rfl ?_
  refine AOps.cons (op_call (xs := [.tmp 16, .tmp 17]) (c39 _ _ _ hx3) (Ent.mk Try.func39 rfl rfl) rfl rfl ⟨vt rfl, vt rfl, trivial⟩) rfl ?_
  refine AOps.cons (op_not rfl rfl (vt rfl)) rfl ?_
  refine AOps.cons (op_move (A := rd kbool (!x3)) rfl rfl (vt rfl)) rfl ?_
  refine AOps.consG (OpG.guard rfl rfl rfl rfl rfl fun hq => op_move (A := rd (ksl kAtom) [(⟨(Vector.set (Vector.replicate 24 zTern) 0 (⟨(⟨0, (1 : BitVec 64)⟩ : Wide), (⟨0, (1 : BitVec 64)⟩ : Wide)⟩ : Tern) (by decide)), false, 1, 0⟩ : Atom)]) rfl rfl (vt rfl)) ?_
  refine AOps.consG (OpG.guard rfl rfl rfl rfl rfl fun hq => op_call (xs := [.tmp 21, .const (Value.slice none 0 0)]) (c39 _ _ _ (opt_t hx4 hq)) (Ent.mk Try.func39 rfl rfl) rfl rfl ⟨vgt rfl hq, vnil, trivial⟩) ?_
  refine AOps.cons (op_all rfl rfl (vt rfl) (vt rfl)) rfl ?_
  refine AOps.cons (op_move (A := rd kbool ((!x3) && x4)) rfl rfl (vt rfl)) rfl ?_
  refine AOps.consG (OpG.guard rfl rfl rfl rfl rfl fun hq => op_move (A := rd (ksl (karr 24 kTern)) x2) rfl rfl (vt rfl)) ?_
  refine AOps.consG (OpG.guard rfl rfl rfl rfl rfl fun hq => op_len' rfl rfl sl64 (vgt rfl hq)) ?_
  refine AOps.consG (OpG.guard rfl rfl rfl rfl rfl fun hq => op_eql rfl rfl (vgt rfl hq) (vk rfl)) ?_
  refine AOps.cons (op_all rfl rfl (vt rfl) (vt rfl)) rfl ?_
  refine AOps.cons (op_move (A := rd kbool (((!x3) && x4) && (decide ((x2.length : Int) = 1)))) rfl rfl (vt rfl)) rfl ?_
  refine AOps.consG (OpG.guard rfl rfl rfl rfl rfl fun hq => op_move (A := rd (ksl (karr 24 kTern)) x2) rfl rfl (vt rfl)) ?_
  refine AOps.consG (OpG.guard rfl rfl rfl rfl rfl fun hq => op_indexs' rfl rfl sl64 (vgt rfl hq) (vk rfl) (opt_t he5 hq)) ?_
  refine AOps.consG (OpG.guard rfl rfl rfl rfl rfl fun hq => op_indexp' rfl rfl ar56 (vgt rfl hq) (vk rfl) rfl) ?_
  refine AOps.consG (OpG.guard rfl rfl rfl rfl rfl fun hq => op_fieldp lTern_1 rfl rfl fl54_1 (vgt rfl hq)) ?_
  refine AOps.consG (OpG.guard rfl rfl rfl rfl rfl fun hq => op_fieldp lWide_1 rfl rfl fl52_1 (vgt rfl hq)) ?_
  refine AOps.consG (OpG.guard rfl rfl rfl rfl rfl fun hq => op_loadp rfl rfl ty50 (vgt rfl hq)) ?_
  refine AOps.consG (OpG.guard rfl rfl rfl rfl rfl fun hq => op_eqlu rfl rfl (vgt rfl hq) (vku (1 : BitVec 64) rfl)) ?_
  refine AOps.cons (op_all rfl rfl (vt rfl) (vt rfl)) rfl ?_
  refine AOps.cons (op_move (A := rd kbool ((((!x3) && x4) && (decide ((x2.length : Int) = 1))) && (decide ((((Vector.get e5 (⟨0, by decide⟩ : _root_.Fin 24)).Mask).Lo) = (1 : BitVec 64))))) rfl rfl (vt rfl)) rfl ?_
  refine AOps.consG (OpG.guard rfl rfl rfl rfl rfl fun hq => op_move (A := rd (ksl (karr 24 kTern)) x2) rfl rfl (vt rfl)) ?_
  refine AOps.consG (OpG.guard rfl rfl rfl rfl rfl fun hq => op_indexs' rfl rfl sl64 (vgt rfl hq) (vk rfl) (opt_t he6 hq)) ?_
  refine AOps.consG (OpG.guard rfl rfl rfl rfl rfl fun hq => op_indexp' rfl rfl ar56 (vgt rfl hq) (vk rfl) rfl) ?_
  refine AOps.consG (OpG.guard rfl rfl rfl rfl rfl fun hq => op_fieldp lTern_0 rfl rfl fl54_0 (vgt rfl hq)) ?_
  refine AOps.consG (OpG.guard rfl rfl rfl rfl rfl fun hq => op_fieldp lWide_1 rfl rfl fl52_1 (vgt rfl hq)) ?_
  refine AOps.consG (OpG.guard rfl rfl rfl rfl rfl fun hq => op_loadp rfl rfl ty50 (vgt rfl hq)) ?_
  refine AOps.consG (OpG.guard rfl rfl rfl rfl rfl fun hq => op_eqlu rfl rfl (vgt rfl hq) (vku (0 : BitVec 64) rfl)) ?_
  refine AOps.cons (op_all rfl rfl (vt rfl) (vt rfl)) rfl ?_
  refine AOps.cons (op_move (A := rd kbool (((((!x3) && x4) && (decide ((x2.length : Int) = 1))) && (decide ((((Vector.get e5 (⟨0, by decide⟩ : _root_.Fin 24)).Mask).Lo) = (1 : BitVec 64)))) && (decide ((((Vector.get e6 (⟨0, by decide⟩ : _root_.Fin 24)).Value).Lo) = (0 : BitVec 64))))) rfl rfl (vt rfl)) rfl ?_
  refine AOps.consG (OpG.guard rfl rfl rfl rfl rfl fun hq => op_move (A := rd (ksl kAtom) [(⟨(Vector.set (Vector.replicate 24 zTern) 0 (⟨(⟨0, (1 : BitVec 64)⟩ : Wide), (⟨0, (1 : BitVec 64)⟩ : Wide)⟩ : Tern) (by decide)), false, 1, 0⟩ : Atom)]) rfl rfl (vt rfl)) ?_
  refine AOps.consG (OpG.guard rfl rfl rfl rfl rfl fun hq => op_move (A := rd (ksl kAtom) [(⟨(Vector.replicate 24 zTern), false, 1, 0⟩ : Atom)]) rfl rfl (vt rfl)) ?_
  refine AOps.consG (OpG.guard rfl rfl rfl rfl rfl fun hq => op_build (ps := []) (x := (Vector.replicate 24 zWide)) rfl rfl rfl (by kernel_rfl) zr59 rfl) ?_
  refine AOps.consG (OpG.guard rfl rfl rfl rfl rfl fun hq => op_call (xs := [.tmp 48, .tmp 49, .tmp 50]) (c41 _ _ _ _ (opt_t hx7 hq)) (Ent.mk Try.func41 rfl rfl) rfl rfl ⟨vgt rfl hq, vgt rfl hq, vgt rfl hq, trivial⟩) ?_
  refine AOps.cons (op_all rfl rfl (vt rfl) (vt rfl)) rfl ?_
  refine AOps.cons (op_move (A := rd kbool ((((((!x3) && x4) && (decide ((x2.length : Int) = 1))) && (decide ((((Vector.get e5 (⟨0, by decide⟩ : _root_.Fin 24)).Mask).Lo) = (1 : BitVec 64)))) && (decide ((((Vector.get e6 (⟨0, by decide⟩ : _root_.Fin 24)).Value).Lo) = (0 : BitVec 64)))) && x7)) rfl rfl (vt rfl)) rfl ?_
  refine AOps.consG (OpG.guard rfl rfl rfl rfl rfl fun hq => op_move (A := rd (ksl kAtom) [(⟨(Vector.set (Vector.replicate 24 zTern) 0 (⟨(⟨0, (1 : BitVec 64)⟩ : Wide), (⟨0, (1 : BitVec 64)⟩ : Wide)⟩ : Tern) (by decide)), false, 1, 0⟩ : Atom)]) rfl rfl (vt rfl)) ?_
  refine AOps.consG (OpG.guard rfl rfl rfl rfl rfl fun hq => op_move (A := rd (ksl kAtom) [(⟨(Vector.replicate 24 zTern), false, 1, 0⟩ : Atom)]) rfl rfl (vt rfl)) ?_
  refine AOps.consG (OpG.guard rfl rfl rfl rfl rfl fun hq => op_build (ps := [(1, .const (Value.int IntKind.u64 1))]) (x := (⟨0, (1 : BitVec 64)⟩ : Wide)) rfl rfl rfl (by kernel_rfl) zr52 ⟨_, _, lWide_1, _, by kernel_rfl, (vku (1 : BitVec 64) rfl), rfl⟩) ?_
  refine AOps.consG (OpG.guard rfl rfl rfl rfl rfl fun hq => op_build (ps := [(0, .tmp 56)]) (x := (Vector.set (Vector.replicate 24 zWide) 0 (⟨0, (1 : BitVec 64)⟩ : Wide) (by decide))) rfl rfl rfl (by kernel_rfl) zr59 ⟨_, _, Lens.idx 24 kWide 0 (by decide), _, by kernel_rfl, (vgt rfl hq), rfl⟩) ?_
  refine AOps.consG (OpG.guard rfl rfl rfl rfl rfl fun hq => op_call (xs := [.tmp 54, .tmp 55, .tmp 57]) (c41 _ _ _ _ (opt_t hx8 hq)) (Ent.mk Try.func41 rfl rfl) rfl rfl ⟨vgt rfl hq, vgt rfl hq, vgt rfl hq, trivial⟩) ?_
  refine AOps.consG (OpG.guard rfl rfl rfl rfl rfl fun hq => op_not rfl rfl (vgt rfl hq)) ?_
  refine AOps.cons (op_all rfl rfl (vt rfl) (vt rfl)) rfl ?_
  refine AOps.cons (op_move (A := rd kbool (((((((!x3) && x4) && (decide ((x2.length : Int) = 1))) && (decide ((((Vector.get e5 (⟨0, by decide⟩ : _root_.Fin 24)).Mask).Lo) = (1 : BitVec 64)))) && (decide ((((Vector.get e6 (⟨0, by decide⟩ : _root_.Fin 24)).Value).Lo) = (0 : BitVec 64)))) && x7) && (!x8))) rfl rfl (vt rfl)) rfl ?_
  refine AOps.consG (OpG.guard rfl rfl rfl rfl rfl fun hq => op_call (xs := []) (c77 _ (opt_t hx9 hq)) (Ent.mk Try.func77 rfl rfl) rfl rfl trivial) ?_
  refine AOps.consG (OpG.guard rfl rfl rfl rfl rfl fun hq => op_move (A := rd (ksl kAtom) [(⟨(Vector.set (Vector.replicate 24 zTern) 0 (⟨(⟨0, (1 : BitVec 64)⟩ : Wide), (⟨0, (1 : BitVec 64)⟩ : Wide)⟩ : Tern) (by decide)), false, 1, 0⟩ : Atom)]) rfl rfl (vt rfl)) ?_
  refine AOps.consG (OpG.guard rfl rfl rfl rfl rfl fun hq => op_move (A := rd (ksl kAtom) [(⟨(Vector.replicate 24 zTern), false, 1, 0⟩ : Atom)]) rfl rfl (vt rfl)) ?_
  refine AOps.consG (OpG.guard rfl rfl rfl rfl rfl fun hq => op_call (xs := [.tmp 62, .tmp 63, .tmp 64]) (c34 _ _ _ _ (opt_t hx10 hq)) (Ent.mk Try.func34 rfl rfl) rfl rfl ⟨vgt rfl hq, vgt rfl hq, vgt rfl hq, trivial⟩) ?_
  refine AOps.consG (OpG.guard rfl rfl rfl rfl rfl fun hq => op_neqseq rfl rfl uf62 (vgt rfl hq)) ?_
  refine AOps.cons (op_all rfl rfl (vt rfl) (vt rfl)) rfl ?_
  refine AOps.cons (op_assign (A := rd kbool ((((((((!x3) && x4) && (decide ((x2.length : Int) = 1))) && (decide ((((Vector.get e5 (⟨0, by decide⟩ : _root_.Fin 24)).Mask).Lo) = (1 : BitVec 64)))) && (decide ((((Vector.get e6 (⟨0, by decide⟩ : _root_.Fin 24)).Value).Lo) = (0 : BitVec 64)))) && x7) && (!x8)) && true)) rfl rfl (vt rfl)) rfl ?_
  refine AOps.nil ?_
  refine AW.ret ?_
  obtain rfl := Option.some.inj h
  exact ret1 Try.results32 rfl (out_tmp rfl)
-- weirbox/weirboxplain.Atoms
def F33 (l1 : (List Atom)) : Option Bool :=
  some (decide ((l1.length : Int) ≤ 12))
theorem c33 (l1 : (List Atom)) (r : Bool) (h : F33 l1 = some r) : PCon Try.prog 33 [rd (ksl kAtom) l1] (rd kbool r) := by
  refine PCon.of (Con.intro0 Try.func33 rfl Try.ntmps33 rfl fun w H => ?_)
  unfold F33 at h
  refine AW.seq ?_
  refine AW.region ?_
  refine AOps.cons (op_assign (A := rd kbool false) rfl rfl vb) rfl ?_
  refine AOps.nil ?_
  refine AW.seq ?_
  refine AW.region ?_
  refine AOps.cons (op_move (A := rd (ksl kAtom) l1) rfl rfl (vt rfl)) rfl ?_
  refine AOps.cons (op_len' rfl rfl sl57 (vt rfl)) rfl ?_
  refine AOps.cons (op_leq rfl rfl (vt rfl) (vk rfl)) rfl ?_
  refine AOps.cons (op_assign (A := rd kbool (decide ((l1.length : Int) ≤ 12))) rfl rfl (vt rfl)) rfl ?_
  refine AOps.nil ?_
  refine AW.ret ?_
  obtain rfl := Option.some.inj h
  exact ret1 Try.results33 rfl (out_tmp rfl)
-- weirbox/weirboxref02.And
def F130 (a1 : Wide) (b2 : Wide) : Option Wide :=
  some (⟨(a1.Hi &&& b2.Hi), (a1.Lo &&& b2.Lo)⟩ : Wide)
theorem c130 (a1 : Wide) (b2 : Wide) (r : Wide) (h : F130 a1 b2 = some r) : PCon Try.prog 130 [rd kWide a1, rd kWide b2] (rd kWide r) := by
  refine PCon.of (Con.intro0 Try.func130 rfl Try.ntmps130 rfl fun w H => ?_)
  unfold F130 at h
  refine AW.seq ?_
  refine AW.region ?_
  refine AOps.consT rfl (op_box 3 rfl rfl (vt rfl)) ?_
  rintro _ ⟨g3, rfl⟩
  refine AOps.consT rfl (op_box 4 rfl rfl (vt rfl)) ?_
  rintro _ ⟨g4, rfl⟩
  refine AOps.consT rfl (op_alloc 5 rfl rfl zr52) ?_
  rintro _ ⟨g5, rfl⟩
  refine AOps.nil ?_
  refine AW.seq ?_
  refine AW.region ?_
  refine AOps.cons (op_field lWide_0 rfl rfl fl52_0 (vt rfl)) rfl ?_
  refine AOps.cons (op_load rfl rfl ty50 (vt rfl) (i := 3) rfl) rfl ?_
  refine AOps.cons (op_field lWide_0 rfl rfl fl52_0 (vt rfl)) rfl ?_
  refine AOps.cons (op_load rfl rfl ty50 (vt rfl) (i := 4) rfl) rfl ?_
  refine AOps.cons (op_and rfl rfl (vt rfl) (vt rfl)) rfl ?_
  refine AOps.cons (op_field lWide_1 rfl rfl fl52_1 (vt rfl)) rfl ?_
  refine AOps.cons (op_load rfl rfl ty50 (vt rfl) (i := 3) rfl) rfl ?_
  refine AOps.cons (op_field lWide_1 rfl rfl fl52_1 (vt rfl)) rfl ?_
  refine AOps.cons (op_load rfl rfl ty50 (vt rfl) (i := 4) rfl) rfl ?_
  refine AOps.cons (op_and rfl rfl (vt rfl) (vt rfl)) rfl ?_
  refine AOps.cons (op_build (ps := [(0, .tmp 9), (1, .tmp 14)]) (x := (⟨(a1.Hi &&& b2.Hi), (a1.Lo &&& b2.Lo)⟩ : Wide)) rfl rfl rfl (by kernel_rfl) zr52 ⟨_, _, lWide_0, _, by kernel_rfl, (vt rfl), _, _, lWide_1, _, by kernel_rfl, (vt rfl), rfl⟩) rfl ?_
  refine AOps.cons (op_store rfl rfl ty52 (vt rfl) (i := 5) rfl (vt rfl)) rfl ?_
  refine AOps.nil ?_
  refine AW.ret ?_
  obtain rfl := Option.some.inj h
  exact ret1 Try.results130 rfl (out_cell rfl (i := 5) rfl ty52)
-- weirbox/weirboxref05.Clean
def F128 (t1 : Tern) : Option Tern :=
  (F130 t1.Value t1.Mask).bind fun x4 => some (⟨x4, t1.Mask⟩ : Tern)
theorem c128 (t1 : Tern) (r : Tern) (h : F128 t1 = some r) : PCon Try.prog 128 [rd kTern t1] (rd kTern r) := by
  refine PCon.of (Con.intro0 Try.func128 rfl Try.ntmps128 rfl fun w H => ?_)
  unfold F128 at h
  refine AW.seq ?_
  refine AW.region ?_
  refine AOps.consT rfl (op_box 2 rfl rfl (vt rfl)) ?_
  rintro _ ⟨g2, rfl⟩
  refine AOps.consT rfl (op_alloc 3 rfl rfl zr54) ?_
  rintro _ ⟨g3, rfl⟩
  refine AOps.nil ?_
  refine AW.seq ?_
  obtain ⟨x4, hx4, h⟩ := bsome h
  refine AW.regionAny [⟨[1], [3], [], []⟩, ⟨[3], [4], [2], []⟩, ⟨[1], [5], [], []⟩, ⟨[5], [6], [2], []⟩, ⟨[4, 6], [7], [], []⟩, ⟨[1], [8], [], []⟩, ⟨[8], [9], [2], []⟩, ⟨[7, 9], [10], [], []⟩, ⟨[2, 10], [], [3], [3]⟩] mixed (by kernel_rfl) ?_
  refine SeqA.cons (loc [1] [] rfl rfl fun S hs hr => op_field lTern_0 rfl rfl fl54_0 (vt ((hs 1 rfl).trans rfl))) ⟨rfl, rfl, rfl, rfl⟩ ?_
  refine SeqA.cons (loc [3] [2] rfl rfl fun S hs hr => op_load rfl rfl ty52 (vt ((hs 3 rfl).trans rfl)) (i := 2) ((hr 2 rfl).trans rfl)) ⟨rfl, rfl, rfl, rfl⟩ ?_
  refine SeqA.cons (loc [1] [] rfl rfl fun S hs hr => op_field lTern_1 rfl rfl fl54_1 (vt ((hs 1 rfl).trans rfl))) ⟨rfl, rfl, rfl, rfl⟩ ?_
  refine SeqA.cons (loc [5] [2] rfl rfl fun S hs hr => op_load rfl rfl ty52 (vt ((hs 5 rfl).trans rfl)) (i := 2) ((hr 2 rfl).trans rfl)) ⟨rfl, rfl, rfl, rfl⟩ ?_
  refine SeqA.cons (loc [4, 6] [] rfl rfl fun S hs hr => op_call (xs := [.tmp 4, .tmp 6]) (c130 _ _ _ hx4) (Ent.mk Try.func130 rfl rfl) rfl rfl ⟨vt ((hs 4 rfl).trans rfl), vt ((hs 6 rfl).trans rfl), trivial⟩) ⟨rfl, rfl, rfl, rfl⟩ ?_
  refine SeqA.cons (loc [1] [] rfl rfl fun S hs hr => op_field lTern_1 rfl rfl fl54_1 (vt ((hs 1 rfl).trans rfl))) ⟨rfl, rfl, rfl, rfl⟩ ?_
  refine SeqA.cons (loc [8] [2] rfl rfl fun S hs hr => op_load rfl rfl ty52 (vt ((hs 8 rfl).trans rfl)) (i := 2) ((hr 2 rfl).trans rfl)) ⟨rfl, rfl, rfl, rfl⟩ ?_
  refine SeqA.cons (loc [7, 9] [] rfl rfl fun S hs hr => op_build (ps := [(0, .tmp 7), (1, .tmp 9)]) (x := (⟨x4, t1.Mask⟩ : Tern)) rfl rfl rfl (by kernel_rfl) zr54 ⟨_, _, lTern_0, _, by kernel_rfl, (vt ((hs 7 rfl).trans rfl)), _, _, lTern_1, _, by kernel_rfl, (vt ((hs 9 rfl).trans rfl)), rfl⟩) ⟨rfl, rfl, rfl, rfl⟩ ?_
  refine SeqA.cons (locr [2, 10] [3] rfl fun S hs hr => op_store rfl rfl ty54 (vt ((hs 2 rfl).trans rfl)) (i := 3) ((hr 3 rfl).trans rfl) (vt ((hs 10 rfl).trans rfl))) ⟨rfl, rfl, rfl, rfl⟩ ?_
  refine AW.ret ?_
  obtain rfl := Option.some.inj h
  exact ret1 Try.results128 rfl (out_cell rfl (i := 3) rfl ty54)
-- weirbox/weirboxref06.Clean
def F83_l1 : Nat → (Vector Tern 24) → Int → Option (Vector Tern 24)
  | 0, _, _ => none
  | m8 + 1, b6, f7 => (bif (decide (f7 < 24)) then (chk 24 f7).bind fun j9 => (F128 (Vector.get b6 j9)).bind fun x10 => (chk 24 f7).bind fun j11 => (F83_l1 m8) (Vector.set b6 j11.1 x10 j11.2) (IntKind.i64.wrap (f7 + 1)) else some b6)
def F83 (c1 : (Vector Tern 24)) : Option (Vector Tern 24) :=
  F83_l1 (((24 : Int) - 0).toNat + 1) c1 0
theorem c83 (c1 : (Vector Tern 24)) (r : (Vector Tern 24)) (h : F83 c1 = some r) : PCon Try.prog 83 [rd (karr 24 kTern) c1] (rd (karr 24 kTern) r) := by
  refine PCon.of (Con.intro0 Try.func83 rfl Try.ntmps83 rfl fun w H => ?_)
  unfold F83 at h
  refine AW.seq ?_
  refine AW.region ?_
  refine AOps.consT rfl (op_box 2 rfl rfl (vt rfl)) ?_
  rintro _ ⟨g2, rfl⟩
  refine AOps.consT rfl (op_alloc 3 rfl rfl zr56) ?_
  rintro _ ⟨g3, rfl⟩
  refine AOps.nil ?_
  refine AW.seq ?_
  refine AW.seq ?_
  refine AW.region ?_
  refine AOps.cons (op_assign (A := rd (kint .i64) 0) rfl rfl (vk rfl)) rfl ?_
  refine AOps.nil ?_
  refine AW.block ?_
  refine AW.loopG (d := []) (ν := Nat × (Vector Tern 24) × Int) (fun n => True ∧ F83_l1 n.1 n.2.1 n.2.2 = some r) (fun n => n.1) (fun n => [(1, ptrL g2 (Lens.id (karr 24 kTern))), (2, ptrL g3 (Lens.id (karr 24 kTern))), (3, rd (kint .i64) n.2.2)]) (fun n => [(2, Blk g2 56 (karr 24 kTern) n.2.1), (3, Blk g3 56 (karr 24 kTern) (Vector.replicate 24 zTern))]) ((((24 : Int) - 0).toNat + 1), c1, 0) ⟨trivial, h⟩ ⟨rfl, ⟨rfl, rfl, rfl, trivial⟩, ⟨rfl, rfl, trivial⟩⟩ ?_
  rintro ⟨m8, b6, f7⟩ ⟨hsf1, h⟩
  change True at hsf1
  change F83_l1 m8 b6 f7 = some r at h
  change AW _ _ _ ⟨slots [(1, ptrL g2 (Lens.id (karr 24 kTern))), (2, ptrL g3 (Lens.id (karr 24 kTern))), (3, rd (kint .i64) f7)], ress [(2, Blk g2 56 (karr 24 kTern) b6), (3, Blk g3 56 (karr 24 kTern) (Vector.replicate 24 zTern))], _⟩
  cases m8 with
  | zero => cases h
  | succ m8 =>
    unfold F83_l1 at h
    generalize hgo1 : F83_l1 m8 = go1 at h
    refine AW.seq ?_
    refine AW.seq ?_
    refine AW.region ?_
    refine AOps.cons (op_move (A := rd (kint .i64) f7) rfl rfl (vt rfl)) rfl ?_
    refine AOps.cons (op_lss rfl rfl (vt rfl) (vk rfl)) rfl ?_
    refine AOps.nil ?_
    refine AW.cond (vt rfl) (fun hc => ?_) (fun hc => ?_)
    · have h := cond_t hc h
      refine AW.skip ?_
      refine AW.seq ?_
      refine AW.block ?_
      obtain ⟨j9, hj9, h⟩ := bsome h
      obtain ⟨x10, hx10, h⟩ := bsome h
      obtain ⟨j11, hj11, h⟩ := bsome h
      refine AW.region ?_
      refine AOps.cons (op_move (A := rd (kint .i64) f7) rfl rfl (vt rfl)) rfl ?_
      refine AOps.cons (op_move (A := rd (kint .i64) f7) rfl rfl (vt rfl)) rfl ?_
      refine AOps.cons (op_index' rfl rfl ar56 (vt rfl) (vt rfl) hj9) rfl ?_
      refine AOps.cons (op_load rfl rfl ty54 (vt rfl) (i := 2) rfl) rfl ?_
      refine AOps.cons (op_call (xs := [.tmp 11]) (c128 _ _ hx10) (Ent.mk Try.func128 rfl rfl) rfl rfl ⟨vt rfl, trivial⟩) rfl ?_
      refine AOps.cons (op_index' rfl rfl ar56 (vt rfl) (vt rfl) hj11) rfl ?_
      refine AOps.cons (op_store rfl rfl ty54 (vt rfl) (i := 2) rfl (vt rfl)) rfl ?_
      refine AOps.nil ?_
      refine AW.region ?_
      refine AOps.cons (op_move (A := rd (kint .i64) f7) rfl rfl (vt rfl)) rfl ?_
      refine AOps.cons (op_add rfl rfl (vt rfl) (vk rfl)) rfl ?_
      refine AOps.cons (op_assign (A := rd (kint .i64) (IntKind.i64.wrap (f7 + 1))) rfl rfl (vt rfl)) rfl ?_
      refine AOps.nil ?_
      subst hgo1
      exact ⟨(m8, (Vector.set b6 j11.1 x10 j11.2), (IntKind.i64.wrap (f7 + 1))), Nat.lt_succ_self _, ⟨trivial, h⟩, ⟨rfl, ⟨rfl, rfl, rfl, trivial⟩, ⟨rfl, rfl, trivial⟩⟩⟩
    · have h := cond_f hc h
      refine AW.exit ?_
      refine AW.seq ?_
      refine AW.region ?_
      refine AOps.cons (op_load rfl rfl ty56 (vt rfl) (i := 2) rfl) rfl ?_
      refine AOps.cons (op_store rfl rfl ty56 (vt rfl) (i := 3) rfl (vt rfl)) rfl ?_
      refine AOps.nil ?_
      refine AW.ret ?_
      obtain rfl := Option.some.inj h
      exact ret1 Try.results83 rfl (out_cell rfl (i := 3) rfl ty56)
-- weirbox/weirboxref02.Xor
def F136 (a1 : Wide) (b2 : Wide) : Option Wide :=
  some (⟨(a1.Hi ^^^ b2.Hi), (a1.Lo ^^^ b2.Lo)⟩ : Wide)
theorem c136 (a1 : Wide) (b2 : Wide) (r : Wide) (h : F136 a1 b2 = some r) : PCon Try.prog 136 [rd kWide a1, rd kWide b2] (rd kWide r) := by
  refine PCon.of (Con.intro0 Try.func136 rfl Try.ntmps136 rfl fun w H => ?_)
  unfold F136 at h
  refine AW.seq ?_
  refine AW.region ?_
  refine AOps.consT rfl (op_box 3 rfl rfl (vt rfl)) ?_
  rintro _ ⟨g3, rfl⟩
  refine AOps.consT rfl (op_box 4 rfl rfl (vt rfl)) ?_
  rintro _ ⟨g4, rfl⟩
  refine AOps.consT rfl (op_alloc 5 rfl rfl zr52) ?_
  rintro _ ⟨g5, rfl⟩
  refine AOps.nil ?_
  refine AW.seq ?_
  refine AW.region ?_
  refine AOps.cons (op_field lWide_0 rfl rfl fl52_0 (vt rfl)) rfl ?_
  refine AOps.cons (op_load rfl rfl ty50 (vt rfl) (i := 3) rfl) rfl ?_
  refine AOps.cons (op_field lWide_0 rfl rfl fl52_0 (vt rfl)) rfl ?_
  refine AOps.cons (op_load rfl rfl ty50 (vt rfl) (i := 4) rfl) rfl ?_
  refine AOps.cons (op_xor rfl rfl (vt rfl) (vt rfl)) rfl ?_
  refine AOps.cons (op_field lWide_1 rfl rfl fl52_1 (vt rfl)) rfl ?_
  refine AOps.cons (op_load rfl rfl ty50 (vt rfl) (i := 3) rfl) rfl ?_
  refine AOps.cons (op_field lWide_1 rfl rfl fl52_1 (vt rfl)) rfl ?_
  refine AOps.cons (op_load rfl rfl ty50 (vt rfl) (i := 4) rfl) rfl ?_
  refine AOps.cons (op_xor rfl rfl (vt rfl) (vt rfl)) rfl ?_
  refine AOps.cons (op_build (ps := [(0, .tmp 9), (1, .tmp 14)]) (x := (⟨(a1.Hi ^^^ b2.Hi), (a1.Lo ^^^ b2.Lo)⟩ : Wide)) rfl rfl rfl (by kernel_rfl) zr52 ⟨_, _, lWide_0, _, by kernel_rfl, (vt rfl), _, _, lWide_1, _, by kernel_rfl, (vt rfl), rfl⟩) rfl ?_
  refine AOps.cons (op_store rfl rfl ty52 (vt rfl) (i := 5) rfl (vt rfl)) rfl ?_
  refine AOps.nil ?_
  refine AW.ret ?_
  obtain rfl := Option.some.inj h
  exact ret1 Try.results136 rfl (out_cell rfl (i := 5) rfl ty52)
-- weirbox/weirboxref02.Zero
def F129 (a1 : Wide) : Option Bool :=
  some ((decide (a1.Hi = (0 : BitVec 64))) && (decide (a1.Lo = (0 : BitVec 64))))
theorem c129 (a1 : Wide) (r : Bool) (h : F129 a1 = some r) : PCon Try.prog 129 [rd kWide a1] (rd kbool r) := by
  refine PCon.of (Con.intro0 Try.func129 rfl Try.ntmps129 rfl fun w H => ?_)
  unfold F129 at h
  refine AW.seq ?_
  refine AW.region ?_
  refine AOps.consT rfl (op_box 2 rfl rfl (vt rfl)) ?_
  rintro _ ⟨g2, rfl⟩
  refine AOps.cons (op_assign (A := rd kbool false) rfl rfl vb) rfl ?_
  refine AOps.nil ?_
  refine AW.seq ?_
  refine AW.region ?_
  refine AOps.cons (op_field lWide_0 rfl rfl fl52_0 (vt rfl)) rfl ?_
  refine AOps.cons (op_load rfl rfl ty50 (vt rfl) (i := 2) rfl) rfl ?_
  refine AOps.cons (op_eqlu rfl rfl (vt rfl) (vku (0 : BitVec 64) rfl)) rfl ?_
  refine AOps.cons (op_move (A := rd kbool (decide (a1.Hi = (0 : BitVec 64)))) rfl rfl (vt rfl)) rfl ?_
  refine AOps.consG (OpG.guard rfl rfl rfl rfl rfl fun hq => op_field lWide_1 rfl rfl fl52_1 (vt rfl)) ?_
  refine AOps.consG (OpG.guard rfl rfl rfl rfl rfl fun hq => op_load rfl rfl ty50 (vgt rfl hq) (i := 2) rfl) ?_
  refine AOps.consG (OpG.guard rfl rfl rfl rfl rfl fun hq => op_eqlu rfl rfl (vgt rfl hq) (vku (0 : BitVec 64) rfl)) ?_
  refine AOps.cons (op_all rfl rfl (vt rfl) (vt rfl)) rfl ?_
  refine AOps.cons (op_assign (A := rd kbool ((decide (a1.Hi = (0 : BitVec 64))) && (decide (a1.Lo = (0 : BitVec 64))))) rfl rfl (vt rfl)) rfl ?_
  refine AOps.nil ?_
  refine AW.ret ?_
  obtain rfl := Option.some.inj h
  exact ret1 Try.results129 rfl (out_tmp rfl)
end Go.Proofs.Ytokmmcflinnfiaa.W
