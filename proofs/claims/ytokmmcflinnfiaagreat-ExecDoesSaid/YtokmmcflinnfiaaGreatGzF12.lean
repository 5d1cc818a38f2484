/- GzF12: a part of the proof. -/
import Derived.Test.YtokmmcflinnfiaaGreatGzF11
set_option linter.unusedVariables false
set_option maxRecDepth 4000
set_option linter.unusedSimpArgs false
namespace Go.Proofs.YtokmmcflinnfiaaGreat.W
open Go Go.Wb
-- weirbox/rewrite.Then$1
def F127 (i1 : Int) (c2 : (Vector Tern 24)) (c3 : (Vector Tern 24)) : Option Tern :=
  (chk 24 i1).bind fun j5 => (chk 24 i1).bind fun j6 => (F116 (Vector.get c2 j5) (Vector.get c3 j6)).bind fun x7 => some x7
theorem c127 (i1 : Int) (c2 : (Vector Tern 24)) (c3 : (Vector Tern 24)) (r : Tern) (h : F127 i1 c2 c3 = some r) : PCon Tryz.prog 127 [rd (kint .i64) i1, rp (karr 24 kTern) c2, rp (karr 24 kTern) c3] (rd kTern r) := by
  refine PCon.of (Con.intro0 Tryz.func127 rfl Tryz.ntmps127 rfl fun w H => ?_)
  unfold F127 at h
  refine AW.seq ?_
  refine AW.region ?_
  refine AOps.consT rfl (op_alloc 5 rfl rfl zr42) ?_
  rintro _ ⟨g4, rfl⟩
  refine AOps.nil ?_
  refine AW.seq ?_
  obtain ⟨j5, hj5, h⟩ := bsome h
  obtain ⟨j6, hj6, h⟩ := bsome h
  obtain ⟨x7, hx7, h⟩ := bsome h
  refine AW.regionAny [⟨[0], [5], [], []⟩, ⟨[1, 5], [6], [], []⟩, ⟨[6], [7], [], []⟩, ⟨[0], [8], [], []⟩, ⟨[2, 8], [9], [], []⟩, ⟨[9], [10], [], []⟩, ⟨[7, 10], [11], [], []⟩, ⟨[4, 11], [], [5], [5]⟩] mixed (by kernel_rfl) ?_
  refine SeqA.cons (loc [0] [] rfl rfl fun S hs hr => op_move (A := rd (kint .i64) i1) rfl rfl (vt ((hs 0 rfl).trans rfl))) ⟨rfl, rfl, rfl, rfl⟩ ?_
  refine SeqA.cons (loc [1, 5] [] rfl rfl fun S hs hr => op_indexp' rfl rfl ar44 (vt ((hs 1 rfl).trans rfl)) (vt ((hs 5 rfl).trans rfl)) hj5) ⟨rfl, rfl, rfl, rfl⟩ ?_
  refine SeqA.cons (loc [6] [] rfl rfl fun S hs hr => op_loadp rfl rfl ty42 (vt ((hs 6 rfl).trans rfl))) ⟨rfl, rfl, rfl, rfl⟩ ?_
  refine SeqA.cons (loc [0] [] rfl rfl fun S hs hr => op_move (A := rd (kint .i64) i1) rfl rfl (vt ((hs 0 rfl).trans rfl))) ⟨rfl, rfl, rfl, rfl⟩ ?_
  refine SeqA.cons (loc [2, 8] [] rfl rfl fun S hs hr => op_indexp' rfl rfl ar44 (vt ((hs 2 rfl).trans rfl)) (vt ((hs 8 rfl).trans rfl)) hj6) ⟨rfl, rfl, rfl, rfl⟩ ?_
  refine SeqA.cons (loc [9] [] rfl rfl fun S hs hr => op_loadp rfl rfl ty42 (vt ((hs 9 rfl).trans rfl))) ⟨rfl, rfl, rfl, rfl⟩ ?_
  refine SeqA.cons (loc [7, 10] [] rfl rfl fun S hs hr => op_call (xs := [.tmp 7, .tmp 10]) (c116 _ _ _ hx7) (Ent.mk Tryz.func116 rfl rfl) rfl rfl ⟨vt ((hs 7 rfl).trans rfl), vt ((hs 10 rfl).trans rfl), trivial⟩) ⟨rfl, rfl, rfl, rfl⟩ ?_
  refine SeqA.cons (locr [4, 11] [5] rfl fun S hs hr => op_store rfl rfl ty42 (vt ((hs 4 rfl).trans rfl)) (i := 5) ((hr 5 rfl).trans rfl) (vt ((hs 11 rfl).trans rfl))) ⟨rfl, rfl, rfl, rfl⟩ ?_
  refine AW.ret ?_
  obtain rfl := Option.some.inj h
  exact ret1 Tryz.results127 rfl (out_cell rfl (i := 5) rfl ty42)
-- weirbox/rewrite.Then
def F113 (a1 : (Vector Tern 24)) (b2 : (Vector Tern 24)) : Option (Vector Tern 24) :=
  (F108 (fun x => F127 x a1 b2)).bind fun x6 => some x6
theorem c113 (a1 : (Vector Tern 24)) (b2 : (Vector Tern 24)) (r : (Vector Tern 24)) (h : F113 a1 b2 = some r) : PCon Tryz.prog 113 [rd (karr 24 kTern) a1, rd (karr 24 kTern) b2] (rd (karr 24 kTern) r) := by
  refine PCon.of (Con.intro0 Tryz.func113 rfl Tryz.ntmps113 rfl fun w H => ?_)
  unfold F113 at h
  refine AW.seq ?_
  refine AW.region ?_
  refine AOps.consT rfl (op_box 3 rfl rfl (vt rfl)) ?_
  rintro _ ⟨g3, rfl⟩
  refine AOps.consT rfl (op_box 4 rfl rfl (vt rfl)) ?_
  rintro _ ⟨g4, rfl⟩
  refine AOps.consT rfl (op_alloc 5 rfl rfl zr44) ?_
  rintro _ ⟨g5, rfl⟩
  refine AOps.nil ?_
  refine AW.seq ?_
  refine AW.freezeB 2 3 rfl rfl rfl ?_
  refine AW.freezeB 3 4 rfl rfl rfl ?_
  obtain ⟨x6, hx6, h⟩ := bsome h
  refine AW.region ?_
  refine AOps.cons (op_fn1 (cs := [.tmp 2, .tmp 3]) (CAs := [rp (karr 24 kTern) a1, rp (karr 24 kTern) b2]) (fun x => F127 x a1 b2) rfl rfl (Ent.mk Tryz.func127 rfl rfl) ⟨vt rfl, vt rfl, trivial⟩ (fun x y h => c127 _ _ _ y h)) rfl ?_
  refine AOps.cons (op_call (xs := [.tmp 5]) (c108 _ _ hx6) (Ent.mk Tryz.func108 rfl rfl) rfl rfl ⟨vt rfl, trivial⟩) rfl ?_
  refine AOps.cons (op_store rfl rfl ty44 (vt rfl) (i := 5) rfl (vt rfl)) rfl ?_
  refine AOps.nil ?_
  refine AW.ret ?_
  obtain rfl := Option.some.inj h
  exact ret1 Tryz.results113 rfl (out_cell rfl (i := 5) rfl ty44)
-- (*weirbox/atom.trace).do
def F69_j1 (t1 : atom_trace) (b7 : Atom) : Option atom_trace :=
  (appd t1.atoms [b7]).bind fun l8 => some (⟨t1.got, l8⟩ : atom_trace)
def F69 (t1 : atom_trace) (a4 : Action) : Option atom_trace :=
  (bif (decide (a4.Kind = 0)) then (bif (decide (a4.Port = 4294967293)) then F69_j1 t1 { { (⟨t1.got, false, 0, 0⟩ : Atom) with Port := a4.Port } with Max := a4.Max } else F69_j1 t1 { (⟨t1.got, false, 0, 0⟩ : Atom) with Port := a4.Port }) else (bif (decide (a4.Kind = 22)) then F69_j1 t1 { { (⟨t1.got, false, 0, 0⟩ : Atom) with Group := true } with Port := a4.Group } else (F51 a4).bind fun x10 => (F113 t1.got x10).bind fun x11 => some (⟨x11, t1.atoms⟩ : atom_trace)))
theorem c69 (g2 : Nat) (t1 : atom_trace) (a4 : Action) (r : atom_trace) (h : F69 t1 a4 = some r) : Con Tryz.prog 69 [ptrL g2 (Lens.id katom_trace_o1), rd kAction a4] (BoxF g2 107 katom_trace_o1 (fun v => (⟨t1.got, v⟩ : atom_trace_o1)) 48 kAtom t1.atoms) (fun _ : Unit => top) (fun _ => BoxF g2 107 katom_trace_o1 (fun v => (⟨r.got, v⟩ : atom_trace_o1)) 48 kAtom r.atoms) := by
  refine Con.intro Tryz.func69 rfl Tryz.ntmps69 rfl fun w H X => ?_
  unfold F69 at h
  refine AW.unboxF 0 2001 (by decide) rfl rfl fun v3 => ?_
  refine AW.seq ?_
  refine AW.region ?_
  refine AOps.consT rfl (op_box 4 rfl rfl (vt rfl)) ?_
  rintro _ ⟨g5, rfl⟩
  refine AOps.nil ?_
  refine AW.seq ?_
  refine AW.region ?_
  refine AOps.cons (op_move (A := ptrL g2 (Lens.id katom_trace_o1)) rfl rfl (vt rfl)) rfl ?_
  refine AOps.cons (op_nilCheck rfl rfl (vt rfl)) rfl ?_
  refine AOps.cons (op_field latom_trace_o1_0 rfl rfl flv107_0_1 (vt rfl)) rfl ?_
  refine AOps.cons (op_load rfl rfl ty44 (vt rfl) (i := 0) rfl) rfl ?_
  refine AOps.cons (op_build (ps := [(0, .tmp 8)]) (x := (⟨t1.got, false, 0, 0⟩ : Atom)) rfl rfl rfl (by kernel_rfl) zr48 ⟨_, _, lAtom_0, _, by kernel_rfl, (vt rfl), rfl⟩) rfl ?_
  refine AOps.consT rfl (op_alloc 5 rfl rfl zr48) ?_
  rintro _ ⟨g6, rfl⟩
  refine AOps.cons (op_store rfl rfl ty48 (vt rfl) (i := 5) rfl (vt rfl)) rfl ?_
  refine AOps.nil ?_
  refine AW.join (d := []) (ν := Atom) (fun n => F69_j1 t1 n = some r) (fun n => [(0, ptrL g2 (Lens.id katom_trace_o1)), (4, ptrL g6 (Lens.id kAtom))]) (fun n => [(0, Blk g2 107 katom_trace_o1 (⟨t1.got, v3⟩ : atom_trace_o1)), (5, Blk g6 48 kAtom n), (2001, Row v3 48 kAtom t1.atoms)]) ?hx ?hy
  case hy =>
    intro b7 h
    unfold F69_j1 at h
    change AW _ _ _ ⟨slots [(0, ptrL g2 (Lens.id katom_trace_o1)), (4, ptrL g6 (Lens.id kAtom))], ress [(0, Blk g2 107 katom_trace_o1 (⟨t1.got, v3⟩ : atom_trace_o1)), (5, Blk g6 48 kAtom b7), (2001, Row v3 48 kAtom t1.atoms)], _⟩
    obtain ⟨l8, hl8, h⟩ := bsome h
    refine AW.endT ?_
    refine AW.regionAny [⟨[0], [39], [], []⟩, ⟨[0], [40], [], []⟩, ⟨[40], [41], [], []⟩, ⟨[41], [42], [], []⟩, ⟨[42], [43], [0], []⟩, ⟨[4], [44], [5], []⟩, ⟨[44], [45], [], []⟩, ⟨[43, 45], [46], [2001], [2001]⟩, ⟨[39], [47], [], []⟩, ⟨[47], [48], [], []⟩, ⟨[48, 46], [46], [0], [0]⟩] mixed (by kernel_rfl) ?_
    refine SeqA.cons (loc [0] [] rfl rfl fun S hs hr => op_move (A := ptrL g2 (Lens.id katom_trace_o1)) rfl rfl (vt ((hs 0 rfl).trans rfl))) ⟨rfl, rfl, rfl, rfl⟩ ?_
    refine SeqA.cons (loc [0] [] rfl rfl fun S hs hr => op_move (A := ptrL g2 (Lens.id katom_trace_o1)) rfl rfl (vt ((hs 0 rfl).trans rfl))) ⟨rfl, rfl, rfl, rfl⟩ ?_
    refine SeqA.cons (loc [40] [] rfl rfl fun S hs hr => op_nilCheck rfl rfl (vt ((hs 40 rfl).trans rfl))) ⟨rfl, rfl, rfl, rfl⟩ ?_
    refine SeqA.cons (loc [41] [] rfl rfl fun S hs hr => op_field latom_trace_o1_1 rfl rfl flv107_1_1 (vt ((hs 41 rfl).trans rfl))) ⟨rfl, rfl, rfl, rfl⟩ ?_
    refine SeqA.cons (loc [42] [0] rfl rfl fun S hs hr => op_loadv v3 rfl rfl tyr40 (vt ((hs 42 rfl).trans rfl)) (i := 0) ((hr 0 rfl).trans rfl) rfl) ⟨rfl, rfl, rfl, rfl⟩ ?_
    refine SeqA.cons (loc [4] [5] rfl rfl fun S hs hr => op_load rfl rfl ty48 (vt ((hs 4 rfl).trans rfl)) (i := 5) ((hr 5 rfl).trans rfl)) ⟨rfl, rfl, rfl, rfl⟩ ?_
    refine SeqA.cons (loc [44] [] rfl rfl fun S hs hr => op_buildSliceR (ps := [(0, .tmp 44)]) (l := [b7]) rfl rfl sl40 zr48 rfl rfl ⟨_, _, Lens.idx 1 kAtom 0 (by decide), _, rfl, (vt ((hs 44 rfl).trans rfl)), rfl⟩ rfl) ⟨rfl, rfl, rfl, rfl⟩ ?_
    refine SeqA.cons (locs (us := [(46, ownR 48 kAtom l8)]) (ur := [(2001, emp)]) [43, 45] [2001] rfl fun S hs hr => op_appendO 2001 hl8 rfl rfl rfl el40 (vt ((hs 43 rfl).trans rfl)) ((hr 2001 rfl).trans rfl) (vt ((hs 45 rfl).trans rfl))) ⟨rfl, rfl, rfl, rfl⟩ ?_
    refine SeqA.cons (loc [39] [] rfl rfl fun S hs hr => op_nilCheck rfl rfl (vt ((hs 39 rfl).trans rfl))) ⟨rfl, rfl, rfl, rfl⟩ ?_
    refine SeqA.cons (loc [47] [] rfl rfl fun S hs hr => op_field latom_trace_o1_1 rfl rfl flv107_1_1 (vt ((hs 47 rfl).trans rfl))) ⟨rfl, rfl, rfl, rfl⟩ ?_
    refine SeqA.cons (locs (us := [(46, top)]) (ur := [(0, BoxF g2 107 katom_trace_o1 (fun v => ((Lens.comp (Lens.id katom_trace_o1) latom_trace_o1_1)).set (⟨t1.got, v3⟩ : atom_trace_o1) v) 48 kAtom l8)]) [48, 46] [0] rfl fun S hs hr => op_storeR rfl rfl tyr40 (vt ((hs 48 rfl).trans rfl)) ((hr 0 rfl).trans rfl) ((hs 46 rfl).trans rfl)) ⟨rfl, rfl, rfl, rfl⟩ ?_
    refine EndT.unboxF 0 2001 (by decide) rfl rfl fun v9 => ?_
    refine EndT.done ?_
    obtain rfl := Option.some.inj h
    exact RetOK.turn (Turn.packF 0 2001 (fun v => (⟨t1.got, v⟩ : atom_trace_o1)) (by decide) rfl rfl) (ret0Y (i := 0) Tryz.results69 rfl rfl)
  case hx =>
    refine AW.seq ?_
    refine AW.region ?_
    refine AOps.cons (op_field lAction_0 rfl rfl fl62_0 (vt rfl)) rfl ?_
    refine AOps.cons (op_load rfl rfl ty3 (vt rfl) (i := 4) rfl) rfl ?_
    refine AOps.nil ?_
    refine AW.block ?_
    refine AW.seq ?_
    refine AW.region ?_
    refine AOps.cons (op_eql rfl rfl (vt rfl) (vk rfl)) rfl ?_
    refine AOps.cons (op_assign (A := rd kbool (decide (a4.Kind = 0))) rfl rfl (vt rfl)) rfl ?_
    refine AOps.nil ?_
    refine AW.cond (vt rfl) (fun hc => ?_) (fun hc => ?_)
    · have h := cond_t hc h
      refine AW.seq ?_
      refine AW.region ?_
      refine AOps.cons (op_field lAction_1 rfl rfl fl62_1 (vt rfl)) rfl ?_
      refine AOps.cons (op_load rfl rfl ty3 (vt rfl) (i := 4) rfl) rfl ?_
      refine AOps.cons (op_field lAtom_2 rfl rfl fl48_2 (vt rfl)) rfl ?_
      refine AOps.cons (op_store rfl rfl ty3 (vt rfl) (i := 5) rfl (vt rfl)) rfl ?_
      refine AOps.nil ?_
      refine AW.seq ?_
      refine AW.region ?_
      refine AOps.cons (op_field lAction_1 rfl rfl fl62_1 (vt rfl)) rfl ?_
      refine AOps.cons (op_load rfl rfl ty3 (vt rfl) (i := 4) rfl) rfl ?_
      refine AOps.cons (op_eql rfl rfl (vt rfl) (vk rfl)) rfl ?_
      refine AOps.nil ?_
      refine AW.cond (vt rfl) (fun hc => ?_) (fun hc => ?_)
      · have h := cond_t hc h
        refine AW.region ?_
        refine AOps.cons (op_field lAction_2 rfl rfl fl62_2 (vt rfl)) rfl ?_
        refine AOps.cons (op_load rfl rfl ty3 (vt rfl) (i := 4) rfl) rfl ?_
        refine AOps.cons (op_field lAtom_3 rfl rfl fl48_3 (vt rfl)) rfl ?_
        refine AOps.cons (op_store rfl rfl ty3 (vt rfl) (i := 5) rfl (vt rfl)) rfl ?_
        refine AOps.nil ?_
        exact ⟨{ { (⟨t1.got, false, 0, 0⟩ : Atom) with Port := a4.Port } with Max := a4.Max }, h, ⟨rfl, ⟨rfl, rfl, trivial⟩, ⟨rfl, rfl, rfl, trivial⟩⟩⟩
      · have h := cond_f hc h
        refine AW.skip ?_
        exact ⟨{ (⟨t1.got, false, 0, 0⟩ : Atom) with Port := a4.Port }, h, ⟨rfl, ⟨rfl, rfl, trivial⟩, ⟨rfl, rfl, rfl, trivial⟩⟩⟩
    · have h := cond_f hc h
      refine AW.seq ?_
      refine AW.region ?_
      refine AOps.cons (op_eql rfl rfl (vt rfl) (vk rfl)) rfl ?_
      refine AOps.cons (op_assign (A := rd kbool (decide (a4.Kind = 22))) rfl rfl (vt rfl)) rfl ?_
      refine AOps.nil ?_
      refine AW.cond (vt rfl) (fun hc => ?_) (fun hc => ?_)
      · have h := cond_t hc h
        refine AW.regionAny [⟨[3], [35], [], []⟩, ⟨[35], [36], [4], []⟩, ⟨[4], [37], [], []⟩, ⟨[37], [], [5], [5]⟩, ⟨[4], [38], [], []⟩, ⟨[38, 36], [], [5], [5]⟩] mixed (by kernel_rfl) ?_
        refine SeqA.cons (loc [3] [] rfl rfl fun S hs hr => op_field lAction_3 rfl rfl fl62_3 (vt ((hs 3 rfl).trans rfl))) ⟨rfl, rfl, rfl, rfl⟩ ?_
        refine SeqA.cons (loc [35] [4] rfl rfl fun S hs hr => op_load rfl rfl ty3 (vt ((hs 35 rfl).trans rfl)) (i := 4) ((hr 4 rfl).trans rfl)) ⟨rfl, rfl, rfl, rfl⟩ ?_
        refine SeqA.cons (loc [4] [] rfl rfl fun S hs hr => op_field lAtom_1 rfl rfl fl48_1 (vt ((hs 4 rfl).trans rfl))) ⟨rfl, rfl, rfl, rfl⟩ ?_
        refine SeqA.cons (locr [37] [5] rfl fun S hs hr => op_store rfl rfl ty4 (vt ((hs 37 rfl).trans rfl)) (i := 5) ((hr 5 rfl).trans rfl) vb) ⟨rfl, rfl, rfl, rfl⟩ ?_
        refine SeqA.cons (loc [4] [] rfl rfl fun S hs hr => op_field lAtom_2 rfl rfl fl48_2 (vt ((hs 4 rfl).trans rfl))) ⟨rfl, rfl, rfl, rfl⟩ ?_
        refine SeqA.cons (locr [38, 36] [5] rfl fun S hs hr => op_store rfl rfl ty3 (vt ((hs 38 rfl).trans rfl)) (i := 5) ((hr 5 rfl).trans rfl) (vt ((hs 36 rfl).trans rfl))) ⟨rfl, rfl, rfl, rfl⟩ ?_
        exact ⟨{ { (⟨t1.got, false, 0, 0⟩ : Atom) with Group := true } with Port := a4.Group }, h, ⟨rfl, ⟨rfl, rfl, trivial⟩, ⟨rfl, rfl, rfl, trivial⟩⟩⟩
      · have h := cond_f hc h
        refine AW.seq ?_
        obtain ⟨x10, hx10, h⟩ := bsome h
        obtain ⟨x11, hx11, h⟩ := bsome h
        refine AW.regionAny [⟨[0], [12], [], []⟩, ⟨[0], [13], [], []⟩, ⟨[13], [14], [], []⟩, ⟨[14], [15], [], []⟩, ⟨[15], [16], [0], []⟩, ⟨[3], [17], [4], []⟩, ⟨[17], [18], [], []⟩, ⟨[16, 18], [19], [], []⟩, ⟨[12], [20], [], []⟩, ⟨[20], [21], [], []⟩, ⟨[21, 19], [], [0], [0]⟩] mixed (by kernel_rfl) ?_
        refine SeqA.cons (loc [0] [] rfl rfl fun S hs hr => op_move (A := ptrL g2 (Lens.id katom_trace_o1)) rfl rfl (vt ((hs 0 rfl).trans rfl))) ⟨rfl, rfl, rfl, rfl⟩ ?_
        refine SeqA.cons (loc [0] [] rfl rfl fun S hs hr => op_move (A := ptrL g2 (Lens.id katom_trace_o1)) rfl rfl (vt ((hs 0 rfl).trans rfl))) ⟨rfl, rfl, rfl, rfl⟩ ?_
        refine SeqA.cons (loc [13] [] rfl rfl fun S hs hr => op_nilCheck rfl rfl (vt ((hs 13 rfl).trans rfl))) ⟨rfl, rfl, rfl, rfl⟩ ?_
        refine SeqA.cons (loc [14] [] rfl rfl fun S hs hr => op_field latom_trace_o1_0 rfl rfl flv107_0_1 (vt ((hs 14 rfl).trans rfl))) ⟨rfl, rfl, rfl, rfl⟩ ?_
        refine SeqA.cons (loc [15] [0] rfl rfl fun S hs hr => op_load rfl rfl ty44 (vt ((hs 15 rfl).trans rfl)) (i := 0) ((hr 0 rfl).trans rfl)) ⟨rfl, rfl, rfl, rfl⟩ ?_
        refine SeqA.cons (loc [3] [4] rfl rfl fun S hs hr => op_load rfl rfl ty62 (vt ((hs 3 rfl).trans rfl)) (i := 4) ((hr 4 rfl).trans rfl)) ⟨rfl, rfl, rfl, rfl⟩ ?_
        refine SeqA.cons (loc [17] [] rfl rfl fun S hs hr => op_call (xs := [.tmp 17]) (c51 _ _ hx10) (Ent.mk Tryz.func51 rfl rfl) rfl rfl ⟨vt ((hs 17 rfl).trans rfl), trivial⟩) ⟨rfl, rfl, rfl, rfl⟩ ?_
        refine SeqA.cons (loc [16, 18] [] rfl rfl fun S hs hr => op_call (xs := [.tmp 16, .tmp 18]) (c113 _ _ _ hx11) (Ent.mk Tryz.func113 rfl rfl) rfl rfl ⟨vt ((hs 16 rfl).trans rfl), vt ((hs 18 rfl).trans rfl), trivial⟩) ⟨rfl, rfl, rfl, rfl⟩ ?_
        refine SeqA.cons (loc [12] [] rfl rfl fun S hs hr => op_nilCheck rfl rfl (vt ((hs 12 rfl).trans rfl))) ⟨rfl, rfl, rfl, rfl⟩ ?_
        refine SeqA.cons (loc [20] [] rfl rfl fun S hs hr => op_field latom_trace_o1_0 rfl rfl flv107_0_1 (vt ((hs 20 rfl).trans rfl))) ⟨rfl, rfl, rfl, rfl⟩ ?_
        refine SeqA.cons (locr [21, 19] [0] rfl fun S hs hr => op_store rfl rfl ty44 (vt ((hs 21 rfl).trans rfl)) (i := 0) ((hr 0 rfl).trans rfl) (vt ((hs 19 rfl).trans rfl))) ⟨rfl, rfl, rfl, rfl⟩ ?_
        refine AW.ret ?_
        obtain rfl := Option.some.inj h
        exact RetOK.turn (Turn.packF 0 2001 (fun v => (⟨x11, v⟩ : atom_trace_o1)) (by decide) rfl rfl) (ret0Y (i := 0) Tryz.results69 rfl rfl)
-- weirbox/atom.each[weirbox/api.Action]
def F68_l1 (sg : Type) (do2 : (sg → Action → Option sg)) : (List Action) → Nat → sg → Option sg
  | [], i6, s5 => some s5
  | x8 :: l7, i6, s5 => (do2 s5 x8).bind fun s10 => (F68_l1 sg do2 l7) (i6 + 1) s10
def F68 (l1 : (List Action)) (sg : Type) (do2 : (sg → Action → Option sg)) (s3 : sg) : Option sg :=
  F68_l1 sg do2 l1 0 s3
theorem c68 (l1 : (List Action)) (sg : Type) (do2 : (sg → Action → Option sg)) (L : sg → Res) (s3 : sg) (r : sg) (h : F68 l1 sg do2 s3 = some r) : Con Tryz.prog 68 [rd (ksl kAction) l1, stA Tryz.prog kAction do2 L] (L s3) (fun _ : Unit => top) (fun _ => L r) := by
  refine Con.intro Tryz.func68 rfl Tryz.ntmps68 rfl fun w H X => ?_
  unfold F68 at h
  refine AW.seq ?_
  refine AW.region ?_
  refine AOps.cons (op_move (A := rd (ksl kAction) l1) rfl rfl (vt rfl)) rfl ?_
  refine AOps.cons (op_len' rfl rfl sl26 (vt rfl)) rfl ?_
  refine AOps.cons (op_move (A := rd (kint .i64) 0) rfl rfl (vk rfl)) rfl ?_
  refine AOps.nil ?_
  refine AW.block ?_
  refine AW.loopG (d := []) (ν := (List Action) × Nat × sg) (fun n => Sfx l1 n.2.1 n.1 ∧ F68_l1 sg do2 n.1 n.2.1 n.2.2 = some r) (fun n => n.1.length) (fun n => [(1, stA Tryz.prog kAction do2 L), (6, rd (ksl kAction) l1), (7, rd (kint .i64) (l1.length : Int)), (8, rd (kint .i64) (n.2.1 : Int))]) (fun n => [(0, L n.2.2)]) (l1, 0, s3) ⟨Sfx.start _, h⟩ ⟨rfl, ⟨rfl, rfl, rfl, rfl, trivial⟩, ⟨rfl, trivial⟩⟩ ?_
  rintro ⟨l7, i6, s5⟩ ⟨hsf1, h⟩
  change Sfx l1 i6 l7 at hsf1
  change F68_l1 sg do2 l7 i6 s5 = some r at h
  change AW _ _ _ ⟨slots [(1, stA Tryz.prog kAction do2 L), (6, rd (ksl kAction) l1), (7, rd (kint .i64) (l1.length : Int)), (8, rd (kint .i64) (i6 : Int))], ress [(0, L s5)], _⟩
  cases l7 with
  | nil =>
    unfold F68_l1 at h
    refine AW.seq ?_
    refine AW.region ?_
    refine AOps.cons (op_lss rfl rfl (vt rfl) (vt rfl)) rfl ?_
    refine AOps.nil ?_
    refine AW.seq ?_
    refine AW.cond (vt rfl) (fun hc => absurd (of_decide_eq_true hc) hsf1.nil) (fun hc => ?_)
    refine AW.exit ?_
    obtain rfl := Option.some.inj h
    exact ret0Y (i := 0) Tryz.results68 rfl rfl
  | cons x8 l7 =>
    unfold F68_l1 at h
    generalize hgo1 : F68_l1 sg do2 l7 = go1 at h
    refine AW.seq ?_
    refine AW.region ?_
    refine AOps.cons (op_lss rfl rfl (vt rfl) (vt rfl)) rfl ?_
    refine AOps.nil ?_
    refine AW.seq ?_
    refine AW.cond (vt rfl) (fun hc => ?_) (fun hc => absurd hsf1.cons (of_decide_eq_false hc))
    have hlti6 := of_decide_eq_true hc
    refine AW.skip ?_
    refine AW.seq ?_
    refine AW.block ?_
    refine AW.seq ?_
    refine AW.region ?_
    refine AOps.cons (op_indexs' rfl rfl sl26 (vt rfl) (vt rfl) hsf1.lget) rfl ?_
    refine AOps.cons (op_loadp rfl rfl ty62 (vt rfl)) rfl ?_
    refine AOps.consT rfl (op_alloc 6 rfl rfl zr62) ?_
    rintro _ ⟨g9, rfl⟩
    refine AOps.cons (op_store rfl rfl ty62 (vt rfl) (i := 6) rfl (vt rfl)) rfl ?_
    refine AOps.nil ?_
    obtain ⟨s10, hs10, h⟩ := bsome h
    refine AW.region ?_
    refine AOps.cons (op_move (A := stA Tryz.prog kAction do2 L) rfl rfl (vt rfl)) rfl ?_
    refine AOps.cons (op_load rfl rfl ty62 (vt rfl) (i := 6) rfl) rfl ?_
    refine AOps.cons (op_callst 0 hs10 rfl rfl (vt rfl) (vt rfl) rfl) rfl ?_
    refine AOps.nil ?_
    refine AW.region ?_
    refine AOps.cons (op_incr (t := 7) rfl rfl (vt rfl) (vk rfl) (vt rfl) hlti6) rfl ?_
    refine AOps.cons (op_move (A := rd (kint .i64) ((i6 + 1 : Nat) : Int)) rfl rfl (vt rfl)) rfl ?_
    refine AOps.nil ?_
    subst hgo1
    exact ⟨(l7, i6 + 1, s10), Nat.lt_succ_self _, ⟨hsf1.next, h⟩, ⟨rfl, ⟨rfl, rfl, rfl, rfl, trivial⟩, ⟨rfl, trivial⟩⟩⟩
-- weirbox/atom.Do
def F43 (acts1 : (List Action)) (r2 : (Vector Tern 24)) : Option ((List Atom) × (Vector Tern 24)) :=
  (F61 r2).bind fun x5 => (F68 acts1 atom_trace (fun s x => F69 s x) (⟨x5, []⟩ : atom_trace)).bind fun b7 => some (b7.atoms, b7.got)
theorem c43 (acts1 : (List Action)) (r2 : (Vector Tern 24)) (r : ((List Atom) × (Vector Tern 24))) (h : F43 acts1 r2 = some r) : PCon Tryz.prog 43 [rd (ksl kAction) acts1, rd (karr 24 kTern) r2] (tup2 (rd (ksl kAtom) r.1) (rd (karr 24 kTern) r.2)) := by
  refine PCon.of (Con.intro0 Tryz.func43 rfl Tryz.ntmps43 rfl fun w H => ?_)
  unfold F43 at h
  refine AW.seq ?_
  refine AW.region ?_
  refine AOps.consT rfl (op_box 4 rfl rfl (vt rfl)) ?_
  rintro _ ⟨g3, rfl⟩
  refine AOps.cons (op_assign (A := rd (ksl kAtom) []) rfl rfl vnil) rfl ?_
  refine AOps.consT rfl (op_alloc 6 rfl rfl zr44) ?_
  rintro _ ⟨g4, rfl⟩
  refine AOps.nil ?_
  refine AW.seq ?_
  refine AW.newnil 2221 48 kAtom ?_
  obtain ⟨x5, hx5, h⟩ := bsome h
  refine AW.region ?_
  refine AOps.cons (op_load rfl rfl ty44 (vt rfl) (i := 4) rfl) rfl ?_
  refine AOps.cons (op_call (xs := [.tmp 7]) (c61 _ _ hx5) (Ent.mk Tryz.func61 rfl rfl) rfl rfl ⟨vt rfl, trivial⟩) rfl ?_
  refine AOps.cons (op_build (ps := [(0, .tmp 8)]) (x := (⟨x5, (.slice none 0 0)⟩ : atom_trace_o1)) rfl rfl rfl (by kernel_rfl) zrv107_1 ⟨_, _, latom_trace_o1_0, _, by kernel_rfl, (vt rfl), rfl⟩) rfl ?_
  refine AOps.consT rfl (op_box 11 rfl rfl (vt rfl)) ?_
  rintro _ ⟨g6, rfl⟩
  refine AOps.cons (op_assign (A := ptrL g6 (Lens.id katom_trace_o1)) rfl rfl (vt rfl)) rfl ?_
  refine AOps.nil ?_
  refine AW.seq ?_
  obtain ⟨b7, hb7, h⟩ := bsome h
  refine AW.region ?_
  refine AOps.cons (op_move (A := rd (ksl kAction) acts1) rfl rfl (vt rfl)) rfl ?_
  refine AOps.cons (op_move (A := ptrL g6 (Lens.id katom_trace_o1)) rfl rfl (vt rfl)) rfl ?_
  refine AOps.cons (op_st (fs := [.tmp 12]) (cs := []) (FAs := [ptrL g6 (Lens.id katom_trace_o1)]) (CAs := []) (k := kAction) (fun s x => F69 s x) (fun (s : atom_trace) => BoxF g6 107 katom_trace_o1 (fun v => (⟨s.got, v⟩ : atom_trace_o1)) 48 kAtom s.atoms) rfl rfl (Ent.mk Tryz.func69 rfl rfl) ⟨vt rfl, trivial⟩ trivial (fun s x s2 h => c69  _ s x s2 h)) rfl ?_
  refine AOps.packF 11 2221 (fun v => (⟨x5, v⟩ : atom_trace_o1)) (by decide) rfl rfl ?_
  refine AOps.consT rfl (op_callR 11 (xs := [.tmp 11, .tmp 13]) (c68 _ atom_trace _ (fun (s : atom_trace) => BoxF g6 107 katom_trace_o1 (fun v => (⟨s.got, v⟩ : atom_trace_o1)) 48 kAtom s.atoms) _ _ hb7) (Ent.mk Tryz.func68 rfl rfl) rfl rfl ⟨vt rfl, vt rfl, trivial⟩ rfl) ?_
  rintro _ ⟨_u, rfl⟩
  refine AOps.unboxF 11 2221 (by decide) rfl rfl fun v8 => ?_
  refine AOps.nil ?_
  refine AW.seq ?_
  refine AW.regionAny [⟨[6], [15], [], []⟩, ⟨[15], [16], [], []⟩, ⟨[16], [17], [], []⟩, ⟨[17], [18], [11], []⟩, ⟨[6], [19], [], []⟩, ⟨[19], [20], [], []⟩, ⟨[20], [21], [], []⟩, ⟨[21], [22], [11], []⟩, ⟨[18], [4], [], []⟩, ⟨[5, 22], [], [6], [6]⟩] mixed (by kernel_rfl) ?_
  refine SeqA.cons (loc [6] [] rfl rfl fun S hs hr => op_move (A := ptrL g6 (Lens.id katom_trace_o1)) rfl rfl (vt ((hs 6 rfl).trans rfl))) ⟨rfl, rfl, rfl, rfl⟩ ?_
  refine SeqA.cons (loc [15] [] rfl rfl fun S hs hr => op_nilCheck rfl rfl (vt ((hs 15 rfl).trans rfl))) ⟨rfl, rfl, rfl, rfl⟩ ?_
  refine SeqA.cons (loc [16] [] rfl rfl fun S hs hr => op_field latom_trace_o1_1 rfl rfl flv107_1_1 (vt ((hs 16 rfl).trans rfl))) ⟨rfl, rfl, rfl, rfl⟩ ?_
  refine SeqA.cons (loc [17] [11] rfl rfl fun S hs hr => op_loadv v8 rfl rfl tyr40 (vt ((hs 17 rfl).trans rfl)) (i := 11) ((hr 11 rfl).trans rfl) rfl) ⟨rfl, rfl, rfl, rfl⟩ ?_
  refine SeqA.cons (loc [6] [] rfl rfl fun S hs hr => op_move (A := ptrL g6 (Lens.id katom_trace_o1)) rfl rfl (vt ((hs 6 rfl).trans rfl))) ⟨rfl, rfl, rfl, rfl⟩ ?_
  refine SeqA.cons (loc [19] [] rfl rfl fun S hs hr => op_nilCheck rfl rfl (vt ((hs 19 rfl).trans rfl))) ⟨rfl, rfl, rfl, rfl⟩ ?_
  refine SeqA.cons (loc [20] [] rfl rfl fun S hs hr => op_field latom_trace_o1_0 rfl rfl flv107_0_1 (vt ((hs 20 rfl).trans rfl))) ⟨rfl, rfl, rfl, rfl⟩ ?_
  refine SeqA.cons (loc [21] [11] rfl rfl fun S hs hr => op_load rfl rfl ty44 (vt ((hs 21 rfl).trans rfl)) (i := 11) ((hr 11 rfl).trans rfl)) ⟨rfl, rfl, rfl, rfl⟩ ?_
  refine SeqA.cons (loc [18] [] rfl rfl fun S hs hr => op_assign (A := raw v8) rfl rfl (vt ((hs 18 rfl).trans rfl))) ⟨rfl, rfl, rfl, rfl⟩ ?_
  refine SeqA.cons (locr [5, 22] [6] rfl fun S hs hr => op_store rfl rfl ty44 (vt ((hs 5 rfl).trans rfl)) (i := 6) ((hr 6 rfl).trans rfl) (vt ((hs 22 rfl).trans rfl))) ⟨rfl, rfl, rfl, rfl⟩ ?_
  refine AW.freezes [4, 18] 2221 rfl ⟨rfl, rfl, trivial⟩ rfl ?_
  refine AW.ret ?_
  obtain rfl := Option.some.inj h
  exact ret2 Tryz.results43 rfl (out_tmp rfl) (out_cell rfl (i := 6) rfl ty44)
-- (weirbox/norm.world).list
def F35s_l1 (R38 : (norm_world → Int → (Vector Tern 24) → Option (List Atom))) (w1 : norm_world) : (List Atom) → Nat → (List Atom) → Option (List Atom)
  | [], i8, l6 => some l6
  | x10 :: l9, i8, l6 => (bif x10.Group then (R38 w1 x10.Port x10.Rewrite).bind fun x12 => (appd l6 x12).bind fun l13 => (F35s_l1 R38 w1 l9) (i8 + 1) l13 else (F61 x10.Rewrite).bind fun x15 => (appd l6 [{ x10 with Rewrite := x15 }]).bind fun l16 => (F35s_l1 R38 w1 l9) (i8 + 1) l16)
def F35s (R35 : (norm_world → (List Atom) → Option (List Atom))) (R38 : (norm_world → Int → (Vector Tern 24) → Option (List Atom))) (w1 : norm_world) (a2 : (List Atom)) : Option (List Atom) :=
  F35s_l1 R38 w1 a2 0 []
theorem c35s (R35 : (norm_world → (List Atom) → Option (List Atom))) (hR35 : ∀ (w1 : norm_world) (a2 : (List Atom)) (r : (List Atom)), R35 w1 a2 = some r → PCon Tryz.prog 35 [rd knorm_world w1, rd (ksl kAtom) a2] (rd (ksl kAtom) r)) (R38 : (norm_world → Int → (Vector Tern 24) → Option (List Atom))) (hR38 : ∀ (w1 : norm_world) (id2 : Int) (r3 : (Vector Tern 24)) (r : (List Atom)), R38 w1 id2 r3 = some r → PCon Tryz.prog 38 [rd knorm_world w1, rd (kint .i64) id2, rd (karr 24 kTern) r3] (rd (ksl kAtom) r)) (w1 : norm_world) (a2 : (List Atom)) (r : (List Atom)) (h : F35s R35 R38 w1 a2 = some r) : PCon Tryz.prog 35 [rd knorm_world w1, rd (ksl kAtom) a2] (rd (ksl kAtom) r) := by
  refine PCon.of (Con.intro0 Tryz.func35 rfl Tryz.ntmps35 rfl fun w H => ?_)
  unfold F35s at h
  refine AW.seq ?_
  refine AW.region ?_
  refine AOps.consT rfl (op_box 3 rfl rfl (vt rfl)) ?_
  rintro _ ⟨g3, rfl⟩
  refine AOps.cons (op_assign (A := rd (ksl kAtom) []) rfl rfl vnil) rfl ?_
  refine AOps.nil ?_
  refine AW.seq ?_
  refine AW.newnil 1001 48 kAtom ?_
  refine AW.region ?_
  refine AOps.cons (op_assign rfl rfl vc) rfl ?_
  refine AOps.nil ?_
  refine AW.seq ?_
  refine AW.seq ?_
  refine AW.region ?_
  refine AOps.cons (op_move (A := rd (ksl kAtom) a2) rfl rfl (vt rfl)) rfl ?_
  refine AOps.cons (op_len' rfl rfl sl40 (vt rfl)) rfl ?_
  refine AOps.cons (op_move (A := rd (kint .i64) 0) rfl rfl (vk rfl)) rfl ?_
  refine AOps.nil ?_
  refine AW.block ?_
  refine AW.loopG (d := []) (ν := (List Atom) × Nat × (List Atom) × Value) (fun n => Sfx a2 n.2.1 n.1 ∧ F35s_l1 R38 w1 n.1 n.2.1 n.2.2.1 = some r) (fun n => n.1.length) (fun n => [(2, ptrL g3 (Lens.id knorm_world)), (5, raw n.2.2.2), (8, rd (ksl kAtom) a2), (9, rd (kint .i64) (a2.length : Int)), (10, rd (kint .i64) (n.2.1 : Int))]) (fun n => [(3, Blk g3 79 knorm_world w1), (1001, Row n.2.2.2 48 kAtom n.2.2.1)]) (a2, 0, [], (.slice none 0 0)) ⟨Sfx.start _, h⟩ ⟨rfl, ⟨rfl, rfl, rfl, rfl, rfl, trivial⟩, ⟨rfl, rfl, trivial⟩⟩ ?_
  rintro ⟨l9, i8, l6, v7⟩ ⟨hsf1, h⟩
  change Sfx a2 i8 l9 at hsf1
  change F35s_l1 R38 w1 l9 i8 l6 = some r at h
  change AW _ _ _ ⟨slots [(2, ptrL g3 (Lens.id knorm_world)), (5, raw v7), (8, rd (ksl kAtom) a2), (9, rd (kint .i64) (a2.length : Int)), (10, rd (kint .i64) (i8 : Int))], ress [(3, Blk g3 79 knorm_world w1), (1001, Row v7 48 kAtom l6)], _⟩
  cases l9 with
  | nil =>
    unfold F35s_l1 at h
    refine AW.seq ?_
    refine AW.region ?_
    refine AOps.cons (op_lss rfl rfl (vt rfl) (vt rfl)) rfl ?_
    refine AOps.nil ?_
    refine AW.seq ?_
    refine AW.cond (vt rfl) (fun hc => absurd (of_decide_eq_true hc) hsf1.nil) (fun hc => ?_)
    refine AW.exit ?_
    refine AW.seq ?_
    refine AW.region ?_
    refine AOps.cons (op_move (A := raw v7) rfl rfl (vt rfl)) rfl ?_
    refine AOps.cons (op_assign (A := raw v7) rfl rfl (vt rfl)) rfl ?_
    refine AOps.nil ?_
    refine AW.freezes [4, 5, 33] 1001 rfl ⟨rfl, rfl, rfl, trivial⟩ rfl ?_
    refine AW.ret ?_
    obtain rfl := Option.some.inj h
    exact ret1 Tryz.results35 rfl (out_tmp rfl)
  | cons x10 l9 =>
    unfold F35s_l1 at h
    generalize hgo1 : F35s_l1 R38 w1 l9 = go1 at h
    refine AW.seq ?_
    refine AW.region ?_
    refine AOps.cons (op_lss rfl rfl (vt rfl) (vt rfl)) rfl ?_
    refine AOps.nil ?_
    refine AW.seq ?_
    refine AW.cond (vt rfl) (fun hc => ?_) (fun hc => absurd hsf1.cons (of_decide_eq_false hc))
    have hlti8 := of_decide_eq_true hc
    refine AW.skip ?_
    refine AW.seq ?_
    refine AW.block ?_
    refine AW.seq ?_
    refine AW.region ?_
    refine AOps.cons (op_indexs' rfl rfl sl40 (vt rfl) (vt rfl) hsf1.lget) rfl ?_
    refine AOps.cons (op_loadp rfl rfl ty48 (vt rfl)) rfl ?_
    refine AOps.consT rfl (op_alloc 8 rfl rfl zr48) ?_
    rintro _ ⟨g11, rfl⟩
    refine AOps.cons (op_store rfl rfl ty48 (vt rfl) (i := 8) rfl (vt rfl)) rfl ?_
    refine AOps.nil ?_
    refine AW.seq ?_
    refine AW.seq ?_
    refine AW.region ?_
    refine AOps.cons (op_field lAtom_1 rfl rfl fl48_1 (vt rfl)) rfl ?_
    refine AOps.cons (op_load rfl rfl ty4 (vt rfl) (i := 8) rfl) rfl ?_
    refine AOps.nil ?_
    refine AW.cond (vt rfl) (fun hc => ?_) (fun hc => ?_)
    · have h := cond_t hc h
      refine AW.seq ?_
      obtain ⟨x12, hx12, h⟩ := bsome h
      obtain ⟨l13, hl13, h⟩ := bsome h
      refine AW.region ?_
      refine AOps.cons (op_move (A := raw v7) rfl rfl (vt rfl)) rfl ?_
      refine AOps.cons (op_load rfl rfl ty79 (vt rfl) (i := 3) rfl) rfl ?_
      refine AOps.cons (op_field lAtom_2 rfl rfl fl48_2 (vt rfl)) rfl ?_
      refine AOps.cons (op_load rfl rfl ty3 (vt rfl) (i := 8) rfl) rfl ?_
      refine AOps.cons (op_field lAtom_0 rfl rfl fl48_0 (vt rfl)) rfl ?_
      refine AOps.cons (op_load rfl rfl ty44 (vt rfl) (i := 8) rfl) rfl ?_
      refine AOps.cons (op_call (xs := [.tmp 17, .tmp 19, .tmp 21]) (hR38 _ _ _ _ hx12) (Ent.mk Tryz.func38 rfl rfl) rfl rfl ⟨vt rfl, vt rfl, vt rfl, trivial⟩) rfl ?_
      refine AOps.consT rfl (op_append' 1001 hl13 rfl rfl el40 (vt rfl) rfl (vt rfl)) ?_
      rintro _ ⟨v14, rfl⟩
      refine AOps.cons (op_assign (A := raw v14) rfl rfl (vt rfl)) rfl ?_
      refine AOps.nil ?_
      refine AW.exit ?_
      refine AW.region ?_
      refine AOps.cons (op_incr (t := 9) rfl rfl (vt rfl) (vk rfl) (vt rfl) hlti8) rfl ?_
      refine AOps.cons (op_move (A := rd (kint .i64) ((i8 + 1 : Nat) : Int)) rfl rfl (vt rfl)) rfl ?_
      refine AOps.nil ?_
      subst hgo1
      exact ⟨(l9, i8 + 1, l13, v14), Nat.lt_succ_self _, ⟨hsf1.next, h⟩, ⟨rfl, ⟨rfl, rfl, rfl, rfl, rfl, trivial⟩, ⟨rfl, rfl, trivial⟩⟩⟩
    · have h := cond_f hc h
      refine AW.skip ?_
      refine AW.seq ?_
      obtain ⟨x15, hx15, h⟩ := bsome h
      refine AW.region ?_
      refine AOps.cons (op_field lAtom_0 rfl rfl fl48_0 (vt rfl)) rfl ?_
      refine AOps.cons (op_load rfl rfl ty44 (vt rfl) (i := 8) rfl) rfl ?_
      refine AOps.cons (op_call (xs := [.tmp 25]) (c61 _ _ hx15) (Ent.mk Tryz.func61 rfl rfl) rfl rfl ⟨vt rfl, trivial⟩) rfl ?_
      refine AOps.cons (op_field lAtom_0 rfl rfl fl48_0 (vt rfl)) rfl ?_
      refine AOps.cons (op_store rfl rfl ty44 (vt rfl) (i := 8) rfl (vt rfl)) rfl ?_
      refine AOps.nil ?_
      obtain ⟨l16, hl16, h⟩ := bsome h
      refine AW.region ?_
      refine AOps.cons (op_move (A := raw v7) rfl rfl (vt rfl)) rfl ?_
      refine AOps.cons (op_load rfl rfl ty48 (vt rfl) (i := 8) rfl) rfl ?_
      refine AOps.cons (op_buildSliceR (ps := [(0, .tmp 29)]) (l := [{ x10 with Rewrite := x15 }]) rfl rfl sl40 zr48 rfl rfl ⟨_, _, Lens.idx 1 kAtom 0 (by decide), _, rfl, (vt rfl), rfl⟩ rfl) rfl ?_
      refine AOps.consT rfl (op_append' 1001 hl16 rfl rfl el40 (vt rfl) rfl (vt rfl)) ?_
      rintro _ ⟨v17, rfl⟩
      refine AOps.cons (op_assign (A := raw v17) rfl rfl (vt rfl)) rfl ?_
      refine AOps.nil ?_
      refine AW.region ?_
      refine AOps.cons (op_incr (t := 9) rfl rfl (vt rfl) (vk rfl) (vt rfl) hlti8) rfl ?_
      refine AOps.cons (op_move (A := rd (kint .i64) ((i8 + 1 : Nat) : Int)) rfl rfl (vt rfl)) rfl ?_
      refine AOps.nil ?_
      subst hgo1
      exact ⟨(l9, i8 + 1, l16, v17), Nat.lt_succ_self _, ⟨hsf1.next, h⟩, ⟨rfl, ⟨rfl, rfl, rfl, rfl, rfl, trivial⟩, ⟨rfl, rfl, trivial⟩⟩⟩
-- (weirbox/norm.world).group
def F38s_l1 (x6 : (Group × Bool)) (r3 : (Vector Tern 24)) (R35 : (norm_world → (List Atom) → Option (List Atom))) (w1 : norm_world) : (List Int) → Nat → (List Atom) → Option (List Atom)
  | [], i13, l11 => some l11
  | x15 :: l14, i13, l11 => (lget x6.1.Buckets x15).bind fun e16 => (F56 [] e16.Acts).bind fun x17 => (F55 x17).bind fun x18 => (F43 x18 r3).bind fun x19 => (R35 { w1 with depth := (IntKind.i64.wrap (w1.depth + 1)) } x19.1).bind fun x21 => (appd l11 x21).bind fun l22 => (F38s_l1 x6 r3 R35 w1 l14) (i13 + 1) l22
def F38s (R35 : (norm_world → (List Atom) → Option (List Atom))) (R38 : (norm_world → Int → (Vector Tern 24) → Option (List Atom))) (w1 : norm_world) (id2 : Int) (r3 : (Vector Tern 24)) : Option (List Atom) :=
  (F53 w1.groups id2).bind fun x6 => (bif ((!x6.2) || (decide (w1.depth ≥ 8))) then some [] else (F54 ({ w1 with depth := (IntKind.i64.wrap (w1.depth + 1)) }.Env) x6.1).bind fun x8 => F38s_l1 x6 r3 R35 w1 x8 0 [])
theorem c38s (R35 : (norm_world → (List Atom) → Option (List Atom))) (hR35 : ∀ (w1 : norm_world) (a2 : (List Atom)) (r : (List Atom)), R35 w1 a2 = some r → PCon Tryz.prog 35 [rd knorm_world w1, rd (ksl kAtom) a2] (rd (ksl kAtom) r)) (R38 : (norm_world → Int → (Vector Tern 24) → Option (List Atom))) (hR38 : ∀ (w1 : norm_world) (id2 : Int) (r3 : (Vector Tern 24)) (r : (List Atom)), R38 w1 id2 r3 = some r → PCon Tryz.prog 38 [rd knorm_world w1, rd (kint .i64) id2, rd (karr 24 kTern) r3] (rd (ksl kAtom) r)) (w1 : norm_world) (id2 : Int) (r3 : (Vector Tern 24)) (r : (List Atom)) (h : F38s R35 R38 w1 id2 r3 = some r) : PCon Tryz.prog 38 [rd knorm_world w1, rd (kint .i64) id2, rd (karr 24 kTern) r3] (rd (ksl kAtom) r) := by
  refine PCon.of (Con.intro0 Tryz.func38 rfl Tryz.ntmps38 rfl fun w H => ?_)
  unfold F38s at h
  refine AW.seq ?_
  refine AW.region ?_
  refine AOps.consT rfl (op_box 4 rfl rfl (vt rfl)) ?_
  rintro _ ⟨g4, rfl⟩
  refine AOps.consT rfl (op_box 6 rfl rfl (vt rfl)) ?_
  rintro _ ⟨g5, rfl⟩
  refine AOps.cons (op_assign (A := rd (ksl kAtom) []) rfl rfl vnil) rfl ?_
  refine AOps.nil ?_
  refine AW.seq ?_
  obtain ⟨x6, hx6, h⟩ := bsome h
  refine AW.region ?_
  refine AOps.cons (op_field lnorm_world_1 rfl rfl fl79_1 (vt rfl)) rfl ?_
  refine AOps.cons (op_load rfl rfl ty22 (vt rfl) (i := 4) rfl) rfl ?_
  refine AOps.cons (op_move (A := rd (kint .i64) id2) rfl rfl (vt rfl)) rfl ?_
  refine AOps.cons (op_call (xs := [.tmp 16, .tmp 17]) (c53 _ _ _ hx6) (Ent.mk Tryz.func53 rfl rfl) rfl rfl ⟨vt rfl, vt rfl, trivial⟩) rfl ?_
  refine AOps.cons (op_move (A := tup2 (rd kGroup x6.1) (rd kbool x6.2)) rfl rfl (vt rfl)) rfl ?_
  refine AOps.cons (op_fst rfl rfl (vt rfl)) rfl ?_
  refine AOps.cons (op_snd rfl rfl (vt rfl)) rfl ?_
  refine AOps.consT rfl (op_alloc 8 rfl rfl zr67) ?_
  rintro _ ⟨g7, rfl⟩
  refine AOps.cons (op_store rfl rfl ty67 (vt rfl) (i := 8) rfl (vt rfl)) rfl ?_
  refine AOps.cons (op_assign (A := rd kbool x6.2) rfl rfl (vt rfl)) rfl ?_
  refine AOps.nil ?_
  refine AW.seq ?_
  refine AW.seq ?_
  refine AW.region ?_
  refine AOps.cons (op_move (A := rd kbool x6.2) rfl rfl (vt rfl)) rfl ?_
  refine AOps.cons (op_not rfl rfl (vt rfl)) rfl ?_
  refine AOps.cons (op_move (A := rd kbool (!x6.2)) rfl rfl (vt rfl)) rfl ?_
  refine AOps.consG (OpG.guard rfl rfl rfl rfl rfl fun hq => op_field lnorm_world_2 rfl rfl fl79_2 (vt rfl)) ?_
  refine AOps.consG (OpG.guard rfl rfl rfl rfl rfl fun hq => op_load rfl rfl ty3 (vgt rfl hq) (i := 4) rfl) ?_
  refine AOps.consG (OpG.guard rfl rfl rfl rfl rfl fun hq => op_geq rfl rfl (vgt rfl hq) (vk rfl)) ?_
  refine AOps.cons (op_any rfl rfl (vt rfl) (vt rfl)) rfl ?_
  refine AOps.nil ?_
  refine AW.cond (vt rfl) (fun hc => ?_) (fun hc => ?_)
  · have h := cond_t hc h
    refine AW.seq ?_
    refine AW.region ?_
    refine AOps.cons (op_assign (A := rd (ksl kAtom) []) rfl rfl vnil) rfl ?_
    refine AOps.nil ?_
    refine AW.ret ?_
    obtain rfl := Option.some.inj h
    exact ret1 Tryz.results38 rfl (out_tmp rfl)
  · have h := cond_f hc h
    refine AW.skip ?_
    refine AW.seq ?_
    refine AW.region ?_
    refine AOps.cons (op_field lnorm_world_2 rfl rfl fl79_2 (vt rfl)) rfl ?_
    refine AOps.cons (op_load rfl rfl ty3 (vt rfl) (i := 4) rfl) rfl ?_
    refine AOps.cons (op_add rfl rfl (vt rfl) (vk rfl)) rfl ?_
    refine AOps.cons (op_field lnorm_world_2 rfl rfl fl79_2 (vt rfl)) rfl ?_
    refine AOps.cons (op_store rfl rfl ty3 (vt rfl) (i := 4) rfl (vt rfl)) rfl ?_
    refine AOps.nil ?_
    refine AW.seq ?_
    refine AW.newnil 1001 48 kAtom ?_
    refine AW.region ?_
    refine AOps.cons (op_assign rfl rfl vc) rfl ?_
    refine AOps.nil ?_
    refine AW.seq ?_
    refine AW.seq ?_
    obtain ⟨x8, hx8, h⟩ := bsome h
    refine AW.region ?_
    refine AOps.cons (op_field lnorm_world_0 rfl rfl fl79_0 (vt rfl)) rfl ?_
    refine AOps.cons (op_load rfl rfl ty25 (vt rfl) (i := 4) rfl) rfl ?_
    refine AOps.cons (op_load rfl rfl ty67 (vt rfl) (i := 8) rfl) rfl ?_
    refine AOps.cons (op_call (xs := [.tmp 33, .tmp 34]) (c54 _ _ _ hx8) (Ent.mk Tryz.func54 rfl rfl) rfl rfl ⟨vt rfl, vt rfl, trivial⟩) rfl ?_
    refine AOps.cons (op_len' rfl rfl sl23 (vt rfl)) rfl ?_
    refine AOps.cons (op_move (A := rd (kint .i64) 0) rfl rfl (vk rfl)) rfl ?_
    refine AOps.nil ?_
    refine AW.block ?_
    refine AW.loopG (d := []) (ν := (List Int) × Nat × (List Atom) × Value) (fun n => Sfx x8 n.2.1 n.1 ∧ F38s_l1 x6 r3 R35 w1 n.1 n.2.1 n.2.2.1 = some r) (fun n => n.1.length) (fun n => [(3, ptrL g4 (Lens.id knorm_world)), (5, ptrL g5 (Lens.id (karr 24 kTern))), (7, ptrL g7 (Lens.id kGroup)), (9, raw n.2.2.2), (35, rd (ksl (kint .i64)) x8), (36, rd (kint .i64) (x8.length : Int)), (37, rd (kint .i64) (n.2.1 : Int))]) (fun n => [(4, Blk g4 79 knorm_world { w1 with depth := (IntKind.i64.wrap (w1.depth + 1)) }), (6, Blk g5 44 (karr 24 kTern) r3), (8, Blk g7 67 kGroup x6.1), (1001, Row n.2.2.2 48 kAtom n.2.2.1)]) (x8, 0, [], (.slice none 0 0)) ⟨Sfx.start _, h⟩ ⟨rfl, ⟨rfl, rfl, rfl, rfl, rfl, rfl, rfl, trivial⟩, ⟨rfl, rfl, rfl, rfl, trivial⟩⟩ ?_
    rintro ⟨l14, i13, l11, v12⟩ ⟨hsf1, h⟩
    change Sfx x8 i13 l14 at hsf1
    change F38s_l1 x6 r3 R35 w1 l14 i13 l11 = some r at h
    change AW _ _ _ ⟨slots [(3, ptrL g4 (Lens.id knorm_world)), (5, ptrL g5 (Lens.id (karr 24 kTern))), (7, ptrL g7 (Lens.id kGroup)), (9, raw v12), (35, rd (ksl (kint .i64)) x8), (36, rd (kint .i64) (x8.length : Int)), (37, rd (kint .i64) (i13 : Int))], ress [(4, Blk g4 79 knorm_world { w1 with depth := (IntKind.i64.wrap (w1.depth + 1)) }), (6, Blk g5 44 (karr 24 kTern) r3), (8, Blk g7 67 kGroup x6.1), (1001, Row v12 48 kAtom l11)], _⟩
    cases l14 with
    | nil =>
      unfold F38s_l1 at h
      refine AW.seq ?_
      refine AW.region ?_
      refine AOps.cons (op_lss rfl rfl (vt rfl) (vt rfl)) rfl ?_
      refine AOps.nil ?_
      refine AW.seq ?_
      refine AW.cond (vt rfl) (fun hc => absurd (of_decide_eq_true hc) hsf1.nil) (fun hc => ?_)
      refine AW.exit ?_
      refine AW.seq ?_
      refine AW.region ?_
      refine AOps.cons (op_move (A := raw v12) rfl rfl (vt rfl)) rfl ?_
      refine AOps.cons (op_assign (A := raw v12) rfl rfl (vt rfl)) rfl ?_
      refine AOps.nil ?_
      refine AW.freezes [6, 9, 60] 1001 rfl ⟨rfl, rfl, rfl, trivial⟩ rfl ?_
      refine AW.ret ?_
      obtain rfl := Option.some.inj h
      exact ret1 Tryz.results38 rfl (out_tmp rfl)
    | cons x15 l14 =>
      unfold F38s_l1 at h
      generalize hgo1 : F38s_l1 x6 r3 R35 w1 l14 = go1 at h
      refine AW.seq ?_
      refine AW.region ?_
      refine AOps.cons (op_lss rfl rfl (vt rfl) (vt rfl)) rfl ?_
      refine AOps.nil ?_
      refine AW.seq ?_
      refine AW.cond (vt rfl) (fun hc => ?_) (fun hc => absurd hsf1.cons (of_decide_eq_false hc))
      have hlti13 := of_decide_eq_true hc
      refine AW.skip ?_
      refine AW.seq ?_
      refine AW.block ?_
      refine AW.seq ?_
      refine AW.region ?_
      refine AOps.cons (op_indexs' rfl rfl sl23 (vt rfl) (vt rfl) hsf1.lget) rfl ?_
      refine AOps.cons (op_loadp rfl rfl ty3 (vt rfl)) rfl ?_
      refine AOps.cons (op_assign (A := rd (kint .i64) x15) rfl rfl (vt rfl)) rfl ?_
      refine AOps.nil ?_
      refine AW.seq ?_
      obtain ⟨e16, he16, h⟩ := bsome h
      obtain ⟨x17, hx17, h⟩ := bsome h
      obtain ⟨x18, hx18, h⟩ := bsome h
      obtain ⟨x19, hx19, h⟩ := bsome h
      refine AW.regionAny [⟨[7], [42], [], []⟩, ⟨[42], [43], [8], []⟩, ⟨[11], [44], [], []⟩, ⟨[43, 44], [45], [], []⟩, ⟨[45], [46], [], []⟩, ⟨[46], [47], [], []⟩, ⟨[47], [48], [], []⟩, ⟨[48], [49], [], []⟩, ⟨[5], [50], [6], []⟩, ⟨[49, 50], [51], [], []⟩, ⟨[51], [41], [], []⟩, ⟨[41], [52], [], []⟩, ⟨[41], [53], [], []⟩, ⟨[], [13], [], []⟩, ⟨[52], [12], [], []⟩, ⟨[13, 53], [13], [], []⟩] mixed (by kernel_rfl) ?_
      refine SeqA.cons (loc [7] [] rfl rfl fun S hs hr => op_field lGroup_2 rfl rfl fl67_2 (vt ((hs 7 rfl).trans rfl))) ⟨rfl, rfl, rfl, rfl⟩ ?_
      refine SeqA.cons (loc [42] [8] rfl rfl fun S hs hr => op_load rfl rfl ty65 (vt ((hs 42 rfl).trans rfl)) (i := 8) ((hr 8 rfl).trans rfl)) ⟨rfl, rfl, rfl, rfl⟩ ?_
      refine SeqA.cons (loc [11] [] rfl rfl fun S hs hr => op_move (A := rd (kint .i64) x15) rfl rfl (vt ((hs 11 rfl).trans rfl))) ⟨rfl, rfl, rfl, rfl⟩ ?_
      refine SeqA.cons (loc [43, 44] [] rfl rfl fun S hs hr => op_indexs' rfl rfl sl65 (vt ((hs 43 rfl).trans rfl)) (vt ((hs 44 rfl).trans rfl)) he16) ⟨rfl, rfl, rfl, rfl⟩ ?_
      refine SeqA.cons (loc [45] [] rfl rfl fun S hs hr => op_fieldp lBucket_3 rfl rfl fl64_3 (vt ((hs 45 rfl).trans rfl))) ⟨rfl, rfl, rfl, rfl⟩ ?_
      refine SeqA.cons (loc [46] [] rfl rfl fun S hs hr => op_loadp rfl rfl ty26 (vt ((hs 46 rfl).trans rfl))) ⟨rfl, rfl, rfl, rfl⟩ ?_
      refine SeqA.cons (loc [47] [] rfl rfl fun S hs hr => op_call (xs := [.const (Value.slice none 0 0), .tmp 47]) (c56 _ _ _ hx17) (Ent.mk Tryz.func56 rfl rfl) rfl rfl ⟨vnil, vt ((hs 47 rfl).trans rfl), trivial⟩) ⟨rfl, rfl, rfl, rfl⟩ ?_
      refine SeqA.cons (loc [48] [] rfl rfl fun S hs hr => op_call (xs := [.tmp 48]) (c55 _ _ hx18) (Ent.mk Tryz.func55 rfl rfl) rfl rfl ⟨vt ((hs 48 rfl).trans rfl), trivial⟩) ⟨rfl, rfl, rfl, rfl⟩ ?_
      refine SeqA.cons (loc [5] [6] rfl rfl fun S hs hr => op_load rfl rfl ty44 (vt ((hs 5 rfl).trans rfl)) (i := 6) ((hr 6 rfl).trans rfl)) ⟨rfl, rfl, rfl, rfl⟩ ?_
      refine SeqA.cons (loc [49, 50] [] rfl rfl fun S hs hr => op_call (xs := [.tmp 49, .tmp 50]) (c43 _ _ _ hx19) (Ent.mk Tryz.func43 rfl rfl) rfl rfl ⟨vt ((hs 49 rfl).trans rfl), vt ((hs 50 rfl).trans rfl), trivial⟩) ⟨rfl, rfl, rfl, rfl⟩ ?_
      refine SeqA.cons (loc [51] [] rfl rfl fun S hs hr => op_move (A := tup2 (rd (ksl kAtom) x19.1) (rd (karr 24 kTern) x19.2)) rfl rfl (vt ((hs 51 rfl).trans rfl))) ⟨rfl, rfl, rfl, rfl⟩ ?_
      refine SeqA.cons (loc [41] [] rfl rfl fun S hs hr => op_fst rfl rfl (vt ((hs 41 rfl).trans rfl))) ⟨rfl, rfl, rfl, rfl⟩ ?_
      refine SeqA.cons (loc [41] [] rfl rfl fun S hs hr => op_snd rfl rfl (vt ((hs 41 rfl).trans rfl))) ⟨rfl, rfl, rfl, rfl⟩ ?_
      refine SeqA.cons (locs (us := [(13, ownP 44 (karr 24 kTern) (Vector.replicate 24 zTern))]) (ur := []) [] [] rfl fun S hs hr => op_allocO rfl rfl rfl zr44) ⟨rfl, rfl, rfl, rfl⟩ ?_
      refine SeqA.cons (loc [52] [] rfl rfl fun S hs hr => op_assign (A := rd (ksl kAtom) x19.1) rfl rfl (vt ((hs 52 rfl).trans rfl))) ⟨rfl, rfl, rfl, rfl⟩ ?_
      refine SeqA.cons (locs (us := [(13, ownP 44 (karr 24 kTern) x19.2)]) (ur := []) [13, 53] [] rfl fun S hs hr => op_storeO rfl rfl ty44 ((hs 13 rfl).trans rfl) (vt ((hs 53 rfl).trans rfl))) ⟨rfl, rfl, rfl, rfl⟩ ?_
      refine AW.unpackP 13 14 rfl rfl fun g20 => ?_
      obtain ⟨x21, hx21, h⟩ := bsome h
      obtain ⟨l22, hl22, h⟩ := bsome h
      refine AW.region ?_
      refine AOps.cons (op_move (A := raw v12) rfl rfl (vt rfl)) rfl ?_
      refine AOps.cons (op_load rfl rfl ty79 (vt rfl) (i := 4) rfl) rfl ?_
      refine AOps.cons (op_move (A := rd (ksl kAtom) x19.1) rfl rfl (vt rfl)) rfl ?_
      refine AOps.cons (op_call (xs := [.tmp 55, .tmp 56]) (hR35 _ _ _ hx21) (Ent.mk Tryz.func35 rfl rfl) rfl rfl ⟨vt rfl, vt rfl, trivial⟩) rfl ?_
      refine AOps.consT rfl (op_append' 1001 hl22 rfl rfl el40 (vt rfl) rfl (vt rfl)) ?_
      rintro _ ⟨v23, rfl⟩
      refine AOps.cons (op_assign (A := raw v23) rfl rfl (vt rfl)) rfl ?_
      refine AOps.nil ?_
      refine AW.region ?_
      refine AOps.cons (op_incr (t := 36) rfl rfl (vt rfl) (vk rfl) (vt rfl) hlti13) rfl ?_
      refine AOps.cons (op_move (A := rd (kint .i64) ((i13 + 1 : Nat) : Int)) rfl rfl (vt rfl)) rfl ?_
      refine AOps.nil ?_
      subst hgo1
      exact ⟨(l14, i13 + 1, l22, v23), Nat.lt_succ_self _, ⟨hsf1.next, h⟩, ⟨rfl, ⟨rfl, rfl, rfl, rfl, rfl, rfl, rfl, trivial⟩, ⟨rfl, rfl, rfl, rfl, trivial⟩⟩⟩
def FR35_38 : Nat → (norm_world → (List Atom) → Option (List Atom)) × (norm_world → Int → (Vector Tern 24) → Option (List Atom))
  | 0 => ((fun _ _ => none), (fun _ _ _ => none))
  | n + 1 => ((F35s (FR35_38 n).1 (FR35_38 n).2), (F38s (FR35_38 n).1 (FR35_38 n).2))
theorem cR35_38 : ∀ n : Nat, (∀ (w1 : norm_world) (a2 : (List Atom)) (r : (List Atom)), (FR35_38 n).1 w1 a2 = some r → PCon Tryz.prog 35 [rd knorm_world w1, rd (ksl kAtom) a2] (rd (ksl kAtom) r)) ∧ (∀ (w1 : norm_world) (id2 : Int) (r3 : (Vector Tern 24)) (r : (List Atom)), (FR35_38 n).2 w1 id2 r3 = some r → PCon Tryz.prog 38 [rd knorm_world w1, rd (kint .i64) id2, rd (karr 24 kTern) r3] (rd (ksl kAtom) r))
  | 0 => ⟨(by intros; rename_i h; cases h), (by intros; rename_i h; cases h)⟩
  | n + 1 => by
    have ih := cR35_38 n
    exact ⟨(c35s (FR35_38 n).1 ih.1 (FR35_38 n).2 ih.2), (c38s (FR35_38 n).1 ih.1 (FR35_38 n).2 ih.2)⟩
def F35 (w1 : norm_world) (a2 : (List Atom)) : Option (List Atom) := (FR35_38 fuel0).1 w1 a2
theorem c35 : ∀ (w1 : norm_world) (a2 : (List Atom)) (r : (List Atom)), F35 w1 a2 = some r → PCon Tryz.prog 35 [rd knorm_world w1, rd (ksl kAtom) a2] (rd (ksl kAtom) r) := (cR35_38 fuel0).1
def F38 (w1 : norm_world) (id2 : Int) (r3 : (Vector Tern 24)) : Option (List Atom) := (FR35_38 fuel0).2 w1 id2 r3
theorem c38 : ∀ (w1 : norm_world) (id2 : Int) (r3 : (Vector Tern 24)) (r : (List Atom)), F38 w1 id2 r3 = some r → PCon Tryz.prog 38 [rd knorm_world w1, rd (kint .i64) id2, rd (karr 24 kTern) r3] (rd (ksl kAtom) r) := (cR35_38 fuel0).2
-- weirbox/norm.List
def F17 (l1 : (List Group)) (e2 : Env) (a3 : (List Atom)) : Option (List Atom) :=
  (F35 (⟨e2, l1, 0⟩ : norm_world) a3).bind fun x5 => some x5
theorem c17 (l1 : (List Group)) (e2 : Env) (a3 : (List Atom)) (r : (List Atom)) (h : F17 l1 e2 a3 = some r) : PCon Tryz.prog 17 [rd (ksl kGroup) l1, rd kEnv e2, rd (ksl kAtom) a3] (rd (ksl kAtom) r) := by
  refine PCon.of (Con.intro0 Tryz.func17 rfl Tryz.ntmps17 rfl fun w H => ?_)
  unfold F17 at h
  refine AW.seq ?_
  refine AW.region ?_
  refine AOps.consT rfl (op_box 5 rfl rfl (vt rfl)) ?_
  rintro _ ⟨g4, rfl⟩
  refine AOps.cons (op_assign (A := rd (ksl kAtom) []) rfl rfl vnil) rfl ?_
  refine AOps.nil ?_
  refine AW.seq ?_
  obtain ⟨x5, hx5, h⟩ := bsome h
  refine AW.region ?_
  refine AOps.cons (op_load rfl rfl ty25 (vt rfl) (i := 5) rfl) rfl ?_
  refine AOps.cons (op_move (A := rd (ksl kGroup) l1) rfl rfl (vt rfl)) rfl ?_
  refine AOps.cons (op_build (ps := [(0, .tmp 7), (1, .tmp 8)]) (x := (⟨e2, l1, 0⟩ : norm_world)) rfl rfl rfl (by kernel_rfl) zr79 ⟨_, _, lnorm_world_0, _, by kernel_rfl, (vt rfl), _, _, lnorm_world_1, _, by kernel_rfl, (vt rfl), rfl⟩) rfl ?_
  refine AOps.cons (op_move (A := rd (ksl kAtom) a3) rfl rfl (vt rfl)) rfl ?_
  refine AOps.cons (op_call (xs := [.tmp 9, .tmp 10]) (c35 _ _ _ hx5) (Ent.mk Tryz.func35 rfl rfl) rfl rfl ⟨vt rfl, vt rfl, trivial⟩) rfl ?_
  refine AOps.cons (op_assign (A := rd (ksl kAtom) x5) rfl rfl (vt rfl)) rfl ?_
  refine AOps.nil ?_
  refine AW.ret ?_
  obtain rfl := Option.some.inj h
  exact ret1 Tryz.results17 rfl (out_tmp rfl)
-- weirbox/norm.Group
def F20 (l1 : (List Group)) (e2 : Env) (id3 : Int) (r4 : (Vector Tern 24)) : Option (List Atom) :=
  (F38 (⟨e2, l1, 0⟩ : norm_world) id3 r4).bind fun x7 => some x7
theorem c20 (l1 : (List Group)) (e2 : Env) (id3 : Int) (r4 : (Vector Tern 24)) (r : (List Atom)) (h : F20 l1 e2 id3 r4 = some r) : PCon Tryz.prog 20 [rd (ksl kGroup) l1, rd kEnv e2, rd (kint .i64) id3, rd (karr 24 kTern) r4] (rd (ksl kAtom) r) := by
  refine PCon.of (Con.intro0 Tryz.func20 rfl Tryz.ntmps20 rfl fun w H => ?_)
  unfold F20 at h
  refine AW.seq ?_
  refine AW.region ?_
  refine AOps.consT rfl (op_box 6 rfl rfl (vt rfl)) ?_
  rintro _ ⟨g5, rfl⟩
  refine AOps.consT rfl (op_box 8 rfl rfl (vt rfl)) ?_
  rintro _ ⟨g6, rfl⟩
  refine AOps.cons (op_assign (A := rd (ksl kAtom) []) rfl rfl vnil) rfl ?_
  refine AOps.nil ?_
  refine AW.seq ?_
  obtain ⟨x7, hx7, h⟩ := bsome h
  refine AW.region ?_
  refine AOps.cons (op_load rfl rfl ty25 (vt rfl) (i := 6) rfl) rfl ?_
  refine AOps.cons (op_move (A := rd (ksl kGroup) l1) rfl rfl (vt rfl)) rfl ?_
  refine AOps.cons (op_build (ps := [(0, .tmp 9), (1, .tmp 10)]) (x := (⟨e2, l1, 0⟩ : norm_world)) rfl rfl rfl (by kernel_rfl) zr79 ⟨_, _, lnorm_world_0, _, by kernel_rfl, (vt rfl), _, _, lnorm_world_1, _, by kernel_rfl, (vt rfl), rfl⟩) rfl ?_
  refine AOps.cons (op_move (A := rd (kint .i64) id3) rfl rfl (vt rfl)) rfl ?_
  refine AOps.cons (op_load rfl rfl ty44 (vt rfl) (i := 8) rfl) rfl ?_
  refine AOps.cons (op_call (xs := [.tmp 11, .tmp 12, .tmp 13]) (c38 _ _ _ _ hx7) (Ent.mk Tryz.func38 rfl rfl) rfl rfl ⟨vt rfl, vt rfl, vt rfl, trivial⟩) rfl ?_
  refine AOps.cons (op_assign (A := rd (ksl kAtom) x7) rfl rfl (vt rfl)) rfl ?_
  refine AOps.nil ?_
  refine AW.ret ?_
  obtain rfl := Option.some.inj h
  exact ret1 Tryz.results20 rfl (out_tmp rfl)
end Go.Proofs.YtokmmcflinnfiaaGreat.W
