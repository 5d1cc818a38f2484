/- GeF9: a part of the proof. -/
import Derived.Test.YtokmmcflinnfiaaGeF8
set_option linter.unusedVariables false
set_option maxRecDepth 4000
set_option linter.unusedSimpArgs false
namespace Go.Proofs.Ytokmmcflinnfiaa.W
open Go Go.Wb
-- weirbox/rewrite.Then
def F148 (a1 : (Vector Tern 24)) (b2 : (Vector Tern 24)) : Option (Vector Tern 24) :=
  (F146 (fun x => F158 x a1 b2)).bind fun x6 => some x6
theorem c148 (a1 : (Vector Tern 24)) (b2 : (Vector Tern 24)) (r : (Vector Tern 24)) (h : F148 a1 b2 = some r) : PCon Try.prog 148 [rd (karr 24 kTern) a1, rd (karr 24 kTern) b2] (rd (karr 24 kTern) r) := by
  refine PCon.of (Con.intro0 Try.func148 rfl Try.ntmps148 rfl fun w H => ?_)
  unfold F148 at h
  refine AW.seq ?_
  refine AW.region ?_
  refine AOps.consT rfl (op_box 3 rfl rfl (vt rfl)) ?_
  rintro _ ⟨g3, rfl⟩
  refine AOps.consT rfl (op_box 4 rfl rfl (vt rfl)) ?_
  rintro _ ⟨g4, rfl⟩
  refine AOps.consT rfl (op_alloc 5 rfl rfl zr95) ?_
  rintro _ ⟨g5, rfl⟩
  refine AOps.nil ?_
  refine AW.seq ?_
  refine AW.freezeB 2 3 rfl rfl rfl ?_
  refine AW.freezeB 3 4 rfl rfl rfl ?_
  obtain ⟨x6, hx6, h⟩ := bsome h
  refine AW.region ?_
  refine AOps.cons (op_fn1 (cs := [.tmp 2, .tmp 3]) (CAs := [rp (karr 24 kTern) a1, rp (karr 24 kTern) b2]) (fun x => F158 x a1 b2) rfl rfl (Ent.mk Try.func158 rfl rfl) ⟨vt rfl, vt rfl, trivial⟩ (fun x y h => c158 _ _ _ y h)) rfl ?_
  refine AOps.cons (op_call (xs := [.tmp 5]) (c146 _ _ hx6) (Ent.mk Try.func146 rfl rfl) rfl rfl ⟨vt rfl, trivial⟩) rfl ?_
  refine AOps.cons (op_store rfl rfl ty95 (vt rfl) (i := 5) rfl (vt rfl)) rfl ?_
  refine AOps.nil ?_
  refine AW.ret ?_
  obtain rfl := Option.some.inj h
  exact ret1 Try.results148 rfl (out_cell rfl (i := 5) rfl ty95)
-- (*weirbox/atom.trace).do
def F108_j1 (t1 : atom_trace) (b7 : Atom) : Option atom_trace :=
  (appd t1.atoms [b7]).bind fun l8 => some (⟨t1.got, l8⟩ : atom_trace)
def F108 (t1 : atom_trace) (a4 : Action) : Option atom_trace :=
  (bif (decide (a4.Kind = 0)) then (bif (decide (a4.Port = 4294967293)) then F108_j1 t1 { { (⟨t1.got, false, 0, 0⟩ : Atom) with Port := a4.Port } with Max := a4.Max } else F108_j1 t1 { (⟨t1.got, false, 0, 0⟩ : Atom) with Port := a4.Port }) else (bif (decide (a4.Kind = 22)) then F108_j1 t1 { { (⟨t1.got, false, 0, 0⟩ : Atom) with Group := true } with Port := a4.Group } else (F142 a4).bind fun x10 => (F148 t1.got x10).bind fun x11 => some (⟨x11, t1.atoms⟩ : atom_trace)))
theorem c108 (g2 : Nat) (t1 : atom_trace) (a4 : Action) (r : atom_trace) (h : F108 t1 a4 = some r) : Con Try.prog 108 [ptrL g2 (Lens.id katom_trace_o1), rd kAction a4] (BoxF g2 154 katom_trace_o1 (fun v => (⟨t1.got, v⟩ : atom_trace_o1)) 97 kAtom t1.atoms) (fun _ : Unit => top) (fun _ => BoxF g2 154 katom_trace_o1 (fun v => (⟨r.got, v⟩ : atom_trace_o1)) 97 kAtom r.atoms) := by
  refine Con.intro Try.func108 rfl Try.ntmps108 rfl fun w H X => ?_
  unfold F108 at h
  refine AW.unboxF 0 2001 (by decide) rfl rfl fun v3 => ?_
  refine AW.seq ?_
  refine AW.region ?_
  refine AOps.consT rfl (op_box 4 rfl rfl (vt rfl)) ?_
  rintro _ ⟨g5, rfl⟩
  refine AOps.nil ?_
  refine AW.seq ?_
  refine AW.region ?_
  refine AOps.cons (op_move (A := ptrL g2 (Lens.id katom_trace_o1)) rfl rfl (vt rfl)) rfl ?_
  refine AOps.cons (op_nilCheck rfl rfl (vt rfl)) rfl ?_
  refine AOps.cons (op_field latom_trace_o1_0 rfl rfl flv154_0_1 (vt rfl)) rfl ?_
  refine AOps.cons (op_load rfl rfl ty95 (vt rfl) (i := 0) rfl) rfl ?_
  refine AOps.cons (op_build (ps := [(0, .tmp 8)]) (x := (⟨t1.got, false, 0, 0⟩ : Atom)) rfl rfl rfl (by kernel_rfl) zr97 ⟨_, _, lAtom_0, _, by kernel_rfl, (vt rfl), rfl⟩) rfl ?_
  refine AOps.consT rfl (op_alloc 5 rfl rfl zr97) ?_
  rintro _ ⟨g6, rfl⟩
  refine AOps.cons (op_store rfl rfl ty97 (vt rfl) (i := 5) rfl (vt rfl)) rfl ?_
  refine AOps.nil ?_
  refine AW.join (d := []) (ν := Atom) (fun n => F108_j1 t1 n = some r) (fun n => [(0, ptrL g2 (Lens.id katom_trace_o1)), (4, ptrL g6 (Lens.id kAtom))]) (fun n => [(0, Blk g2 154 katom_trace_o1 (⟨t1.got, v3⟩ : atom_trace_o1)), (5, Blk g6 97 kAtom n), (2001, Row v3 97 kAtom t1.atoms)]) ?hx ?hy
  case hy =>
    intro b7 h
    unfold F108_j1 at h
    change AW _ _ _ ⟨slots [(0, ptrL g2 (Lens.id katom_trace_o1)), (4, ptrL g6 (Lens.id kAtom))], ress [(0, Blk g2 154 katom_trace_o1 (⟨t1.got, v3⟩ : atom_trace_o1)), (5, Blk g6 97 kAtom b7), (2001, Row v3 97 kAtom t1.atoms)], _⟩
    obtain ⟨l8, hl8, h⟩ := bsome h
    refine AW.endT ?_
    refine AW.regionAny [⟨[0], [39], [], []⟩, ⟨[0], [40], [], []⟩, ⟨[40], [41], [], []⟩, ⟨[41], [42], [], []⟩, ⟨[42], [43], [0], []⟩, ⟨[4], [44], [5], []⟩, ⟨[44], [45], [], []⟩, ⟨[43, 45], [46], [2001], [2001]⟩, ⟨[39], [47], [], []⟩, ⟨[47], [48], [], []⟩, ⟨[48, 46], [46], [0], [0]⟩] mixed (by kernel_rfl) ?_
    refine SeqA.cons (loc [0] [] rfl rfl fun S hs hr => op_move (A := ptrL g2 (Lens.id katom_trace_o1)) rfl rfl (vt ((hs 0 rfl).trans rfl))) ⟨rfl, rfl, rfl, rfl⟩ ?_
    refine SeqA.cons (loc [0] [] rfl rfl fun S hs hr => op_move (A := ptrL g2 (Lens.id katom_trace_o1)) rfl rfl (vt ((hs 0 rfl).trans rfl))) ⟨rfl, rfl, rfl, rfl⟩ ?_
    refine SeqA.cons (loc [40] [] rfl rfl fun S hs hr => op_nilCheck rfl rfl (vt ((hs 40 rfl).trans rfl))) ⟨rfl, rfl, rfl, rfl⟩ ?_
    refine SeqA.cons (loc [41] [] rfl rfl fun S hs hr => op_field latom_trace_o1_1 rfl rfl flv154_1_1 (vt ((hs 41 rfl).trans rfl))) ⟨rfl, rfl, rfl, rfl⟩ ?_
    refine SeqA.cons (loc [42] [0] rfl rfl fun S hs hr => op_loadv v3 rfl rfl tyr57 (vt ((hs 42 rfl).trans rfl)) (i := 0) ((hr 0 rfl).trans rfl) rfl) ⟨rfl, rfl, rfl, rfl⟩ ?_
    refine SeqA.cons (loc [4] [5] rfl rfl fun S hs hr => op_load rfl rfl ty97 (vt ((hs 4 rfl).trans rfl)) (i := 5) ((hr 5 rfl).trans rfl)) ⟨rfl, rfl, rfl, rfl⟩ ?_
    refine SeqA.cons (loc [44] [] rfl rfl fun S hs hr => op_buildSliceR (ps := [(0, .tmp 44)]) (l := [b7]) rfl rfl sl57 zr97 rfl rfl ⟨_, _, Lens.idx 1 kAtom 0 (by decide), _, rfl, (vt ((hs 44 rfl).trans rfl)), rfl⟩ rfl) ⟨rfl, rfl, rfl, rfl⟩ ?_
    refine SeqA.cons (locs (us := [(46, ownR 97 kAtom l8)]) (ur := [(2001, emp)]) [43, 45] [2001] rfl fun S hs hr => op_appendO 2001 hl8 rfl rfl rfl el57 (vt ((hs 43 rfl).trans rfl)) ((hr 2001 rfl).trans rfl) (vt ((hs 45 rfl).trans rfl))) ⟨rfl, rfl, rfl, rfl⟩ ?_
    refine SeqA.cons (loc [39] [] rfl rfl fun S hs hr => op_nilCheck rfl rfl (vt ((hs 39 rfl).trans rfl))) ⟨rfl, rfl, rfl, rfl⟩ ?_
    refine SeqA.cons (loc [47] [] rfl rfl fun S hs hr => op_field latom_trace_o1_1 rfl rfl flv154_1_1 (vt ((hs 47 rfl).trans rfl))) ⟨rfl, rfl, rfl, rfl⟩ ?_
    refine SeqA.cons (locs (us := [(46, top)]) (ur := [(0, BoxF g2 154 katom_trace_o1 (fun v => ((Lens.comp (Lens.id katom_trace_o1) latom_trace_o1_1)).set (⟨t1.got, v3⟩ : atom_trace_o1) v) 97 kAtom l8)]) [48, 46] [0] rfl fun S hs hr => op_storeR rfl rfl tyr57 (vt ((hs 48 rfl).trans rfl)) ((hr 0 rfl).trans rfl) ((hs 46 rfl).trans rfl)) ⟨rfl, rfl, rfl, rfl⟩ ?_
    refine EndT.unboxF 0 2001 (by decide) rfl rfl fun v9 => ?_
    refine EndT.done ?_
    obtain rfl := Option.some.inj h
    exact RetOK.turn (Turn.packF 0 2001 (fun v => (⟨t1.got, v⟩ : atom_trace_o1)) (by decide) rfl rfl) (ret0Y (i := 0) Try.results108 rfl rfl)
  case hx =>
    refine AW.seq ?_
    refine AW.region ?_
    refine AOps.cons (op_field lAction_0 rfl rfl fl82_0 (vt rfl)) rfl ?_
    refine AOps.cons (op_load rfl rfl ty3 (vt rfl) (i := 4) rfl) rfl ?_
    refine AOps.nil ?_
    refine AW.block ?_
    refine AW.seq ?_
    refine AW.region ?_
    refine AOps.cons (op_eql rfl rfl (vt rfl) (vk rfl)) rfl ?_
    refine AOps.cons (op_assign (A := rd kbool (decide (a4.Kind = 0))) rfl rfl (vt rfl)) rfl ?_
    refine AOps.nil ?_
    refine AW.cond (vt rfl) (fun hc => ?_) (fun hc => ?_)
    · have h := cond_t hc h
      refine AW.seq ?_
      refine AW.region ?_
      refine AOps.cons (op_field lAction_1 rfl rfl fl82_1 (vt rfl)) rfl ?_
      refine AOps.cons (op_load rfl rfl ty3 (vt rfl) (i := 4) rfl) rfl ?_
      refine AOps.cons (op_field lAtom_2 rfl rfl fl97_2 (vt rfl)) rfl ?_
      refine AOps.cons (op_store rfl rfl ty3 (vt rfl) (i := 5) rfl (vt rfl)) rfl ?_
      refine AOps.nil ?_
      refine AW.seq ?_
      refine AW.region ?_
      refine AOps.cons (op_field lAction_1 rfl rfl fl82_1 (vt rfl)) rfl ?_
      refine AOps.cons (op_load rfl rfl ty3 (vt rfl) (i := 4) rfl) rfl ?_
      refine AOps.cons (op_eql rfl rfl (vt rfl) (vk rfl)) rfl ?_
      refine AOps.nil ?_
      refine AW.cond (vt rfl) (fun hc => ?_) (fun hc => ?_)
      · have h := cond_t hc h
        refine AW.region ?_
        refine AOps.cons (op_field lAction_2 rfl rfl fl82_2 (vt rfl)) rfl ?_
        refine AOps.cons (op_load rfl rfl ty3 (vt rfl) (i := 4) rfl) rfl ?_
        refine AOps.cons (op_field lAtom_3 rfl rfl fl97_3 (vt rfl)) rfl ?_
        refine AOps.cons (op_store rfl rfl ty3 (vt rfl) (i := 5) rfl (vt rfl)) rfl ?_
        refine AOps.nil ?_
        exact ⟨{ { (⟨t1.got, false, 0, 0⟩ : Atom) with Port := a4.Port } with Max := a4.Max }, h, ⟨rfl, ⟨rfl, rfl, trivial⟩, ⟨rfl, rfl, rfl, trivial⟩⟩⟩
      · have h := cond_f hc h
        refine AW.skip ?_
        exact ⟨{ (⟨t1.got, false, 0, 0⟩ : Atom) with Port := a4.Port }, h, ⟨rfl, ⟨rfl, rfl, trivial⟩, ⟨rfl, rfl, rfl, trivial⟩⟩⟩
    · have h := cond_f hc h
      refine AW.seq ?_
      refine AW.region ?_
      refine AOps.cons (op_eql rfl rfl (vt rfl) (vk rfl)) rfl ?_
      refine AOps.cons (op_assign (A := rd kbool (decide (a4.Kind = 22))) rfl rfl (vt rfl)) rfl ?_
      refine AOps.nil ?_
      refine AW.cond (vt rfl) (fun hc => ?_) (fun hc => ?_)
      · have h := cond_t hc h
        refine AW.regionAny [⟨[3], [35], [], []⟩, ⟨[35], [36], [4], []⟩, ⟨[4], [37], [], []⟩, ⟨[37], [], [5], [5]⟩, ⟨[4], [38], [], []⟩, ⟨[38, 36], [], [5], [5]⟩] mixed (by kernel_rfl) ?_
        refine SeqA.cons (loc [3] [] rfl rfl fun S hs hr => op_field lAction_3 rfl rfl fl82_3 (vt ((hs 3 rfl).trans rfl))) ⟨rfl, rfl, rfl, rfl⟩ ?_
        refine SeqA.cons (loc [35] [4] rfl rfl fun S hs hr => op_load rfl rfl ty3 (vt ((hs 35 rfl).trans rfl)) (i := 4) ((hr 4 rfl).trans rfl)) ⟨rfl, rfl, rfl, rfl⟩ ?_
        refine SeqA.cons (loc [4] [] rfl rfl fun S hs hr => op_field lAtom_1 rfl rfl fl97_1 (vt ((hs 4 rfl).trans rfl))) ⟨rfl, rfl, rfl, rfl⟩ ?_
        refine SeqA.cons (locr [37] [5] rfl fun S hs hr => op_store rfl rfl ty4 (vt ((hs 37 rfl).trans rfl)) (i := 5) ((hr 5 rfl).trans rfl) vb) ⟨rfl, rfl, rfl, rfl⟩ ?_
        refine SeqA.cons (loc [4] [] rfl rfl fun S hs hr => op_field lAtom_2 rfl rfl fl97_2 (vt ((hs 4 rfl).trans rfl))) ⟨rfl, rfl, rfl, rfl⟩ ?_
        refine SeqA.cons (locr [38, 36] [5] rfl fun S hs hr => op_store rfl rfl ty3 (vt ((hs 38 rfl).trans rfl)) (i := 5) ((hr 5 rfl).trans rfl) (vt ((hs 36 rfl).trans rfl))) ⟨rfl, rfl, rfl, rfl⟩ ?_
        exact ⟨{ { (⟨t1.got, false, 0, 0⟩ : Atom) with Group := true } with Port := a4.Group }, h, ⟨rfl, ⟨rfl, rfl, trivial⟩, ⟨rfl, rfl, rfl, trivial⟩⟩⟩
      · have h := cond_f hc h
        refine AW.seq ?_
        obtain ⟨x10, hx10, h⟩ := bsome h
        obtain ⟨x11, hx11, h⟩ := bsome h
        refine AW.regionAny [⟨[0], [12], [], []⟩, ⟨[0], [13], [], []⟩, ⟨[13], [14], [], []⟩, ⟨[14], [15], [], []⟩, ⟨[15], [16], [0], []⟩, ⟨[3], [17], [4], []⟩, ⟨[17], [18], [], []⟩, ⟨[16, 18], [19], [], []⟩, ⟨[12], [20], [], []⟩, ⟨[20], [21], [], []⟩, ⟨[21, 19], [], [0], [0]⟩] mixed (by kernel_rfl) ?_
        refine SeqA.cons (loc [0] [] rfl rfl fun S hs hr => op_move (A := ptrL g2 (Lens.id katom_trace_o1)) rfl rfl (vt ((hs 0 rfl).trans rfl))) ⟨rfl, rfl, rfl, rfl⟩ ?_
        refine SeqA.cons (loc [0] [] rfl rfl fun S hs hr => op_move (A := ptrL g2 (Lens.id katom_trace_o1)) rfl rfl (vt ((hs 0 rfl).trans rfl))) ⟨rfl, rfl, rfl, rfl⟩ ?_
        refine SeqA.cons (loc [13] [] rfl rfl fun S hs hr => op_nilCheck rfl rfl (vt ((hs 13 rfl).trans rfl))) ⟨rfl, rfl, rfl, rfl⟩ ?_
        refine SeqA.cons (loc [14] [] rfl rfl fun S hs hr => op_field latom_trace_o1_0 rfl rfl flv154_0_1 (vt ((hs 14 rfl).trans rfl))) ⟨rfl, rfl, rfl, rfl⟩ ?_
        refine SeqA.cons (loc [15] [0] rfl rfl fun S hs hr => op_load rfl rfl ty95 (vt ((hs 15 rfl).trans rfl)) (i := 0) ((hr 0 rfl).trans rfl)) ⟨rfl, rfl, rfl, rfl⟩ ?_
        refine SeqA.cons (loc [3] [4] rfl rfl fun S hs hr => op_load rfl rfl ty82 (vt ((hs 3 rfl).trans rfl)) (i := 4) ((hr 4 rfl).trans rfl)) ⟨rfl, rfl, rfl, rfl⟩ ?_
        refine SeqA.cons (loc [17] [] rfl rfl fun S hs hr => op_call (xs := [.tmp 17]) (c142 _ _ hx10) (Ent.mk Try.func142 rfl rfl) rfl rfl ⟨vt ((hs 17 rfl).trans rfl), trivial⟩) ⟨rfl, rfl, rfl, rfl⟩ ?_
        refine SeqA.cons (loc [16, 18] [] rfl rfl fun S hs hr => op_call (xs := [.tmp 16, .tmp 18]) (c148 _ _ _ hx11) (Ent.mk Try.func148 rfl rfl) rfl rfl ⟨vt ((hs 16 rfl).trans rfl), vt ((hs 18 rfl).trans rfl), trivial⟩) ⟨rfl, rfl, rfl, rfl⟩ ?_
        refine SeqA.cons (loc [12] [] rfl rfl fun S hs hr => op_nilCheck rfl rfl (vt ((hs 12 rfl).trans rfl))) ⟨rfl, rfl, rfl, rfl⟩ ?_
        refine SeqA.cons (loc [20] [] rfl rfl fun S hs hr => op_field latom_trace_o1_0 rfl rfl flv154_0_1 (vt ((hs 20 rfl).trans rfl))) ⟨rfl, rfl, rfl, rfl⟩ ?_
        refine SeqA.cons (locr [21, 19] [0] rfl fun S hs hr => op_store rfl rfl ty95 (vt ((hs 21 rfl).trans rfl)) (i := 0) ((hr 0 rfl).trans rfl) (vt ((hs 19 rfl).trans rfl))) ⟨rfl, rfl, rfl, rfl⟩ ?_
        refine AW.ret ?_
        obtain rfl := Option.some.inj h
        exact RetOK.turn (Turn.packF 0 2001 (fun v => (⟨x11, v⟩ : atom_trace_o1)) (by decide) rfl rfl) (ret0Y (i := 0) Try.results108 rfl rfl)
-- weirbox/atom.each[weirbox/api.Action]
def F107_l1 (sg : Type) (do2 : (sg → Action → Option sg)) : (List Action) → Nat → sg → Option sg
  | [], i6, s5 => some s5
  | x8 :: l7, i6, s5 => (do2 s5 x8).bind fun s10 => (F107_l1 sg do2 l7) (i6 + 1) s10
def F107 (l1 : (List Action)) (sg : Type) (do2 : (sg → Action → Option sg)) (s3 : sg) : Option sg :=
  F107_l1 sg do2 l1 0 s3
theorem c107 (l1 : (List Action)) (sg : Type) (do2 : (sg → Action → Option sg)) (L : sg → Res) (s3 : sg) (r : sg) (h : F107 l1 sg do2 s3 = some r) : Con Try.prog 107 [rd (ksl kAction) l1, stA Try.prog kAction do2 L] (L s3) (fun _ : Unit => top) (fun _ => L r) := by
  refine Con.intro Try.func107 rfl Try.ntmps107 rfl fun w H X => ?_
  unfold F107 at h
  refine AW.seq ?_
  refine AW.region ?_
  refine AOps.cons (op_move (A := rd (ksl kAction) l1) rfl rfl (vt rfl)) rfl ?_
  refine AOps.cons (op_len' rfl rfl sl73 (vt rfl)) rfl ?_
  refine AOps.cons (op_move (A := rd (kint .i64) 0) rfl rfl (vk rfl)) rfl ?_
  refine AOps.nil ?_
  refine AW.block ?_
  refine AW.loopG (d := []) (ν := (List Action) × Nat × sg) (fun n => Sfx l1 n.2.1 n.1 ∧ F107_l1 sg do2 n.1 n.2.1 n.2.2 = some r) (fun n => n.1.length) (fun n => [(1, stA Try.prog kAction do2 L), (6, rd (ksl kAction) l1), (7, rd (kint .i64) (l1.length : Int)), (8, rd (kint .i64) (n.2.1 : Int))]) (fun n => [(0, L n.2.2)]) (l1, 0, s3) ⟨Sfx.start _, h⟩ ⟨rfl, ⟨rfl, rfl, rfl, rfl, trivial⟩, ⟨rfl, trivial⟩⟩ ?_
  rintro ⟨l7, i6, s5⟩ ⟨hsf1, h⟩
  change Sfx l1 i6 l7 at hsf1
  change F107_l1 sg do2 l7 i6 s5 = some r at h
  change AW _ _ _ ⟨slots [(1, stA Try.prog kAction do2 L), (6, rd (ksl kAction) l1), (7, rd (kint .i64) (l1.length : Int)), (8, rd (kint .i64) (i6 : Int))], ress [(0, L s5)], _⟩
  cases l7 with
  | nil =>
    unfold F107_l1 at h
    refine AW.seq ?_
    refine AW.region ?_
    refine AOps.cons (op_lss rfl rfl (vt rfl) (vt rfl)) rfl ?_
    refine AOps.nil ?_
    refine AW.seq ?_
    refine AW.cond (vt rfl) (fun hc => absurd (of_decide_eq_true hc) hsf1.nil) (fun hc => ?_)
    refine AW.exit ?_
    obtain rfl := Option.some.inj h
    exact ret0Y (i := 0) Try.results107 rfl rfl
  | cons x8 l7 =>
    unfold F107_l1 at h
    generalize hgo1 : F107_l1 sg do2 l7 = go1 at h
    refine AW.seq ?_
    refine AW.region ?_
    refine AOps.cons (op_lss rfl rfl (vt rfl) (vt rfl)) rfl ?_
    refine AOps.nil ?_
    refine AW.seq ?_
    refine AW.cond (vt rfl) (fun hc => ?_) (fun hc => absurd hsf1.cons (of_decide_eq_false hc))
    have hlti6 := of_decide_eq_true hc
    refine AW.skip ?_
    refine AW.seq ?_
    refine AW.block ?_
    refine AW.seq ?_
    refine AW.region ?_
    refine AOps.cons (op_indexs' rfl rfl sl73 (vt rfl) (vt rfl) hsf1.lget) rfl ?_
    refine AOps.cons (op_loadp rfl rfl ty82 (vt rfl)) rfl ?_
    refine AOps.consT rfl (op_alloc 6 rfl rfl zr82) ?_
    rintro _ ⟨g9, rfl⟩
    refine AOps.cons (op_store rfl rfl ty82 (vt rfl) (i := 6) rfl (vt rfl)) rfl ?_
    refine AOps.nil ?_
    obtain ⟨s10, hs10, h⟩ := bsome h
    refine AW.region ?_
    refine AOps.cons (op_move (A := stA Try.prog kAction do2 L) rfl rfl (vt rfl)) rfl ?_
    refine AOps.cons (op_load rfl rfl ty82 (vt rfl) (i := 6) rfl) rfl ?_
    refine AOps.cons (op_callst 0 hs10 rfl rfl (vt rfl) (vt rfl) rfl) rfl ?_
    refine AOps.nil ?_
    refine AW.region ?_
    refine AOps.cons (op_incr (t := 7) rfl rfl (vt rfl) (vk rfl) (vt rfl) hlti6) rfl ?_
    refine AOps.cons (op_move (A := rd (kint .i64) ((i6 + 1 : Nat) : Int)) rfl rfl (vt rfl)) rfl ?_
    refine AOps.nil ?_
    subst hgo1
    exact ⟨(l7, i6 + 1, s10), Nat.lt_succ_self _, ⟨hsf1.next, h⟩, ⟨rfl, ⟨rfl, rfl, rfl, rfl, trivial⟩, ⟨rfl, trivial⟩⟩⟩
-- weirbox/atom.Do
def F60 (acts1 : (List Action)) (r2 : (Vector Tern 24)) : Option ((List Atom) × (Vector Tern 24)) :=
  (F106 r2).bind fun x5 => (F107 acts1 atom_trace (fun s x => F108 s x) (⟨x5, []⟩ : atom_trace)).bind fun b7 => some (b7.atoms, b7.got)
theorem c60 (acts1 : (List Action)) (r2 : (Vector Tern 24)) (r : ((List Atom) × (Vector Tern 24))) (h : F60 acts1 r2 = some r) : PCon Try.prog 60 [rd (ksl kAction) acts1, rd (karr 24 kTern) r2] (tup2 (rd (ksl kAtom) r.1) (rd (karr 24 kTern) r.2)) := by
  refine PCon.of (Con.intro0 Try.func60 rfl Try.ntmps60 rfl fun w H => ?_)
  unfold F60 at h
  refine AW.seq ?_
  refine AW.region ?_
  refine AOps.consT rfl (op_box 4 rfl rfl (vt rfl)) ?_
  rintro _ ⟨g3, rfl⟩
  refine AOps.cons (op_assign (A := rd (ksl kAtom) []) rfl rfl vnil) rfl ?_
  refine AOps.consT rfl (op_alloc 6 rfl rfl zr95) ?_
  rintro _ ⟨g4, rfl⟩
  refine AOps.nil ?_
  refine AW.seq ?_
  refine AW.newnil 2221 97 kAtom ?_
  obtain ⟨x5, hx5, h⟩ := bsome h
  refine AW.region ?_
  refine AOps.cons (op_load rfl rfl ty95 (vt rfl) (i := 4) rfl) rfl ?_
  refine AOps.cons (op_call (xs := [.tmp 7]) (c106 _ _ hx5) (Ent.mk Try.func106 rfl rfl) rfl rfl ⟨vt rfl, trivial⟩) rfl ?_
  refine AOps.cons (op_build (ps := [(0, .tmp 8)]) (x := (⟨x5, (.slice none 0 0)⟩ : atom_trace_o1)) rfl rfl rfl (by kernel_rfl) zrv154_1 ⟨_, _, latom_trace_o1_0, _, by kernel_rfl, (vt rfl), rfl⟩) rfl ?_
  refine AOps.consT rfl (op_box 11 rfl rfl (vt rfl)) ?_
  rintro _ ⟨g6, rfl⟩
  refine AOps.cons (op_assign (A := ptrL g6 (Lens.id katom_trace_o1)) rfl rfl (vt rfl)) rfl ?_
  refine AOps.nil ?_
  refine AW.seq ?_
  obtain ⟨b7, hb7, h⟩ := bsome h
  refine AW.region ?_
  refine AOps.cons (op_move (A := rd (ksl kAction) acts1) rfl rfl (vt rfl)) rfl ?_
  refine AOps.cons (op_move (A := ptrL g6 (Lens.id katom_trace_o1)) rfl rfl (vt rfl)) rfl ?_
  refine AOps.cons (op_st (fs := [.tmp 12]) (cs := []) (FAs := [ptrL g6 (Lens.id katom_trace_o1)]) (CAs := []) (k := kAction) (fun s x => F108 s x) (fun (s : atom_trace) => BoxF g6 154 katom_trace_o1 (fun v => (⟨s.got, v⟩ : atom_trace_o1)) 97 kAtom s.atoms) rfl rfl (Ent.mk Try.func108 rfl rfl) ⟨vt rfl, trivial⟩ trivial (fun s x s2 h => c108  _ s x s2 h)) rfl ?_
  refine AOps.packF 11 2221 (fun v => (⟨x5, v⟩ : atom_trace_o1)) (by decide) rfl rfl ?_
  refine AOps.consT rfl (op_callR 11 (xs := [.tmp 11, .tmp 13]) (c107 _ atom_trace _ (fun (s : atom_trace) => BoxF g6 154 katom_trace_o1 (fun v => (⟨s.got, v⟩ : atom_trace_o1)) 97 kAtom s.atoms) _ _ hb7) (Ent.mk Try.func107 rfl rfl) rfl rfl ⟨vt rfl, vt rfl, trivial⟩ rfl) ?_
  rintro _ ⟨_u, rfl⟩
  refine AOps.unboxF 11 2221 (by decide) rfl rfl fun v8 => ?_
  refine AOps.nil ?_
  refine AW.seq ?_
  refine AW.regionAny [⟨[6], [15], [], []⟩, ⟨[15], [16], [], []⟩, ⟨[16], [17], [], []⟩, ⟨[17], [18], [11], []⟩, ⟨[6], [19], [], []⟩, ⟨[19], [20], [], []⟩, ⟨[20], [21], [], []⟩, ⟨[21], [22], [11], []⟩, ⟨[18], [4], [], []⟩, ⟨[5, 22], [], [6], [6]⟩] mixed (by kernel_rfl) ?_
  refine SeqA.cons (loc [6] [] rfl rfl fun S hs hr => op_move (A := ptrL g6 (Lens.id katom_trace_o1)) rfl rfl (vt ((hs 6 rfl).trans rfl))) ⟨rfl, rfl, rfl, rfl⟩ ?_
  refine SeqA.cons (loc [15] [] rfl rfl fun S hs hr => op_nilCheck rfl rfl (vt ((hs 15 rfl).trans rfl))) ⟨rfl, rfl, rfl, rfl⟩ ?_
  refine SeqA.cons (loc [16] [] rfl rfl fun S hs hr => op_field latom_trace_o1_1 rfl rfl flv154_1_1 (vt ((hs 16 rfl).trans rfl))) ⟨rfl, rfl, rfl, rfl⟩ ?_
  refine SeqA.cons (loc [17] [11] rfl rfl fun S hs hr => op_loadv v8 rfl rfl tyr57 (vt ((hs 17 rfl).trans rfl)) (i := 11) ((hr 11 rfl).trans rfl) rfl) ⟨rfl, rfl, rfl, rfl⟩ ?_
  refine SeqA.cons (loc [6] [] rfl rfl fun S hs hr => op_move (A := ptrL g6 (Lens.id katom_trace_o1)) rfl rfl (vt ((hs 6 rfl).trans rfl))) ⟨rfl, rfl, rfl, rfl⟩ ?_
  refine SeqA.cons (loc [19] [] rfl rfl fun S hs hr => op_nilCheck rfl rfl (vt ((hs 19 rfl).trans rfl))) ⟨rfl, rfl, rfl, rfl⟩ ?_
  refine SeqA.cons (loc [20] [] rfl rfl fun S hs hr => op_field latom_trace_o1_0 rfl rfl flv154_0_1 (vt ((hs 20 rfl).trans rfl))) ⟨rfl, rfl, rfl, rfl⟩ ?_
  refine SeqA.cons (loc [21] [11] rfl rfl fun S hs hr => op_load rfl rfl ty95 (vt ((hs 21 rfl).trans rfl)) (i := 11) ((hr 11 rfl).trans rfl)) ⟨rfl, rfl, rfl, rfl⟩ ?_
  refine SeqA.cons (loc [18] [] rfl rfl fun S hs hr => op_assign (A := raw v8) rfl rfl (vt ((hs 18 rfl).trans rfl))) ⟨rfl, rfl, rfl, rfl⟩ ?_
  refine SeqA.cons (locr [5, 22] [6] rfl fun S hs hr => op_store rfl rfl ty95 (vt ((hs 5 rfl).trans rfl)) (i := 6) ((hr 6 rfl).trans rfl) (vt ((hs 22 rfl).trans rfl))) ⟨rfl, rfl, rfl, rfl⟩ ?_
  refine AW.freezes [4, 18] 2221 rfl ⟨rfl, rfl, trivial⟩ rfl ?_
  refine AW.ret ?_
  obtain rfl := Option.some.inj h
  exact ret2 Try.results60 rfl (out_tmp rfl) (out_cell rfl (i := 6) rfl ty95)
-- (weirbox/norm.world).list
def F103s_l1 (R143 : (norm_world → Int → (Vector Tern 24) → Option (List Atom))) (w1 : norm_world) : (List Atom) → Nat → (List Atom) → Option (List Atom)
  | [], i8, l6 => some l6
  | x10 :: l9, i8, l6 => (bif x10.Group then (R143 w1 x10.Port x10.Rewrite).bind fun x12 => (appd l6 x12).bind fun l13 => (F103s_l1 R143 w1 l9) (i8 + 1) l13 else (F106 x10.Rewrite).bind fun x15 => (appd l6 [{ x10 with Rewrite := x15 }]).bind fun l16 => (F103s_l1 R143 w1 l9) (i8 + 1) l16)
def F103s (R103 : (norm_world → (List Atom) → Option (List Atom))) (R143 : (norm_world → Int → (Vector Tern 24) → Option (List Atom))) (w1 : norm_world) (a2 : (List Atom)) : Option (List Atom) :=
  F103s_l1 R143 w1 a2 0 []
theorem c103s (R103 : (norm_world → (List Atom) → Option (List Atom))) (hR103 : ∀ (w1 : norm_world) (a2 : (List Atom)) (r : (List Atom)), R103 w1 a2 = some r → PCon Try.prog 103 [rd knorm_world w1, rd (ksl kAtom) a2] (rd (ksl kAtom) r)) (R143 : (norm_world → Int → (Vector Tern 24) → Option (List Atom))) (hR143 : ∀ (w1 : norm_world) (id2 : Int) (r3 : (Vector Tern 24)) (r : (List Atom)), R143 w1 id2 r3 = some r → PCon Try.prog 143 [rd knorm_world w1, rd (kint .i64) id2, rd (karr 24 kTern) r3] (rd (ksl kAtom) r)) (w1 : norm_world) (a2 : (List Atom)) (r : (List Atom)) (h : F103s R103 R143 w1 a2 = some r) : PCon Try.prog 103 [rd knorm_world w1, rd (ksl kAtom) a2] (rd (ksl kAtom) r) := by
  refine PCon.of (Con.intro0 Try.func103 rfl Try.ntmps103 rfl fun w H => ?_)
  unfold F103s at h
  refine AW.seq ?_
  refine AW.region ?_
  refine AOps.consT rfl (op_box 3 rfl rfl (vt rfl)) ?_
  rintro _ ⟨g3, rfl⟩
  refine AOps.cons (op_assign (A := rd (ksl kAtom) []) rfl rfl vnil) rfl ?_
  refine AOps.nil ?_
  refine AW.seq ?_
  refine AW.newnil 1001 97 kAtom ?_
  refine AW.region ?_
  refine AOps.cons (op_assign rfl rfl vc) rfl ?_
  refine AOps.nil ?_
  refine AW.seq ?_
  refine AW.seq ?_
  refine AW.region ?_
  refine AOps.cons (op_move (A := rd (ksl kAtom) a2) rfl rfl (vt rfl)) rfl ?_
  refine AOps.cons (op_len' rfl rfl sl57 (vt rfl)) rfl ?_
  refine AOps.cons (op_move (A := rd (kint .i64) 0) rfl rfl (vk rfl)) rfl ?_
  refine AOps.nil ?_
  refine AW.block ?_
  refine AW.loopG (d := []) (ν := (List Atom) × Nat × (List Atom) × Value) (fun n => Sfx a2 n.2.1 n.1 ∧ F103s_l1 R143 w1 n.1 n.2.1 n.2.2.1 = some r) (fun n => n.1.length) (fun n => [(2, ptrL g3 (Lens.id knorm_world)), (5, raw n.2.2.2), (8, rd (ksl kAtom) a2), (9, rd (kint .i64) (a2.length : Int)), (10, rd (kint .i64) (n.2.1 : Int))]) (fun n => [(3, Blk g3 149 knorm_world w1), (1001, Row n.2.2.2 97 kAtom n.2.2.1)]) (a2, 0, [], (.slice none 0 0)) ⟨Sfx.start _, h⟩ ⟨rfl, ⟨rfl, rfl, rfl, rfl, rfl, trivial⟩, ⟨rfl, rfl, trivial⟩⟩ ?_
  rintro ⟨l9, i8, l6, v7⟩ ⟨hsf1, h⟩
  change Sfx a2 i8 l9 at hsf1
  change F103s_l1 R143 w1 l9 i8 l6 = some r at h
  change AW _ _ _ ⟨slots [(2, ptrL g3 (Lens.id knorm_world)), (5, raw v7), (8, rd (ksl kAtom) a2), (9, rd (kint .i64) (a2.length : Int)), (10, rd (kint .i64) (i8 : Int))], ress [(3, Blk g3 149 knorm_world w1), (1001, Row v7 97 kAtom l6)], _⟩
  cases l9 with
  | nil =>
    unfold F103s_l1 at h
    refine AW.seq ?_
    refine AW.region ?_
    refine AOps.cons (op_lss rfl rfl (vt rfl) (vt rfl)) rfl ?_
    refine AOps.nil ?_
    refine AW.seq ?_
    refine AW.cond (vt rfl) (fun hc => absurd (of_decide_eq_true hc) hsf1.nil) (fun hc => ?_)
    refine AW.exit ?_
    refine AW.seq ?_
    refine AW.region ?_
    refine AOps.cons (op_move (A := raw v7) rfl rfl (vt rfl)) rfl ?_
    refine AOps.cons (op_assign (A := raw v7) rfl rfl (vt rfl)) rfl ?_
    refine AOps.nil ?_
    refine AW.freezes [4, 5, 33] 1001 rfl ⟨rfl, rfl, rfl, trivial⟩ rfl ?_
    refine AW.ret ?_
    obtain rfl := Option.some.inj h
    exact ret1 Try.results103 rfl (out_tmp rfl)
  | cons x10 l9 =>
    unfold F103s_l1 at h
    generalize hgo1 : F103s_l1 R143 w1 l9 = go1 at h
    refine AW.seq ?_
    refine AW.region ?_
    refine AOps.cons (op_lss rfl rfl (vt rfl) (vt rfl)) rfl ?_
    refine AOps.nil ?_
    refine AW.seq ?_
    refine AW.cond (vt rfl) (fun hc => ?_) (fun hc => absurd hsf1.cons (of_decide_eq_false hc))
    have hlti8 := of_decide_eq_true hc
    refine AW.skip ?_
    refine AW.seq ?_
    refine AW.block ?_
    refine AW.seq ?_
    refine AW.region ?_
    refine AOps.cons (op_indexs' rfl rfl sl57 (vt rfl) (vt rfl) hsf1.lget) rfl ?_
    refine AOps.cons (op_loadp rfl rfl ty97 (vt rfl)) rfl ?_
    refine AOps.consT rfl (op_alloc 8 rfl rfl zr97) ?_
    rintro _ ⟨g11, rfl⟩
    refine AOps.cons (op_store rfl rfl ty97 (vt rfl) (i := 8) rfl (vt rfl)) rfl ?_
    refine AOps.nil ?_
    refine AW.seq ?_
    refine AW.seq ?_
    refine AW.region ?_
    refine AOps.cons (op_field lAtom_1 rfl rfl fl97_1 (vt rfl)) rfl ?_
    refine AOps.cons (op_load rfl rfl ty4 (vt rfl) (i := 8) rfl) rfl ?_
    refine AOps.nil ?_
    refine AW.cond (vt rfl) (fun hc => ?_) (fun hc => ?_)
    · have h := cond_t hc h
      refine AW.seq ?_
      obtain ⟨x12, hx12, h⟩ := bsome h
      obtain ⟨l13, hl13, h⟩ := bsome h
      refine AW.region ?_
      refine AOps.cons (op_move (A := raw v7) rfl rfl (vt rfl)) rfl ?_
      refine AOps.cons (op_load rfl rfl ty149 (vt rfl) (i := 3) rfl) rfl ?_
      refine AOps.cons (op_field lAtom_2 rfl rfl fl97_2 (vt rfl)) rfl ?_
      refine AOps.cons (op_load rfl rfl ty3 (vt rfl) (i := 8) rfl) rfl ?_
      refine AOps.cons (op_field lAtom_0 rfl rfl fl97_0 (vt rfl)) rfl ?_
      refine AOps.cons (op_load rfl rfl ty95 (vt rfl) (i := 8) rfl) rfl ?_
      refine AOps.cons (op_call (xs := [.tmp 17, .tmp 19, .tmp 21]) (hR143 _ _ _ _ hx12) (Ent.mk Try.func143 rfl rfl) rfl rfl ⟨vt rfl, vt rfl, vt rfl, trivial⟩) rfl ?_
      refine AOps.consT rfl (op_append' 1001 hl13 rfl rfl el57 (vt rfl) rfl (vt rfl)) ?_
      rintro _ ⟨v14, rfl⟩
      refine AOps.cons (op_assign (A := raw v14) rfl rfl (vt rfl)) rfl ?_
      refine AOps.nil ?_
      refine AW.exit ?_
      refine AW.region ?_
      refine AOps.cons (op_incr (t := 9) rfl rfl (vt rfl) (vk rfl) (vt rfl) hlti8) rfl ?_
      refine AOps.cons (op_move (A := rd (kint .i64) ((i8 + 1 : Nat) : Int)) rfl rfl (vt rfl)) rfl ?_
      refine AOps.nil ?_
      subst hgo1
      exact ⟨(l9, i8 + 1, l13, v14), Nat.lt_succ_self _, ⟨hsf1.next, h⟩, ⟨rfl, ⟨rfl, rfl, rfl, rfl, rfl, trivial⟩, ⟨rfl, rfl, trivial⟩⟩⟩
    · have h := cond_f hc h
      refine AW.skip ?_
      refine AW.seq ?_
      obtain ⟨x15, hx15, h⟩ := bsome h
      refine AW.region ?_
      refine AOps.cons (op_field lAtom_0 rfl rfl fl97_0 (vt rfl)) rfl ?_
      refine AOps.cons (op_load rfl rfl ty95 (vt rfl) (i := 8) rfl) rfl ?_
      refine AOps.cons (op_call (xs := [.tmp 25]) (c106 _ _ hx15) (Ent.mk Try.func106 rfl rfl) rfl rfl ⟨vt rfl, trivial⟩) rfl ?_
      refine AOps.cons (op_field lAtom_0 rfl rfl fl97_0 (vt rfl)) rfl ?_
      refine AOps.cons (op_store rfl rfl ty95 (vt rfl) (i := 8) rfl (vt rfl)) rfl ?_
      refine AOps.nil ?_
      obtain ⟨l16, hl16, h⟩ := bsome h
      refine AW.region ?_
      refine AOps.cons (op_move (A := raw v7) rfl rfl (vt rfl)) rfl ?_
      refine AOps.cons (op_load rfl rfl ty97 (vt rfl) (i := 8) rfl) rfl ?_
      refine AOps.cons (op_buildSliceR (ps := [(0, .tmp 29)]) (l := [{ x10 with Rewrite := x15 }]) rfl rfl sl57 zr97 rfl rfl ⟨_, _, Lens.idx 1 kAtom 0 (by decide), _, rfl, (vt rfl), rfl⟩ rfl) rfl ?_
      refine AOps.consT rfl (op_append' 1001 hl16 rfl rfl el57 (vt rfl) rfl (vt rfl)) ?_
      rintro _ ⟨v17, rfl⟩
      refine AOps.cons (op_assign (A := raw v17) rfl rfl (vt rfl)) rfl ?_
      refine AOps.nil ?_
      refine AW.region ?_
      refine AOps.cons (op_incr (t := 9) rfl rfl (vt rfl) (vk rfl) (vt rfl) hlti8) rfl ?_
      refine AOps.cons (op_move (A := rd (kint .i64) ((i8 + 1 : Nat) : Int)) rfl rfl (vt rfl)) rfl ?_
      refine AOps.nil ?_
      subst hgo1
      exact ⟨(l9, i8 + 1, l16, v17), Nat.lt_succ_self _, ⟨hsf1.next, h⟩, ⟨rfl, ⟨rfl, rfl, rfl, rfl, rfl, trivial⟩, ⟨rfl, rfl, trivial⟩⟩⟩
-- (weirbox/norm.world).group
def F143s_l1 (x6 : (Group × Bool)) (r3 : (Vector Tern 24)) (R103 : (norm_world → (List Atom) → Option (List Atom))) (w1 : norm_world) : (List Int) → Nat → (List Atom) → Option (List Atom)
  | [], i13, l11 => some l11
  | x15 :: l14, i13, l11 => (lget x6.1.Buckets x15).bind fun e16 => (F154 [] e16.Acts).bind fun x17 => (F153 x17).bind fun x18 => (F60 x18 r3).bind fun x19 => (R103 { w1 with depth := (IntKind.i64.wrap (w1.depth + 1)) } x19.1).bind fun x21 => (appd l11 x21).bind fun l22 => (F143s_l1 x6 r3 R103 w1 l14) (i13 + 1) l22
def F143s (R103 : (norm_world → (List Atom) → Option (List Atom))) (R143 : (norm_world → Int → (Vector Tern 24) → Option (List Atom))) (w1 : norm_world) (id2 : Int) (r3 : (Vector Tern 24)) : Option (List Atom) :=
  (F151 w1.groups id2).bind fun x6 => (bif ((!x6.2) || (decide (w1.depth ≥ 8))) then some [] else (F152 ({ w1 with depth := (IntKind.i64.wrap (w1.depth + 1)) }.Env) x6.1).bind fun x8 => F143s_l1 x6 r3 R103 w1 x8 0 [])
theorem c143s (R103 : (norm_world → (List Atom) → Option (List Atom))) (hR103 : ∀ (w1 : norm_world) (a2 : (List Atom)) (r : (List Atom)), R103 w1 a2 = some r → PCon Try.prog 103 [rd knorm_world w1, rd (ksl kAtom) a2] (rd (ksl kAtom) r)) (R143 : (norm_world → Int → (Vector Tern 24) → Option (List Atom))) (hR143 : ∀ (w1 : norm_world) (id2 : Int) (r3 : (Vector Tern 24)) (r : (List Atom)), R143 w1 id2 r3 = some r → PCon Try.prog 143 [rd knorm_world w1, rd (kint .i64) id2, rd (karr 24 kTern) r3] (rd (ksl kAtom) r)) (w1 : norm_world) (id2 : Int) (r3 : (Vector Tern 24)) (r : (List Atom)) (h : F143s R103 R143 w1 id2 r3 = some r) : PCon Try.prog 143 [rd knorm_world w1, rd (kint .i64) id2, rd (karr 24 kTern) r3] (rd (ksl kAtom) r) := by
  refine PCon.of (Con.intro0 Try.func143 rfl Try.ntmps143 rfl fun w H => ?_)
  unfold F143s at h
  refine AW.seq ?_
  refine AW.region ?_
  refine AOps.consT rfl (op_box 4 rfl rfl (vt rfl)) ?_
  rintro _ ⟨g4, rfl⟩
  refine AOps.consT rfl (op_box 6 rfl rfl (vt rfl)) ?_
  rintro _ ⟨g5, rfl⟩
  refine AOps.cons (op_assign (A := rd (ksl kAtom) []) rfl rfl vnil) rfl ?_
  refine AOps.nil ?_
  refine AW.seq ?_
  obtain ⟨x6, hx6, h⟩ := bsome h
  refine AW.region ?_
  refine AOps.cons (op_field lnorm_world_1 rfl rfl fl149_1 (vt rfl)) rfl ?_
  refine AOps.cons (op_load rfl rfl ty22 (vt rfl) (i := 4) rfl) rfl ?_
  refine AOps.cons (op_move (A := rd (kint .i64) id2) rfl rfl (vt rfl)) rfl ?_
  refine AOps.cons (op_call (xs := [.tmp 16, .tmp 17]) (c151 _ _ _ hx6) (Ent.mk Try.func151 rfl rfl) rfl rfl ⟨vt rfl, vt rfl, trivial⟩) rfl ?_
  refine AOps.cons (op_move (A := tup2 (rd kGroup x6.1) (rd kbool x6.2)) rfl rfl (vt rfl)) rfl ?_
  refine AOps.cons (op_fst rfl rfl (vt rfl)) rfl ?_
  refine AOps.cons (op_snd rfl rfl (vt rfl)) rfl ?_
  refine AOps.consT rfl (op_alloc 8 rfl rfl zr40) ?_
  rintro _ ⟨g7, rfl⟩
  refine AOps.cons (op_store rfl rfl ty40 (vt rfl) (i := 8) rfl (vt rfl)) rfl ?_
  refine AOps.cons (op_assign (A := rd kbool x6.2) rfl rfl (vt rfl)) rfl ?_
  refine AOps.nil ?_
  refine AW.seq ?_
  refine AW.seq ?_
  refine AW.region ?_
  refine AOps.cons (op_move (A := rd kbool x6.2) rfl rfl (vt rfl)) rfl ?_
  refine AOps.cons (op_not rfl rfl (vt rfl)) rfl ?_
  refine AOps.cons (op_move (A := rd kbool (!x6.2)) rfl rfl (vt rfl)) rfl ?_
  refine AOps.consG (OpG.guard rfl rfl rfl rfl rfl fun hq => op_field lnorm_world_2 rfl rfl fl149_2 (vt rfl)) ?_
  refine AOps.consG (OpG.guard rfl rfl rfl rfl rfl fun hq => op_load rfl rfl ty3 (vgt rfl hq) (i := 4) rfl) ?_
  refine AOps.consG (OpG.guard rfl rfl rfl rfl rfl fun hq => op_geq rfl rfl (vgt rfl hq) (vk rfl)) ?_
  refine AOps.cons (op_any rfl rfl (vt rfl) (vt rfl)) rfl ?_
  refine AOps.nil ?_
  refine AW.cond (vt rfl) (fun hc => ?_) (fun hc => ?_)
  · have h := cond_t hc h
    refine AW.seq ?_
    refine AW.region ?_
    refine AOps.cons (op_assign (A := rd (ksl kAtom) []) rfl rfl vnil) rfl ?_
    refine AOps.nil ?_
    refine AW.ret ?_
    obtain rfl := Option.some.inj h
    exact ret1 Try.results143 rfl (out_tmp rfl)
  · have h := cond_f hc h
    refine AW.skip ?_
    refine AW.seq ?_
    refine AW.region ?_
    refine AOps.cons (op_field lnorm_world_2 rfl rfl fl149_2 (vt rfl)) rfl ?_
    refine AOps.cons (op_load rfl rfl ty3 (vt rfl) (i := 4) rfl) rfl ?_
    refine AOps.cons (op_add rfl rfl (vt rfl) (vk rfl)) rfl ?_
    refine AOps.cons (op_field lnorm_world_2 rfl rfl fl149_2 (vt rfl)) rfl ?_
    refine AOps.cons (op_store rfl rfl ty3 (vt rfl) (i := 4) rfl (vt rfl)) rfl ?_
    refine AOps.nil ?_
    refine AW.seq ?_
    refine AW.newnil 1001 97 kAtom ?_
    refine AW.region ?_
    refine AOps.cons (op_assign rfl rfl vc) rfl ?_
    refine AOps.nil ?_
    refine AW.seq ?_
    refine AW.seq ?_
    obtain ⟨x8, hx8, h⟩ := bsome h
    refine AW.region ?_
    refine AOps.cons (op_field lnorm_world_0 rfl rfl fl149_0 (vt rfl)) rfl ?_
    refine AOps.cons (op_load rfl rfl ty31 (vt rfl) (i := 4) rfl) rfl ?_
    refine AOps.cons (op_load rfl rfl ty40 (vt rfl) (i := 8) rfl) rfl ?_
    refine AOps.cons (op_call (xs := [.tmp 33, .tmp 34]) (c152 _ _ _ hx8) (Ent.mk Try.func152 rfl rfl) rfl rfl ⟨vt rfl, vt rfl, trivial⟩) rfl ?_
    refine AOps.cons (op_len' rfl rfl sl29 (vt rfl)) rfl ?_
    refine AOps.cons (op_move (A := rd (kint .i64) 0) rfl rfl (vk rfl)) rfl ?_
    refine AOps.nil ?_
    refine AW.block ?_
    refine AW.loopG (d := []) (ν := (List Int) × Nat × (List Atom) × Value) (fun n => Sfx x8 n.2.1 n.1 ∧ F143s_l1 x6 r3 R103 w1 n.1 n.2.1 n.2.2.1 = some r) (fun n => n.1.length) (fun n => [(3, ptrL g4 (Lens.id knorm_world)), (5, ptrL g5 (Lens.id (karr 24 kTern))), (7, ptrL g7 (Lens.id kGroup)), (9, raw n.2.2.2), (35, rd (ksl (kint .i64)) x8), (36, rd (kint .i64) (x8.length : Int)), (37, rd (kint .i64) (n.2.1 : Int))]) (fun n => [(4, Blk g4 149 knorm_world { w1 with depth := (IntKind.i64.wrap (w1.depth + 1)) }), (6, Blk g5 95 (karr 24 kTern) r3), (8, Blk g7 40 kGroup x6.1), (1001, Row n.2.2.2 97 kAtom n.2.2.1)]) (x8, 0, [], (.slice none 0 0)) ⟨Sfx.start _, h⟩ ⟨rfl, ⟨rfl, rfl, rfl, rfl, rfl, rfl, rfl, trivial⟩, ⟨rfl, rfl, rfl, rfl, trivial⟩⟩ ?_
    rintro ⟨l14, i13, l11, v12⟩ ⟨hsf1, h⟩
    change Sfx x8 i13 l14 at hsf1
    change F143s_l1 x6 r3 R103 w1 l14 i13 l11 = some r at h
    change AW _ _ _ ⟨slots [(3, ptrL g4 (Lens.id knorm_world)), (5, ptrL g5 (Lens.id (karr 24 kTern))), (7, ptrL g7 (Lens.id kGroup)), (9, raw v12), (35, rd (ksl (kint .i64)) x8), (36, rd (kint .i64) (x8.length : Int)), (37, rd (kint .i64) (i13 : Int))], ress [(4, Blk g4 149 knorm_world { w1 with depth := (IntKind.i64.wrap (w1.depth + 1)) }), (6, Blk g5 95 (karr 24 kTern) r3), (8, Blk g7 40 kGroup x6.1), (1001, Row v12 97 kAtom l11)], _⟩
    cases l14 with
    | nil =>
      unfold F143s_l1 at h
      refine AW.seq ?_
      refine AW.region ?_
      refine AOps.cons (op_lss rfl rfl (vt rfl) (vt rfl)) rfl ?_
      refine AOps.nil ?_
      refine AW.seq ?_
      refine AW.cond (vt rfl) (fun hc => absurd (of_decide_eq_true hc) hsf1.nil) (fun hc => ?_)
      refine AW.exit ?_
      refine AW.seq ?_
      refine AW.region ?_
      refine AOps.cons (op_move (A := raw v12) rfl rfl (vt rfl)) rfl ?_
      refine AOps.cons (op_assign (A := raw v12) rfl rfl (vt rfl)) rfl ?_
      refine AOps.nil ?_
      refine AW.freezes [6, 9, 60] 1001 rfl ⟨rfl, rfl, rfl, trivial⟩ rfl ?_
      refine AW.ret ?_
      obtain rfl := Option.some.inj h
      exact ret1 Try.results143 rfl (out_tmp rfl)
    | cons x15 l14 =>
      unfold F143s_l1 at h
      generalize hgo1 : F143s_l1 x6 r3 R103 w1 l14 = go1 at h
      refine AW.seq ?_
      refine AW.region ?_
      refine AOps.cons (op_lss rfl rfl (vt rfl) (vt rfl)) rfl ?_
      refine AOps.nil ?_
      refine AW.seq ?_
      refine AW.cond (vt rfl) (fun hc => ?_) (fun hc => absurd hsf1.cons (of_decide_eq_false hc))
      have hlti13 := of_decide_eq_true hc
      refine AW.skip ?_
      refine AW.seq ?_
      refine AW.block ?_
      refine AW.seq ?_
      refine AW.region ?_
      refine AOps.cons (op_indexs' rfl rfl sl29 (vt rfl) (vt rfl) hsf1.lget) rfl ?_
      refine AOps.cons (op_loadp rfl rfl ty3 (vt rfl)) rfl ?_
      refine AOps.cons (op_assign (A := rd (kint .i64) x15) rfl rfl (vt rfl)) rfl ?_
      refine AOps.nil ?_
      refine AW.seq ?_
      obtain ⟨e16, he16, h⟩ := bsome h
      obtain ⟨x17, hx17, h⟩ := bsome h
      obtain ⟨x18, hx18, h⟩ := bsome h
      obtain ⟨x19, hx19, h⟩ := bsome h
      refine AW.regionAny [⟨[7], [42], [], []⟩, ⟨[42], [43], [8], []⟩, ⟨[11], [44], [], []⟩, ⟨[43, 44], [45], [], []⟩, ⟨[45], [46], [], []⟩, ⟨[46], [47], [], []⟩, ⟨[47], [48], [], []⟩, ⟨[48], [49], [], []⟩, ⟨[5], [50], [6], []⟩, ⟨[49, 50], [51], [], []⟩, ⟨[51], [41], [], []⟩, ⟨[41], [52], [], []⟩, ⟨[41], [53], [], []⟩, ⟨[], [13], [], []⟩, ⟨[52], [12], [], []⟩, ⟨[13, 53], [13], [], []⟩] mixed (by kernel_rfl) ?_
      refine SeqA.cons (loc [7] [] rfl rfl fun S hs hr => op_field lGroup_2 rfl rfl fl40_2 (vt ((hs 7 rfl).trans rfl))) ⟨rfl, rfl, rfl, rfl⟩ ?_
      refine SeqA.cons (loc [42] [8] rfl rfl fun S hs hr => op_load rfl rfl ty38 (vt ((hs 42 rfl).trans rfl)) (i := 8) ((hr 8 rfl).trans rfl)) ⟨rfl, rfl, rfl, rfl⟩ ?_
      refine SeqA.cons (loc [11] [] rfl rfl fun S hs hr => op_move (A := rd (kint .i64) x15) rfl rfl (vt ((hs 11 rfl).trans rfl))) ⟨rfl, rfl, rfl, rfl⟩ ?_
      refine SeqA.cons (loc [43, 44] [] rfl rfl fun S hs hr => op_indexs' rfl rfl sl38 (vt ((hs 43 rfl).trans rfl)) (vt ((hs 44 rfl).trans rfl)) he16) ⟨rfl, rfl, rfl, rfl⟩ ?_
      refine SeqA.cons (loc [45] [] rfl rfl fun S hs hr => op_fieldp lBucket_3 rfl rfl fl104_3 (vt ((hs 45 rfl).trans rfl))) ⟨rfl, rfl, rfl, rfl⟩ ?_
      refine SeqA.cons (loc [46] [] rfl rfl fun S hs hr => op_loadp rfl rfl ty73 (vt ((hs 46 rfl).trans rfl))) ⟨rfl, rfl, rfl, rfl⟩ ?_
      refine SeqA.cons (loc [47] [] rfl rfl fun S hs hr => op_call (xs := [.const (Value.slice none 0 0), .tmp 47]) (c154 _ _ _ hx17) (Ent.mk Try.func154 rfl rfl) rfl rfl ⟨vnil, vt ((hs 47 rfl).trans rfl), trivial⟩) ⟨rfl, rfl, rfl, rfl⟩ ?_
      refine SeqA.cons (loc [48] [] rfl rfl fun S hs hr => op_call (xs := [.tmp 48]) (c153 _ _ hx18) (Ent.mk Try.func153 rfl rfl) rfl rfl ⟨vt ((hs 48 rfl).trans rfl), trivial⟩) ⟨rfl, rfl, rfl, rfl⟩ ?_
      refine SeqA.cons (loc [5] [6] rfl rfl fun S hs hr => op_load rfl rfl ty95 (vt ((hs 5 rfl).trans rfl)) (i := 6) ((hr 6 rfl).trans rfl)) ⟨rfl, rfl, rfl, rfl⟩ ?_
      refine SeqA.cons (loc [49, 50] [] rfl rfl fun S hs hr => op_call (xs := [.tmp 49, .tmp 50]) (c60 _ _ _ hx19) (Ent.mk Try.func60 rfl rfl) rfl rfl ⟨vt ((hs 49 rfl).trans rfl), vt ((hs 50 rfl).trans rfl), trivial⟩) ⟨rfl, rfl, rfl, rfl⟩ ?_
      refine SeqA.cons (loc [51] [] rfl rfl fun S hs hr => op_move (A := tup2 (rd (ksl kAtom) x19.1) (rd (karr 24 kTern) x19.2)) rfl rfl (vt ((hs 51 rfl).trans rfl))) ⟨rfl, rfl, rfl, rfl⟩ ?_
      refine SeqA.cons (loc [41] [] rfl rfl fun S hs hr => op_fst rfl rfl (vt ((hs 41 rfl).trans rfl))) ⟨rfl, rfl, rfl, rfl⟩ ?_
      refine SeqA.cons (loc [41] [] rfl rfl fun S hs hr => op_snd rfl rfl (vt ((hs 41 rfl).trans rfl))) ⟨rfl, rfl, rfl, rfl⟩ ?_
      refine SeqA.cons (locs (us := [(13, ownP 95 (karr 24 kTern) (Vector.replicate 24 zTern))]) (ur := []) [] [] rfl fun S hs hr => op_allocO rfl rfl rfl zr95) ⟨rfl, rfl, rfl, rfl⟩ ?_
      refine SeqA.cons (loc [52] [] rfl rfl fun S hs hr => op_assign (A := rd (ksl kAtom) x19.1) rfl rfl (vt ((hs 52 rfl).trans rfl))) ⟨rfl, rfl, rfl, rfl⟩ ?_
      refine SeqA.cons (locs (us := [(13, ownP 95 (karr 24 kTern) x19.2)]) (ur := []) [13, 53] [] rfl fun S hs hr => op_storeO rfl rfl ty95 ((hs 13 rfl).trans rfl) (vt ((hs 53 rfl).trans rfl))) ⟨rfl, rfl, rfl, rfl⟩ ?_
      refine AW.unpackP 13 14 rfl rfl fun g20 => ?_
      obtain ⟨x21, hx21, h⟩ := bsome h
      obtain ⟨l22, hl22, h⟩ := bsome h
      refine AW.region ?_
      refine AOps.cons (op_move (A := raw v12) rfl rfl (vt rfl)) rfl ?_
      refine AOps.cons (op_load rfl rfl ty149 (vt rfl) (i := 4) rfl) rfl ?_
      refine AOps.cons (op_move (A := rd (ksl kAtom) x19.1) rfl rfl (vt rfl)) rfl ?_
      refine AOps.cons (op_call (xs := [.tmp 55, .tmp 56]) (hR103 _ _ _ hx21) (Ent.mk Try.func103 rfl rfl) rfl rfl ⟨vt rfl, vt rfl, trivial⟩) rfl ?_
      refine AOps.consT rfl (op_append' 1001 hl22 rfl rfl el57 (vt rfl) rfl (vt rfl)) ?_
      rintro _ ⟨v23, rfl⟩
      refine AOps.cons (op_assign (A := raw v23) rfl rfl (vt rfl)) rfl ?_
      refine AOps.nil ?_
      refine AW.region ?_
      refine AOps.cons (op_incr (t := 36) rfl rfl (vt rfl) (vk rfl) (vt rfl) hlti13) rfl ?_
      refine AOps.cons (op_move (A := rd (kint .i64) ((i13 + 1 : Nat) : Int)) rfl rfl (vt rfl)) rfl ?_
      refine AOps.nil ?_
      subst hgo1
      exact ⟨(l14, i13 + 1, l22, v23), Nat.lt_succ_self _, ⟨hsf1.next, h⟩, ⟨rfl, ⟨rfl, rfl, rfl, rfl, rfl, rfl, rfl, trivial⟩, ⟨rfl, rfl, rfl, rfl, trivial⟩⟩⟩
def FR103_143 : Nat → (norm_world → (List Atom) → Option (List Atom)) × (norm_world → Int → (Vector Tern 24) → Option (List Atom))
  | 0 => ((fun _ _ => none), (fun _ _ _ => none))
  | n + 1 => ((F103s (FR103_143 n).1 (FR103_143 n).2), (F143s (FR103_143 n).1 (FR103_143 n).2))
theorem cR103_143 : ∀ n : Nat, (∀ (w1 : norm_world) (a2 : (List Atom)) (r : (List Atom)), (FR103_143 n).1 w1 a2 = some r → PCon Try.prog 103 [rd knorm_world w1, rd (ksl kAtom) a2] (rd (ksl kAtom) r)) ∧ (∀ (w1 : norm_world) (id2 : Int) (r3 : (Vector Tern 24)) (r : (List Atom)), (FR103_143 n).2 w1 id2 r3 = some r → PCon Try.prog 143 [rd knorm_world w1, rd (kint .i64) id2, rd (karr 24 kTern) r3] (rd (ksl kAtom) r))
  | 0 => ⟨(by intros; rename_i h; cases h), (by intros; rename_i h; cases h)⟩
  | n + 1 => by
    have ih := cR103_143 n
    exact ⟨(c103s (FR103_143 n).1 ih.1 (FR103_143 n).2 ih.2), (c143s (FR103_143 n).1 ih.1 (FR103_143 n).2 ih.2)⟩
def F103 (w1 : norm_world) (a2 : (List Atom)) : Option (List Atom) := (FR103_143 fuel0).1 w1 a2
theorem c103 : ∀ (w1 : norm_world) (a2 : (List Atom)) (r : (List Atom)), F103 w1 a2 = some r → PCon Try.prog 103 [rd knorm_world w1, rd (ksl kAtom) a2] (rd (ksl kAtom) r) := (cR103_143 fuel0).1
def F143 (w1 : norm_world) (id2 : Int) (r3 : (Vector Tern 24)) : Option (List Atom) := (FR103_143 fuel0).2 w1 id2 r3
theorem c143 : ∀ (w1 : norm_world) (id2 : Int) (r3 : (Vector Tern 24)) (r : (List Atom)), F143 w1 id2 r3 = some r → PCon Try.prog 143 [rd knorm_world w1, rd (kint .i64) id2, rd (karr 24 kTern) r3] (rd (ksl kAtom) r) := (cR103_143 fuel0).2
-- weirbox/norm.List
def F56 (l1 : (List Group)) (e2 : Env) (a3 : (List Atom)) : Option (List Atom) :=
  (F103 (⟨e2, l1, 0⟩ : norm_world) a3).bind fun x5 => some x5
theorem c56 (l1 : (List Group)) (e2 : Env) (a3 : (List Atom)) (r : (List Atom)) (h : F56 l1 e2 a3 = some r) : PCon Try.prog 56 [rd (ksl kGroup) l1, rd kEnv e2, rd (ksl kAtom) a3] (rd (ksl kAtom) r) := by
  refine PCon.of (Con.intro0 Try.func56 rfl Try.ntmps56 rfl fun w H => ?_)
  unfold F56 at h
  refine AW.seq ?_
  refine AW.region ?_
  refine AOps.consT rfl (op_box 5 rfl rfl (vt rfl)) ?_
  rintro _ ⟨g4, rfl⟩
  refine AOps.cons (op_assign (A := rd (ksl kAtom) []) rfl rfl vnil) rfl ?_
  refine AOps.nil ?_
  refine AW.seq ?_
  obtain ⟨x5, hx5, h⟩ := bsome h
  refine AW.region ?_
  refine AOps.cons (op_load rfl rfl ty31 (vt rfl) (i := 5) rfl) rfl ?_
  refine AOps.cons (op_move (A := rd (ksl kGroup) l1) rfl rfl (vt rfl)) rfl ?_
  refine AOps.cons (op_build (ps := [(0, .tmp 7), (1, .tmp 8)]) (x := (⟨e2, l1, 0⟩ : norm_world)) rfl rfl rfl (by kernel_rfl) zr149 ⟨_, _, lnorm_world_0, _, by kernel_rfl, (vt rfl), _, _, lnorm_world_1, _, by kernel_rfl, (vt rfl), rfl⟩) rfl ?_
  refine AOps.cons (op_move (A := rd (ksl kAtom) a3) rfl rfl (vt rfl)) rfl ?_
  refine AOps.cons (op_call (xs := [.tmp 9, .tmp 10]) (c103 _ _ _ hx5) (Ent.mk Try.func103 rfl rfl) rfl rfl ⟨vt rfl, vt rfl, trivial⟩) rfl ?_
  refine AOps.cons (op_assign (A := rd (ksl kAtom) x5) rfl rfl (vt rfl)) rfl ?_
  refine AOps.nil ?_
  refine AW.ret ?_
  obtain rfl := Option.some.inj h
  exact ret1 Try.results56 rfl (out_tmp rfl)
-- weirbox/norm.Group
def F101 (l1 : (List Group)) (e2 : Env) (id3 : Int) (r4 : (Vector Tern 24)) : Option (List Atom) :=
  (F143 (⟨e2, l1, 0⟩ : norm_world) id3 r4).bind fun x7 => some x7
theorem c101 (l1 : (List Group)) (e2 : Env) (id3 : Int) (r4 : (Vector Tern 24)) (r : (List Atom)) (h : F101 l1 e2 id3 r4 = some r) : PCon Try.prog 101 [rd (ksl kGroup) l1, rd kEnv e2, rd (kint .i64) id3, rd (karr 24 kTern) r4] (rd (ksl kAtom) r) := by
  refine PCon.of (Con.intro0 Try.func101 rfl Try.ntmps101 rfl fun w H => ?_)
  unfold F101 at h
  refine AW.seq ?_
  refine AW.region ?_
  refine AOps.consT rfl (op_box 6 rfl rfl (vt rfl)) ?_
  rintro _ ⟨g5, rfl⟩
  refine AOps.consT rfl (op_box 8 rfl rfl (vt rfl)) ?_
  rintro _ ⟨g6, rfl⟩
  refine AOps.cons (op_assign (A := rd (ksl kAtom) []) rfl rfl vnil) rfl ?_
  refine AOps.nil ?_
  refine AW.seq ?_
  obtain ⟨x7, hx7, h⟩ := bsome h
  refine AW.region ?_
  refine AOps.cons (op_load rfl rfl ty31 (vt rfl) (i := 6) rfl) rfl ?_
  refine AOps.cons (op_move (A := rd (ksl kGroup) l1) rfl rfl (vt rfl)) rfl ?_
  refine AOps.cons (op_build (ps := [(0, .tmp 9), (1, .tmp 10)]) (x := (⟨e2, l1, 0⟩ : norm_world)) rfl rfl rfl (by kernel_rfl) zr149 ⟨_, _, lnorm_world_0, _, by kernel_rfl, (vt rfl), _, _, lnorm_world_1, _, by kernel_rfl, (vt rfl), rfl⟩) rfl ?_
  refine AOps.cons (op_move (A := rd (kint .i64) id3) rfl rfl (vt rfl)) rfl ?_
  refine AOps.cons (op_load rfl rfl ty95 (vt rfl) (i := 8) rfl) rfl ?_
  refine AOps.cons (op_call (xs := [.tmp 11, .tmp 12, .tmp 13]) (c143 _ _ _ _ hx7) (Ent.mk Try.func143 rfl rfl) rfl rfl ⟨vt rfl, vt rfl, vt rfl, trivial⟩) rfl ?_
  refine AOps.cons (op_assign (A := rd (ksl kAtom) x7) rfl rfl (vt rfl)) rfl ?_
  refine AOps.nil ?_
  refine AW.ret ?_
  obtain rfl := Option.some.inj h
  exact ret1 Try.results101 rfl (out_tmp rfl)
-- weirbox/weirboxlaw38.awake
def F55 : Option Bool :=
  (F56 [(⟨1, 1, [(⟨0, 0, 0, [(⟨0, 4, 0, 0, 0, zOxm⟩ : Action)]⟩ : Bucket), (⟨0, 0, 0, [(⟨0, 5, 0, 0, 0, zOxm⟩ : Action)]⟩ : Bucket)]⟩ : Group)] (⟨1, []⟩ : Env) [(⟨(Vector.replicate 24 zTern), true, 1, 0⟩ : Atom), (⟨(Vector.replicate 24 zTern), false, 6, 0⟩ : Atom)]).bind fun x1 => (opt (decide ((x1.length : Int) = 2)) (lget x1 0)).bind fun e2 => (opt ((decide ((x1.length : Int) = 2)) && (decide (e2.Port = 5))) (lget x1 0)).bind fun e3 => (opt (((decide ((x1.length : Int) = 2)) && (decide (e2.Port = 5))) && (!e3.Group)) (lget x1 1)).bind fun e4 => (opt ((((decide ((x1.length : Int) = 2)) && (decide (e2.Port = 5))) && (!e3.Group)) && (decide (e4.Port = 6))) (F102)).bind fun x5 => (opt ((((decide ((x1.length : Int) = 2)) && (decide (e2.Port = 5))) && (!e3.Group)) && (decide (e4.Port = 6))) (F101 [(⟨1, 1, [(⟨0, 0, 0, [(⟨0, 4, 0, 0, 0, zOxm⟩ : Action)]⟩ : Bucket), (⟨0, 0, 0, [(⟨0, 5, 0, 0, 0, zOxm⟩ : Action)]⟩ : Bucket)]⟩ : Group)] (⟨0, []⟩ : Env) 1 x5)).bind fun x6 => some (((((decide ((x1.length : Int) = 2)) && (decide (e2.Port = 5))) && (!e3.Group)) && (decide (e4.Port = 6))) && (decide ((x6.length : Int) = 1)))
theorem c55 (r : Bool) (h : F55 = some r) : PCon Try.prog 55 [] (rd kbool r) := by
  refine PCon.of (Con.intro0 Try.func55 rfl Try.ntmps55 rfl fun w H => ?_)
  unfold F55 at h
  refine AW.seq ?_
  refine AW.region ?_
  refine AOps.cons (op_assign (A := rd kbool false) rfl rfl vb) rfl ?_
  refine AOps.nil ?_
  refine AW.seq ?_
  refine AW.region ?_
  refine AOps.cons (op_build (ps := [(0, .const (Value.int IntKind.i64 0)), (1, .const (Value.int IntKind.i64 4))]) (x := (⟨0, 4, 0, 0, 0, zOxm⟩ : Action)) rfl rfl rfl (by kernel_rfl) zr82 ⟨_, _, lAction_0, _, by kernel_rfl, (vk rfl), _, _, lAction_1, _, by kernel_rfl, (vk rfl), rfl⟩) rfl ?_
  refine AOps.cons (op_buildSliceR (ps := [(0, .tmp 3)]) (l := [(⟨0, 4, 0, 0, 0, zOxm⟩ : Action)]) rfl rfl sl73 zr82 rfl rfl ⟨_, _, Lens.idx 1 kAction 0 (by decide), _, rfl, (vt rfl), rfl⟩ rfl) rfl ?_
  refine AOps.cons (op_build (ps := [(3, .tmp 4)]) (x := (⟨0, 0, 0, [(⟨0, 4, 0, 0, 0, zOxm⟩ : Action)]⟩ : Bucket)) rfl rfl rfl (by kernel_rfl) zr104 ⟨_, _, lBucket_3, _, by kernel_rfl, (vt rfl), rfl⟩) rfl ?_
  refine AOps.cons (op_build (ps := [(0, .const (Value.int IntKind.i64 0)), (1, .const (Value.int IntKind.i64 5))]) (x := (⟨0, 5, 0, 0, 0, zOxm⟩ : Action)) rfl rfl rfl (by kernel_rfl) zr82 ⟨_, _, lAction_0, _, by kernel_rfl, (vk rfl), _, _, lAction_1, _, by kernel_rfl, (vk rfl), rfl⟩) rfl ?_
  refine AOps.cons (op_buildSliceR (ps := [(0, .tmp 6)]) (l := [(⟨0, 5, 0, 0, 0, zOxm⟩ : Action)]) rfl rfl sl73 zr82 rfl rfl ⟨_, _, Lens.idx 1 kAction 0 (by decide), _, rfl, (vt rfl), rfl⟩ rfl) rfl ?_
  refine AOps.cons (op_build (ps := [(3, .tmp 7)]) (x := (⟨0, 0, 0, [(⟨0, 5, 0, 0, 0, zOxm⟩ : Action)]⟩ : Bucket)) rfl rfl rfl (by kernel_rfl) zr104 ⟨_, _, lBucket_3, _, by kernel_rfl, (vt rfl), rfl⟩) rfl ?_
  refine AOps.cons (op_buildSliceR (ps := [(0, .tmp 5), (1, .tmp 8)]) (l := [(⟨0, 0, 0, [(⟨0, 4, 0, 0, 0, zOxm⟩ : Action)]⟩ : Bucket), (⟨0, 0, 0, [(⟨0, 5, 0, 0, 0, zOxm⟩ : Action)]⟩ : Bucket)]) rfl rfl sl38 zr104 rfl rfl ⟨_, _, Lens.idx 2 kBucket 0 (by decide), _, rfl, (vt rfl), _, _, Lens.idx 2 kBucket 1 (by decide), _, rfl, (vt rfl), rfl⟩ rfl) rfl ?_
  refine AOps.cons (op_build (ps := [(0, .const (Value.int IntKind.i64 1)), (1, .const (Value.int IntKind.i64 1)), (2, .tmp 9)]) (x := (⟨1, 1, [(⟨0, 0, 0, [(⟨0, 4, 0, 0, 0, zOxm⟩ : Action)]⟩ : Bucket), (⟨0, 0, 0, [(⟨0, 5, 0, 0, 0, zOxm⟩ : Action)]⟩ : Bucket)]⟩ : Group)) rfl rfl rfl (by kernel_rfl) zr40 ⟨_, _, lGroup_0, _, by kernel_rfl, (vk rfl), _, _, lGroup_1, _, by kernel_rfl, (vk rfl), _, _, lGroup_2, _, by kernel_rfl, (vt rfl), rfl⟩) rfl ?_
  refine AOps.cons (op_buildSliceR (ps := [(0, .tmp 10)]) (l := [(⟨1, 1, [(⟨0, 0, 0, [(⟨0, 4, 0, 0, 0, zOxm⟩ : Action)]⟩ : Bucket), (⟨0, 0, 0, [(⟨0, 5, 0, 0, 0, zOxm⟩ : Action)]⟩ : Bucket)]⟩ : Group)]) rfl rfl sl22 zr40 rfl rfl ⟨_, _, Lens.idx 1 kGroup 0 (by decide), _, rfl, (vt rfl), rfl⟩ rfl) rfl ?_
  refine AOps.cons (op_assign (A := rd (ksl kGroup) [(⟨1, 1, [(⟨0, 0, 0, [(⟨0, 4, 0, 0, 0, zOxm⟩ : Action)]⟩ : Bucket), (⟨0, 0, 0, [(⟨0, 5, 0, 0, 0, zOxm⟩ : Action)]⟩ : Bucket)]⟩ : Group)]) rfl rfl (vt rfl)) rfl ?_
  refine AOps.nil ?_
  refine AW.seq ?_
  obtain ⟨x1, hx1, h⟩ := bsome h
  refine AW.region ?_
  refine AOps.cons (op_move (A := rd (ksl kGroup) [(⟨1, 1, [(⟨0, 0, 0, [(⟨0, 4, 0, 0, 0, zOxm⟩ : Action)]⟩ : Bucket), (⟨0, 0, 0, [(⟨0, 5, 0, 0, 0, zOxm⟩ : Action)]⟩ : Bucket)]⟩ : Group)]) rfl rfl (vt rfl)) rfl ?_
  refine AOps.cons (op_build (ps := [(0, .const (Value.int IntKind.i64 1))]) (x := (⟨1, []⟩ : Env)) rfl rfl rfl (by kernel_rfl) zr31 ⟨_, _, lEnv_0, _, by kernel_rfl, (vk rfl), rfl⟩) rfl ?_
  refine AOps.cons (op_build (ps := [(1, .const (Value.bool true)), (2, .const (Value.int IntKind.i64 1))]) (x := (⟨(Vector.replicate 24 zTern), true, 1, 0⟩ : Atom)) rfl rfl rfl (by kernel_rfl) zr97 ⟨_, _, lAtom_1, _, by kernel_rfl, vb, _, _, lAtom_2, _, by kernel_rfl, (vk rfl), rfl⟩) rfl ?_
  refine AOps.cons (op_build (ps := [(2, .const (Value.int IntKind.i64 6))]) (x := (⟨(Vector.replicate 24 zTern), false, 6, 0⟩ : Atom)) rfl rfl rfl (by kernel_rfl) zr97 ⟨_, _, lAtom_2, _, by kernel_rfl, (vk rfl), rfl⟩) rfl ?_
  refine AOps.cons (op_buildSliceR (ps := [(0, .tmp 14), (1, .tmp 15)]) (l := [(⟨(Vector.replicate 24 zTern), true, 1, 0⟩ : Atom), (⟨(Vector.replicate 24 zTern), false, 6, 0⟩ : Atom)]) rfl rfl sl57 zr97 rfl rfl ⟨_, _, Lens.idx 2 kAtom 0 (by decide), _, rfl, (vt rfl), _, _, Lens.idx 2 kAtom 1 (by decide), _, rfl, (vt rfl), rfl⟩ rfl) rfl ?_
  refine AOps.cons (op_call (xs := [.tmp 12, .tmp 13, .tmp 16]) (c56 _ _ _ _ hx1) (Ent.mk Try.func56 rfl rfl) rfl rfl ⟨vt rfl, vt rfl, vt rfl, trivial⟩) rfl ?_
  refine AOps.cons (op_assign (A := rd (ksl kAtom) x1) rfl rfl (vt rfl)) rfl ?_
  refine AOps.nil ?_
  refine AW.seq ?_
  obtain ⟨e2, he2, h⟩ := bsome h
  obtain ⟨e3, he3, h⟩ := bsome h
  obtain ⟨e4, he4, h⟩ := bsome h
  obtain ⟨x5, hx5, h⟩ := bsome h
  obtain ⟨x6, hx6, h⟩ := bsome h
  refine AW.region ?_
  refine AOps.cons (op_move (A := rd (ksl kAtom) x1) rfl rfl (vt rfl)) rfl ?_
  refine AOps.cons (op_len' rfl rfl sl57 (vt rfl)) rfl ?_
  refine AOps.cons (op_eql rfl rfl (vt rfl) (vk rfl)) rfl ?_
  refine AOps.cons (op_move (A := rd kbool (decide ((x1.length : Int) = 2))) rfl rfl (vt rfl)) rfl ?_
  refine AOps.consG (OpG.guard rfl rfl rfl rfl rfl fun hq => op_move (A := rd (ksl kAtom) x1) rfl rfl (vt rfl)) ?_
  refine AOps.consG (OpG.guard rfl rfl rfl rfl rfl fun hq => op_indexs' rfl rfl sl57 (vgt rfl hq) (vk rfl) (opt_t he2 hq)) ?_
  refine AOps.consG (OpG.guard rfl rfl rfl rfl rfl fun hq => op_fieldp lAtom_2 rfl rfl fl97_2 (vgt rfl hq)) ?_
  refine AOps.consG (OpG.guard rfl rfl rfl rfl rfl fun hq => op_loadp rfl rfl ty3 (vgt rfl hq)) ?_
  refine AOps.consG (OpG.guard rfl rfl rfl rfl rfl fun hq => op_eql rfl rfl (vgt rfl hq) (vk rfl)) ?_
  refine AOps.cons (op_all rfl rfl (vt rfl) (vt rfl)) rfl ?_
  refine AOps.cons (op_move (A := rd kbool ((decide ((x1.length : Int) = 2)) && (decide (e2.Port = 5)))) rfl rfl (vt rfl)) rfl ?_
  refine AOps.consG (OpG.guard rfl rfl rfl rfl rfl fun hq => op_move (A := rd (ksl kAtom) x1) rfl rfl (vt rfl)) ?_
  refine AOps.consG (OpG.guard rfl rfl rfl rfl rfl fun hq => op_indexs' rfl rfl sl57 (vgt rfl hq) (vk rfl) (opt_t he3 hq)) ?_
  refine AOps.consG (OpG.guard rfl rfl rfl rfl rfl fun hq => op_fieldp lAtom_1 rfl rfl fl97_1 (vgt rfl hq)) ?_
  refine AOps.consG (OpG.guard rfl rfl rfl rfl rfl fun hq => op_loadp rfl rfl ty4 (vgt rfl hq)) ?_
  refine AOps.consG (OpG.guard rfl rfl rfl rfl rfl fun hq => op_not rfl rfl (vgt rfl hq)) ?_
  refine AOps.cons (op_all rfl rfl (vt rfl) (vt rfl)) rfl ?_
  refine AOps.cons (op_move (A := rd kbool (((decide ((x1.length : Int) = 2)) && (decide (e2.Port = 5))) && (!e3.Group))) rfl rfl (vt rfl)) rfl ?_
  refine AOps.consG (OpG.guard rfl rfl rfl rfl rfl fun hq => op_move (A := rd (ksl kAtom) x1) rfl rfl (vt rfl)) ?_
  refine AOps.consG (OpG.guard rfl rfl rfl rfl rfl fun hq => op_indexs' rfl rfl sl57 (vgt rfl hq) (vk rfl) (opt_t he4 hq)) ?_
  refine AOps.consG (OpG.guard rfl rfl rfl rfl rfl fun hq => op_fieldp lAtom_2 rfl rfl fl97_2 (vgt rfl hq)) ?_
  refine AOps.consG (OpG.guard rfl rfl rfl rfl rfl fun hq => op_loadp rfl rfl ty3 (vgt rfl hq)) ?_
  refine AOps.consG (OpG.guard rfl rfl rfl rfl rfl fun hq => op_eql rfl rfl (vgt rfl hq) (vk rfl)) ?_
  refine AOps.cons (op_all rfl rfl (vt rfl) (vt rfl)) rfl ?_
  refine AOps.cons (op_move (A := rd kbool ((((decide ((x1.length : Int) = 2)) && (decide (e2.Port = 5))) && (!e3.Group)) && (decide (e4.Port = 6)))) rfl rfl (vt rfl)) rfl ?_
  refine AOps.consG (OpG.guard rfl rfl rfl rfl rfl fun hq => op_move (A := rd (ksl kGroup) [(⟨1, 1, [(⟨0, 0, 0, [(⟨0, 4, 0, 0, 0, zOxm⟩ : Action)]⟩ : Bucket), (⟨0, 0, 0, [(⟨0, 5, 0, 0, 0, zOxm⟩ : Action)]⟩ : Bucket)]⟩ : Group)]) rfl rfl (vt rfl)) ?_
  refine AOps.consG (OpG.guard rfl rfl rfl rfl rfl fun hq => op_build (ps := []) (x := (⟨0, []⟩ : Env)) rfl rfl rfl (by kernel_rfl) zr31 rfl) ?_
  refine AOps.consG (OpG.guard rfl rfl rfl rfl rfl fun hq => op_call (xs := []) (c102 _ (opt_t hx5 hq)) (Ent.mk Try.func102 rfl rfl) rfl rfl trivial) ?_
  refine AOps.consG (OpG.guard rfl rfl rfl rfl rfl fun hq => op_call (xs := [.tmp 43, .tmp 44, .const (Value.int IntKind.i64 1), .tmp 45]) (c101 _ _ _ _ _ (opt_t hx6 hq)) (Ent.mk Try.func101 rfl rfl) rfl rfl ⟨vgt rfl hq, vgt rfl hq, vk rfl, vgt rfl hq, trivial⟩) ?_
  refine AOps.consG (OpG.guard rfl rfl rfl rfl rfl fun hq => op_len' rfl rfl sl57 (vgt rfl hq)) ?_
  refine AOps.consG (OpG.guard rfl rfl rfl rfl rfl fun hq => op_eql rfl rfl (vgt rfl hq) (vk rfl)) ?_
  refine AOps.cons (op_all rfl rfl (vt rfl) (vt rfl)) rfl ?_
  refine AOps.cons (op_assign (A := rd kbool (((((decide ((x1.length : Int) = 2)) && (decide (e2.Port = 5))) && (!e3.Group)) && (decide (e4.Port = 6))) && (decide ((x6.length : Int) = 1)))) rfl rfl (vt rfl)) rfl ?_
  refine AOps.nil ?_
  refine AW.ret ?_
  obtain rfl := Option.some.inj h
  exact ret1 Try.results55 rfl (out_tmp rfl)
end Go.Proofs.Ytokmmcflinnfiaa.W
