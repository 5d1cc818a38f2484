/- A part of the proof. -/
import Derived.Test.YtknpgojdkobgjaaG1
set_option linter.unusedVariables false
set_option maxRecDepth 4000
set_option linter.unusedSimpArgs false
namespace Go.Proofs.Ytknpgojdkobgjaa.W
open Go Go.Wb
def F_rewrite_Then (a1 : (Vector Tern 24)) (b2 : (Vector Tern 24)) : Option (Vector Tern 24) :=
  (F_rewrite_each_Rewrite (fun x => F_rewrite_Then_1 x a1 b2)).bind fun x6 => some x6
theorem c_rewrite_Then (a1 : (Vector Tern 24)) (b2 : (Vector Tern 24)) (r : (Vector Tern 24)) (h : F_rewrite_Then a1 b2 = some r) : PCon Try.prog 145 [rd (karr 24 kTern) a1, rd (karr 24 kTern) b2] (rd (karr 24 kTern) r) := by
  refine PCon.of (Con.intro0 Try.func145 rfl Try.ntmps145 rfl fun w H => ?_)
  unfold F_rewrite_Then at h
  refine AW.seq ?_
  refine AW.region ?_
  refine AOps.consT rfl (op_box 3 rfl rfl (vt rfl)) ?_
  rintro _ ⟨g3, rfl⟩
  refine AOps.consT rfl (op_box 4 rfl rfl (vt rfl)) ?_
  rintro _ ⟨g4, rfl⟩
  refine AOps.consT rfl (op_alloc 5 rfl rfl zr51) ?_
  rintro _ ⟨g5, rfl⟩
  refine AOps.nil ?_
  refine AW.seq ?_
  refine AW.freezeB 2 3 rfl rfl rfl ?_
  refine AW.freezeB 3 4 rfl rfl rfl ?_
  obtain ⟨x6, hx6, h⟩ := bsome h
  refine AW.region ?_
  refine AOps.cons (op_fn1 (cs := [.tmp 2, .tmp 3]) (CAs := [rp (karr 24 kTern) a1, rp (karr 24 kTern) b2]) (fun x => F_rewrite_Then_1 x a1 b2) rfl rfl (Ent.mk Try.func148 rfl rfl) ⟨vt rfl, vt rfl, trivial⟩ (fun x y h => c_rewrite_Then_1 _ _ _ y h)) rfl ?_
  refine AOps.cons (op_call (xs := [.tmp 5]) (c_rewrite_each_Rewrite _ _ hx6) (Ent.mk Try.func120 rfl rfl) rfl rfl ⟨vt rfl, trivial⟩) rfl ?_
  refine AOps.cons (op_store rfl rfl ty51 (vt rfl) (i := 5) rfl (vt rfl)) rfl ?_
  refine AOps.nil ?_
  refine AW.ret ?_
  obtain rfl := Option.some.inj h
  exact ret1 Try.results145 rfl (out_cell rfl (i := 5) rfl ty51)
def F_atom_trace_do_j1 (t1 : atom_trace) (b7 : Atom) : Option atom_trace :=
  (appd t1.atoms [b7]).bind fun l8 => some (⟨t1.got, l8⟩ : atom_trace)
def F_atom_trace_do (t1 : atom_trace) (a4 : Action) : Option atom_trace :=
  (bif (decide (a4.Kind = 0)) then (bif (decide (a4.Port = 4294967293)) then F_atom_trace_do_j1 t1 { { (⟨t1.got, false, 0, 0⟩ : Atom) with Port := a4.Port } with Max := a4.Max } else F_atom_trace_do_j1 t1 { (⟨t1.got, false, 0, 0⟩ : Atom) with Port := a4.Port }) else (bif (decide (a4.Kind = 22)) then F_atom_trace_do_j1 t1 { { (⟨t1.got, false, 0, 0⟩ : Atom) with Group := true } with Port := a4.Group } else (F_aset_Rewrite a4).bind fun x10 => (F_rewrite_Then t1.got x10).bind fun x11 => some (⟨x11, t1.atoms⟩ : atom_trace)))
theorem c_atom_trace_do (g2 : Nat) (t1 : atom_trace) (a4 : Action) (r : atom_trace) (h : F_atom_trace_do t1 a4 = some r) : Con Try.prog 136 [ptrL g2 (Lens.id katom_trace_o1), rd kAction a4] (BoxF g2 191 katom_trace_o1 (fun v => (⟨t1.got, v⟩ : atom_trace_o1)) 53 kAtom t1.atoms) (fun _ : Unit => top) (fun _ => BoxF g2 191 katom_trace_o1 (fun v => (⟨r.got, v⟩ : atom_trace_o1)) 53 kAtom r.atoms) := by
  refine Con.intro Try.func136 rfl Try.ntmps136 rfl fun w H X => ?_
  unfold F_atom_trace_do at h
  refine AW.unboxF 0 2001 (by decide) rfl rfl fun v3 => ?_
  refine AW.seq ?_
  refine AW.region ?_
  refine AOps.consT rfl (op_box 4 rfl rfl (vt rfl)) ?_
  rintro _ ⟨g5, rfl⟩
  refine AOps.nil ?_
  refine AW.seq ?_
  refine AW.region ?_
  refine AOps.cons (op_move (A := ptrL g2 (Lens.id katom_trace_o1)) rfl rfl (vt rfl)) rfl ?_
  refine AOps.cons (op_nilCheck rfl rfl (vt rfl)) rfl ?_
  refine AOps.cons (op_field latom_trace_o1_0 rfl rfl flv191_0_1 (vt rfl)) rfl ?_
  refine AOps.cons (op_load rfl rfl ty51 (vt rfl) (i := 0) rfl) rfl ?_
  refine AOps.cons (op_build (ps := [(0, .tmp 8)]) (x := (⟨t1.got, false, 0, 0⟩ : Atom)) rfl rfl rfl (by kernel_rfl) zr53 ⟨_, _, lAtom_0, _, by kernel_rfl, (vt rfl), rfl⟩) rfl ?_
  refine AOps.consT rfl (op_alloc 5 rfl rfl zr53) ?_
  rintro _ ⟨g6, rfl⟩
  refine AOps.cons (op_store rfl rfl ty53 (vt rfl) (i := 5) rfl (vt rfl)) rfl ?_
  refine AOps.nil ?_
  refine AW.join (d := []) (ν := Atom) (fun n => F_atom_trace_do_j1 t1 n = some r) (fun n => [(0, ptrL g2 (Lens.id katom_trace_o1)), (4, ptrL g6 (Lens.id kAtom))]) (fun n => [(0, Blk g2 191 katom_trace_o1 (⟨t1.got, v3⟩ : atom_trace_o1)), (5, Blk g6 53 kAtom n), (2001, Row v3 53 kAtom t1.atoms)]) ?hx1 ?hy1
  case hy1 =>
    intro b7 h
    unfold F_atom_trace_do_j1 at h
    change AW _ _ _ ⟨slots [(0, ptrL g2 (Lens.id katom_trace_o1)), (4, ptrL g6 (Lens.id kAtom))], ress [(0, Blk g2 191 katom_trace_o1 (⟨t1.got, v3⟩ : atom_trace_o1)), (5, Blk g6 53 kAtom b7), (2001, Row v3 53 kAtom t1.atoms)], _⟩
    obtain ⟨l8, hl8, h⟩ := bsome h
    refine AW.endT ?_
    refine AW.regionAny [⟨[0], [39], [], []⟩, ⟨[0], [40], [], []⟩, ⟨[40], [41], [], []⟩, ⟨[41], [42], [], []⟩, ⟨[42], [43], [0], []⟩, ⟨[4], [44], [5], []⟩, ⟨[44], [45], [], []⟩, ⟨[43, 45], [46], [2001], [2001]⟩, ⟨[39], [47], [], []⟩, ⟨[47], [48], [], []⟩, ⟨[48, 46], [46], [0], [0]⟩] mixed (by kernel_rfl) ?_
    refine SeqA.cons (loc [0] [] rfl rfl fun S hs hr => op_move (A := ptrL g2 (Lens.id katom_trace_o1)) rfl rfl (vt ((hs 0 rfl).trans rfl))) ⟨rfl, rfl, rfl, rfl⟩ ?_
    refine SeqA.cons (loc [0] [] rfl rfl fun S hs hr => op_move (A := ptrL g2 (Lens.id katom_trace_o1)) rfl rfl (vt ((hs 0 rfl).trans rfl))) ⟨rfl, rfl, rfl, rfl⟩ ?_
    refine SeqA.cons (loc [40] [] rfl rfl fun S hs hr => op_nilCheck rfl rfl (vt ((hs 40 rfl).trans rfl))) ⟨rfl, rfl, rfl, rfl⟩ ?_
    refine SeqA.cons (loc [41] [] rfl rfl fun S hs hr => op_field latom_trace_o1_1 rfl rfl flv191_1_1 (vt ((hs 41 rfl).trans rfl))) ⟨rfl, rfl, rfl, rfl⟩ ?_
    refine SeqA.cons (loc [42] [0] rfl rfl fun S hs hr => op_loadv v3 rfl rfl tyr44 (vt ((hs 42 rfl).trans rfl)) (i := 0) ((hr 0 rfl).trans rfl) rfl) ⟨rfl, rfl, rfl, rfl⟩ ?_
    refine SeqA.cons (loc [4] [5] rfl rfl fun S hs hr => op_load rfl rfl ty53 (vt ((hs 4 rfl).trans rfl)) (i := 5) ((hr 5 rfl).trans rfl)) ⟨rfl, rfl, rfl, rfl⟩ ?_
    refine SeqA.cons (loc [44] [] rfl rfl fun S hs hr => op_buildSliceR (ps := [(0, .tmp 44)]) (l := [b7]) rfl rfl sl44 zr53 rfl rfl ⟨_, _, Lens.idx 1 kAtom 0 (by decide), _, rfl, (vt ((hs 44 rfl).trans rfl)), rfl⟩ rfl) ⟨rfl, rfl, rfl, rfl⟩ ?_
    refine SeqA.cons (locs (us := [(46, ownR 53 kAtom l8)]) (ur := [(2001, emp)]) [43, 45] [2001] rfl fun S hs hr => op_appendO 2001 hl8 rfl rfl rfl el44 (vt ((hs 43 rfl).trans rfl)) ((hr 2001 rfl).trans rfl) (vt ((hs 45 rfl).trans rfl))) ⟨rfl, rfl, rfl, rfl⟩ ?_
    refine SeqA.cons (loc [39] [] rfl rfl fun S hs hr => op_nilCheck rfl rfl (vt ((hs 39 rfl).trans rfl))) ⟨rfl, rfl, rfl, rfl⟩ ?_
    refine SeqA.cons (loc [47] [] rfl rfl fun S hs hr => op_field latom_trace_o1_1 rfl rfl flv191_1_1 (vt ((hs 47 rfl).trans rfl))) ⟨rfl, rfl, rfl, rfl⟩ ?_
    refine SeqA.cons (locs (us := [(46, top)]) (ur := [(0, BoxF g2 191 katom_trace_o1 (fun v => ((Lens.comp (Lens.id katom_trace_o1) latom_trace_o1_1)).set (⟨t1.got, v3⟩ : atom_trace_o1) v) 53 kAtom l8)]) [48, 46] [0] rfl fun S hs hr => op_storeR rfl rfl tyr44 (vt ((hs 48 rfl).trans rfl)) ((hr 0 rfl).trans rfl) ((hs 46 rfl).trans rfl)) ⟨rfl, rfl, rfl, rfl⟩ ?_
    refine EndT.unboxF 0 2001 (by decide) rfl rfl fun v9 => ?_
    refine EndT.done ?_
    obtain rfl := Option.some.inj h
    exact RetOK.turn (Turn.packF 0 2001 (fun v => (⟨t1.got, v⟩ : atom_trace_o1)) (by decide) rfl rfl) (ret0Y (i := 0) Try.results136 rfl rfl)
  case hx1 =>
    refine AW.seq ?_
    refine AW.region ?_
    refine AOps.cons (op_field lAction_0 rfl rfl fl95_0 (vt rfl)) rfl ?_
    refine AOps.cons (op_load rfl rfl ty3 (vt rfl) (i := 4) rfl) rfl ?_
    refine AOps.nil ?_
    refine AW.block ?_
    refine AW.seq ?_
    refine AW.region ?_
    refine AOps.cons (op_eql rfl rfl (vt rfl) (vk rfl)) rfl ?_
    refine AOps.cons (op_assign (A := rd kbool (decide (a4.Kind = 0))) rfl rfl (vt rfl)) rfl ?_
    refine AOps.nil ?_
    refine AW.cond (vt rfl) (fun hc => ?_) (fun hc => ?_)
    · have h := cond_t hc h
      refine AW.seq ?_
      refine AW.region ?_
      refine AOps.cons (op_field lAction_1 rfl rfl fl95_1 (vt rfl)) rfl ?_
      refine AOps.cons (op_load rfl rfl ty3 (vt rfl) (i := 4) rfl) rfl ?_
      refine AOps.cons (op_field lAtom_2 rfl rfl fl53_2 (vt rfl)) rfl ?_
      refine AOps.cons (op_store rfl rfl ty3 (vt rfl) (i := 5) rfl (vt rfl)) rfl ?_
      refine AOps.nil ?_
      refine AW.seq ?_
      refine AW.region ?_
      refine AOps.cons (op_field lAction_1 rfl rfl fl95_1 (vt rfl)) rfl ?_
      refine AOps.cons (op_load rfl rfl ty3 (vt rfl) (i := 4) rfl) rfl ?_
      refine AOps.cons (op_eql rfl rfl (vt rfl) (vk rfl)) rfl ?_
      refine AOps.nil ?_
      refine AW.cond (vt rfl) (fun hc => ?_) (fun hc => ?_)
      · have h := cond_t hc h
        refine AW.region ?_
        refine AOps.cons (op_field lAction_2 rfl rfl fl95_2 (vt rfl)) rfl ?_
        refine AOps.cons (op_load rfl rfl ty3 (vt rfl) (i := 4) rfl) rfl ?_
        refine AOps.cons (op_field lAtom_3 rfl rfl fl53_3 (vt rfl)) rfl ?_
        refine AOps.cons (op_store rfl rfl ty3 (vt rfl) (i := 5) rfl (vt rfl)) rfl ?_
        refine AOps.nil ?_
        exact ⟨{ { (⟨t1.got, false, 0, 0⟩ : Atom) with Port := a4.Port } with Max := a4.Max }, h, ⟨rfl, ⟨rfl, rfl, trivial⟩, ⟨rfl, rfl, rfl, trivial⟩⟩⟩
      · have h := cond_f hc h
        refine AW.skip ?_
        exact ⟨{ (⟨t1.got, false, 0, 0⟩ : Atom) with Port := a4.Port }, h, ⟨rfl, ⟨rfl, rfl, trivial⟩, ⟨rfl, rfl, rfl, trivial⟩⟩⟩
    · have h := cond_f hc h
      refine AW.seq ?_
      refine AW.region ?_
      refine AOps.cons (op_eql rfl rfl (vt rfl) (vk rfl)) rfl ?_
      refine AOps.cons (op_assign (A := rd kbool (decide (a4.Kind = 22))) rfl rfl (vt rfl)) rfl ?_
      refine AOps.nil ?_
      refine AW.cond (vt rfl) (fun hc => ?_) (fun hc => ?_)
      · have h := cond_t hc h
        refine AW.regionAny [⟨[3], [35], [], []⟩, ⟨[35], [36], [4], []⟩, ⟨[4], [37], [], []⟩, ⟨[37], [], [5], [5]⟩, ⟨[4], [38], [], []⟩, ⟨[38, 36], [], [5], [5]⟩] mixed (by kernel_rfl) ?_
        refine SeqA.cons (loc [3] [] rfl rfl fun S hs hr => op_field lAction_3 rfl rfl fl95_3 (vt ((hs 3 rfl).trans rfl))) ⟨rfl, rfl, rfl, rfl⟩ ?_
        refine SeqA.cons (loc [35] [4] rfl rfl fun S hs hr => op_load rfl rfl ty3 (vt ((hs 35 rfl).trans rfl)) (i := 4) ((hr 4 rfl).trans rfl)) ⟨rfl, rfl, rfl, rfl⟩ ?_
        refine SeqA.cons (loc [4] [] rfl rfl fun S hs hr => op_field lAtom_1 rfl rfl fl53_1 (vt ((hs 4 rfl).trans rfl))) ⟨rfl, rfl, rfl, rfl⟩ ?_
        refine SeqA.cons (locr [37] [5] rfl fun S hs hr => op_store rfl rfl ty4 (vt ((hs 37 rfl).trans rfl)) (i := 5) ((hr 5 rfl).trans rfl) vb) ⟨rfl, rfl, rfl, rfl⟩ ?_
        refine SeqA.cons (loc [4] [] rfl rfl fun S hs hr => op_field lAtom_2 rfl rfl fl53_2 (vt ((hs 4 rfl).trans rfl))) ⟨rfl, rfl, rfl, rfl⟩ ?_
        refine SeqA.cons (locr [38, 36] [5] rfl fun S hs hr => op_store rfl rfl ty3 (vt ((hs 38 rfl).trans rfl)) (i := 5) ((hr 5 rfl).trans rfl) (vt ((hs 36 rfl).trans rfl))) ⟨rfl, rfl, rfl, rfl⟩ ?_
        exact ⟨{ { (⟨t1.got, false, 0, 0⟩ : Atom) with Group := true } with Port := a4.Group }, h, ⟨rfl, ⟨rfl, rfl, trivial⟩, ⟨rfl, rfl, rfl, trivial⟩⟩⟩
      · have h := cond_f hc h
        refine AW.seq ?_
        obtain ⟨x10, hx10, h⟩ := bsome h
        obtain ⟨x11, hx11, h⟩ := bsome h
        refine AW.regionAny [⟨[0], [12], [], []⟩, ⟨[0], [13], [], []⟩, ⟨[13], [14], [], []⟩, ⟨[14], [15], [], []⟩, ⟨[15], [16], [0], []⟩, ⟨[3], [17], [4], []⟩, ⟨[17], [18], [], []⟩, ⟨[16, 18], [19], [], []⟩, ⟨[12], [20], [], []⟩, ⟨[20], [21], [], []⟩, ⟨[21, 19], [], [0], [0]⟩] mixed (by kernel_rfl) ?_
        refine SeqA.cons (loc [0] [] rfl rfl fun S hs hr => op_move (A := ptrL g2 (Lens.id katom_trace_o1)) rfl rfl (vt ((hs 0 rfl).trans rfl))) ⟨rfl, rfl, rfl, rfl⟩ ?_
        refine SeqA.cons (loc [0] [] rfl rfl fun S hs hr => op_move (A := ptrL g2 (Lens.id katom_trace_o1)) rfl rfl (vt ((hs 0 rfl).trans rfl))) ⟨rfl, rfl, rfl, rfl⟩ ?_
        refine SeqA.cons (loc [13] [] rfl rfl fun S hs hr => op_nilCheck rfl rfl (vt ((hs 13 rfl).trans rfl))) ⟨rfl, rfl, rfl, rfl⟩ ?_
        refine SeqA.cons (loc [14] [] rfl rfl fun S hs hr => op_field latom_trace_o1_0 rfl rfl flv191_0_1 (vt ((hs 14 rfl).trans rfl))) ⟨rfl, rfl, rfl, rfl⟩ ?_
        refine SeqA.cons (loc [15] [0] rfl rfl fun S hs hr => op_load rfl rfl ty51 (vt ((hs 15 rfl).trans rfl)) (i := 0) ((hr 0 rfl).trans rfl)) ⟨rfl, rfl, rfl, rfl⟩ ?_
        refine SeqA.cons (loc [3] [4] rfl rfl fun S hs hr => op_load rfl rfl ty95 (vt ((hs 3 rfl).trans rfl)) (i := 4) ((hr 4 rfl).trans rfl)) ⟨rfl, rfl, rfl, rfl⟩ ?_
        refine SeqA.cons (loc [17] [] rfl rfl fun S hs hr => op_call (xs := [.tmp 17]) (c_aset_Rewrite _ _ hx10) (Ent.mk Try.func107 rfl rfl) rfl rfl ⟨vt ((hs 17 rfl).trans rfl), trivial⟩) ⟨rfl, rfl, rfl, rfl⟩ ?_
        refine SeqA.cons (loc [16, 18] [] rfl rfl fun S hs hr => op_call (xs := [.tmp 16, .tmp 18]) (c_rewrite_Then _ _ _ hx11) (Ent.mk Try.func145 rfl rfl) rfl rfl ⟨vt ((hs 16 rfl).trans rfl), vt ((hs 18 rfl).trans rfl), trivial⟩) ⟨rfl, rfl, rfl, rfl⟩ ?_
        refine SeqA.cons (loc [12] [] rfl rfl fun S hs hr => op_nilCheck rfl rfl (vt ((hs 12 rfl).trans rfl))) ⟨rfl, rfl, rfl, rfl⟩ ?_
        refine SeqA.cons (loc [20] [] rfl rfl fun S hs hr => op_field latom_trace_o1_0 rfl rfl flv191_0_1 (vt ((hs 20 rfl).trans rfl))) ⟨rfl, rfl, rfl, rfl⟩ ?_
        refine SeqA.cons (locr [21, 19] [0] rfl fun S hs hr => op_store rfl rfl ty51 (vt ((hs 21 rfl).trans rfl)) (i := 0) ((hr 0 rfl).trans rfl) (vt ((hs 19 rfl).trans rfl))) ⟨rfl, rfl, rfl, rfl⟩ ?_
        refine AW.ret ?_
        obtain rfl := Option.some.inj h
        exact RetOK.turn (Turn.packF 0 2001 (fun v => (⟨x11, v⟩ : atom_trace_o1)) (by decide) rfl rfl) (ret0Y (i := 0) Try.results136 rfl rfl)
def F_atom_each_Action_l1 (sg : Type) (do2 : (sg → Action → Option sg)) : (List Action) → Nat → sg → Option sg
  | [], i6, s5 => some s5
  | x8 :: l7, i6, s5 => (do2 s5 x8).bind fun s10 => (F_atom_each_Action_l1 sg do2 l7) (i6 + 1) s10
def F_atom_each_Action (l1 : (List Action)) (sg : Type) (do2 : (sg → Action → Option sg)) (s3 : sg) : Option sg :=
  F_atom_each_Action_l1 sg do2 l1 0 s3
theorem c_atom_each_Action (l1 : (List Action)) (sg : Type) (do2 : (sg → Action → Option sg)) (L : sg → Res) (s3 : sg) (r : sg) (h : F_atom_each_Action l1 sg do2 s3 = some r) : Con Try.prog 135 [rd (ksl kAction) l1, stA Try.prog kAction do2 L] (L s3) (fun _ : Unit => top) (fun _ => L r) := by
  refine Con.intro Try.func135 rfl Try.ntmps135 rfl fun w H X => ?_
  unfold F_atom_each_Action at h
  refine AW.seq ?_
  refine AW.region ?_
  refine AOps.cons (op_move (A := rd (ksl kAction) l1) rfl rfl (vt rfl)) rfl ?_
  refine AOps.cons (op_len' rfl rfl sl66 (vt rfl)) rfl ?_
  refine AOps.cons (op_move (A := rd (kint .i64) 0) rfl rfl (vk rfl)) rfl ?_
  refine AOps.nil ?_
  refine AW.block ?_
  refine AW.loopG (d := []) (ν := (List Action) × Nat × sg) (fun n => Sfx l1 n.2.1 n.1 ∧ F_atom_each_Action_l1 sg do2 n.1 n.2.1 n.2.2 = some r) (fun n => n.1.length) (fun n => [(1, stA Try.prog kAction do2 L), (6, rd (ksl kAction) l1), (7, rd (kint .i64) (l1.length : Int)), (8, rd (kint .i64) (n.2.1 : Int))]) (fun n => [(0, L n.2.2)]) (l1, 0, s3) ⟨Sfx.start _, h⟩ ⟨rfl, ⟨rfl, rfl, rfl, rfl, trivial⟩, ⟨rfl, trivial⟩⟩ ?_
  rintro ⟨l7, i6, s5⟩ ⟨hsf1, h⟩
  change Sfx l1 i6 l7 at hsf1
  change F_atom_each_Action_l1 sg do2 l7 i6 s5 = some r at h
  change AW _ _ _ ⟨slots [(1, stA Try.prog kAction do2 L), (6, rd (ksl kAction) l1), (7, rd (kint .i64) (l1.length : Int)), (8, rd (kint .i64) (i6 : Int))], ress [(0, L s5)], _⟩
  cases l7 with
  | nil =>
    unfold F_atom_each_Action_l1 at h
    refine AW.seq ?_
    refine AW.region ?_
    refine AOps.cons (op_lss rfl rfl (vt rfl) (vt rfl)) rfl ?_
    refine AOps.nil ?_
    refine AW.seq ?_
    refine AW.cond (vt rfl) (fun hc => absurd (of_decide_eq_true hc) hsf1.nil) (fun hc => ?_)
    refine AW.exit ?_
    obtain rfl := Option.some.inj h
    exact ret0Y (i := 0) Try.results135 rfl rfl
  | cons x8 l7 =>
    unfold F_atom_each_Action_l1 at h
    generalize hgo1 : F_atom_each_Action_l1 sg do2 l7 = go1 at h
    refine AW.seq ?_
    refine AW.region ?_
    refine AOps.cons (op_lss rfl rfl (vt rfl) (vt rfl)) rfl ?_
    refine AOps.nil ?_
    refine AW.seq ?_
    refine AW.cond (vt rfl) (fun hc => ?_) (fun hc => absurd hsf1.cons (of_decide_eq_false hc))
    have hlti6 := of_decide_eq_true hc
    refine AW.skip ?_
    refine AW.seq ?_
    refine AW.block ?_
    refine AW.seq ?_
    refine AW.region ?_
    refine AOps.cons (op_indexs' rfl rfl sl66 (vt rfl) (vt rfl) hsf1.lget) rfl ?_
    refine AOps.cons (op_loadp rfl rfl ty95 (vt rfl)) rfl ?_
    refine AOps.consT rfl (op_alloc 6 rfl rfl zr95) ?_
    rintro _ ⟨g9, rfl⟩
    refine AOps.cons (op_store rfl rfl ty95 (vt rfl) (i := 6) rfl (vt rfl)) rfl ?_
    refine AOps.nil ?_
    obtain ⟨s10, hs10, h⟩ := bsome h
    refine AW.region ?_
    refine AOps.cons (op_move (A := stA Try.prog kAction do2 L) rfl rfl (vt rfl)) rfl ?_
    refine AOps.cons (op_load rfl rfl ty95 (vt rfl) (i := 6) rfl) rfl ?_
    refine AOps.cons (op_callst 0 hs10 rfl rfl (vt rfl) (vt rfl) rfl) rfl ?_
    refine AOps.nil ?_
    refine AW.region ?_
    refine AOps.cons (op_incr (t := 7) rfl rfl (vt rfl) (vk rfl) (vt rfl) hlti6) rfl ?_
    refine AOps.cons (op_move (A := rd (kint .i64) ((i6 + 1 : Nat) : Int)) rfl rfl (vt rfl)) rfl ?_
    refine AOps.nil ?_
    subst hgo1
    exact ⟨(l7, i6 + 1, s10), Nat.lt_succ_self _, ⟨hsf1.next, h⟩, ⟨rfl, ⟨rfl, rfl, rfl, rfl, trivial⟩, ⟨rfl, trivial⟩⟩⟩
def F_atom_Do (acts1 : (List Action)) (r2 : (Vector Tern 24)) : Option ((List Atom) × (Vector Tern 24)) :=
  (F_rewrite_Clean r2).bind fun x5 => (F_atom_each_Action acts1 atom_trace (fun s x => F_atom_trace_do s x) (⟨x5, []⟩ : atom_trace)).bind fun b7 => some (b7.atoms, b7.got)
theorem c_atom_Do (acts1 : (List Action)) (r2 : (Vector Tern 24)) (r : ((List Atom) × (Vector Tern 24))) (h : F_atom_Do acts1 r2 = some r) : PCon Try.prog 119 [rd (ksl kAction) acts1, rd (karr 24 kTern) r2] (tup2 (rd (ksl kAtom) r.1) (rd (karr 24 kTern) r.2)) := by
  refine PCon.of (Con.intro0 Try.func119 rfl Try.ntmps119 rfl fun w H => ?_)
  unfold F_atom_Do at h
  refine AW.seq ?_
  refine AW.region ?_
  refine AOps.consT rfl (op_box 4 rfl rfl (vt rfl)) ?_
  rintro _ ⟨g3, rfl⟩
  refine AOps.cons (op_assign (A := rd (ksl kAtom) []) rfl rfl vnil) rfl ?_
  refine AOps.consT rfl (op_alloc 6 rfl rfl zr51) ?_
  rintro _ ⟨g4, rfl⟩
  refine AOps.nil ?_
  refine AW.seq ?_
  refine AW.newnil 2221 53 kAtom ?_
  obtain ⟨x5, hx5, h⟩ := bsome h
  refine AW.region ?_
  refine AOps.cons (op_load rfl rfl ty51 (vt rfl) (i := 4) rfl) rfl ?_
  refine AOps.cons (op_call (xs := [.tmp 7]) (c_rewrite_Clean _ _ hx5) (Ent.mk Try.func81 rfl rfl) rfl rfl ⟨vt rfl, trivial⟩) rfl ?_
  refine AOps.cons (op_build (ps := [(0, .tmp 8)]) (x := (⟨x5, (.slice none 0 0)⟩ : atom_trace_o1)) rfl rfl rfl (by kernel_rfl) zrv191_1 ⟨_, _, latom_trace_o1_0, _, by kernel_rfl, (vt rfl), rfl⟩) rfl ?_
  refine AOps.consT rfl (op_box 11 rfl rfl (vt rfl)) ?_
  rintro _ ⟨g6, rfl⟩
  refine AOps.cons (op_assign (A := ptrL g6 (Lens.id katom_trace_o1)) rfl rfl (vt rfl)) rfl ?_
  refine AOps.nil ?_
  refine AW.seq ?_
  obtain ⟨b7, hb7, h⟩ := bsome h
  refine AW.region ?_
  refine AOps.cons (op_move (A := rd (ksl kAction) acts1) rfl rfl (vt rfl)) rfl ?_
  refine AOps.cons (op_move (A := ptrL g6 (Lens.id katom_trace_o1)) rfl rfl (vt rfl)) rfl ?_
  refine AOps.cons (op_st (fs := [.tmp 12]) (cs := []) (FAs := [ptrL g6 (Lens.id katom_trace_o1)]) (CAs := []) (k := kAction) (fun s x => F_atom_trace_do s x) (fun (s : atom_trace) => BoxF g6 191 katom_trace_o1 (fun v => (⟨s.got, v⟩ : atom_trace_o1)) 53 kAtom s.atoms) rfl rfl (Ent.mk Try.func136 rfl rfl) ⟨vt rfl, trivial⟩ trivial (fun s x s2 h => c_atom_trace_do  _ s x s2 h)) rfl ?_
  refine AOps.packF 11 2221 (fun v => (⟨x5, v⟩ : atom_trace_o1)) (by decide) rfl rfl ?_
  refine AOps.consT rfl (op_callR 11 (xs := [.tmp 11, .tmp 13]) (c_atom_each_Action _ atom_trace _ (fun (s : atom_trace) => BoxF g6 191 katom_trace_o1 (fun v => (⟨s.got, v⟩ : atom_trace_o1)) 53 kAtom s.atoms) _ _ hb7) (Ent.mk Try.func135 rfl rfl) rfl rfl ⟨vt rfl, vt rfl, trivial⟩ rfl) ?_
  rintro _ ⟨_u, rfl⟩
  refine AOps.unboxF 11 2221 (by decide) rfl rfl fun v8 => ?_
  refine AOps.nil ?_
  refine AW.seq ?_
  refine AW.regionAny [⟨[6], [15], [], []⟩, ⟨[15], [16], [], []⟩, ⟨[16], [17], [], []⟩, ⟨[17], [18], [11], []⟩, ⟨[6], [19], [], []⟩, ⟨[19], [20], [], []⟩, ⟨[20], [21], [], []⟩, ⟨[21], [22], [11], []⟩, ⟨[18], [4], [], []⟩, ⟨[5, 22], [], [6], [6]⟩] mixed (by kernel_rfl) ?_
  refine SeqA.cons (loc [6] [] rfl rfl fun S hs hr => op_move (A := ptrL g6 (Lens.id katom_trace_o1)) rfl rfl (vt ((hs 6 rfl).trans rfl))) ⟨rfl, rfl, rfl, rfl⟩ ?_
  refine SeqA.cons (loc [15] [] rfl rfl fun S hs hr => op_nilCheck rfl rfl (vt ((hs 15 rfl).trans rfl))) ⟨rfl, rfl, rfl, rfl⟩ ?_
  refine SeqA.cons (loc [16] [] rfl rfl fun S hs hr => op_field latom_trace_o1_1 rfl rfl flv191_1_1 (vt ((hs 16 rfl).trans rfl))) ⟨rfl, rfl, rfl, rfl⟩ ?_
  refine SeqA.cons (loc [17] [11] rfl rfl fun S hs hr => op_loadv v8 rfl rfl tyr44 (vt ((hs 17 rfl).trans rfl)) (i := 11) ((hr 11 rfl).trans rfl) rfl) ⟨rfl, rfl, rfl, rfl⟩ ?_
  refine SeqA.cons (loc [6] [] rfl rfl fun S hs hr => op_move (A := ptrL g6 (Lens.id katom_trace_o1)) rfl rfl (vt ((hs 6 rfl).trans rfl))) ⟨rfl, rfl, rfl, rfl⟩ ?_
  refine SeqA.cons (loc [19] [] rfl rfl fun S hs hr => op_nilCheck rfl rfl (vt ((hs 19 rfl).trans rfl))) ⟨rfl, rfl, rfl, rfl⟩ ?_
  refine SeqA.cons (loc [20] [] rfl rfl fun S hs hr => op_field latom_trace_o1_0 rfl rfl flv191_0_1 (vt ((hs 20 rfl).trans rfl))) ⟨rfl, rfl, rfl, rfl⟩ ?_
  refine SeqA.cons (loc [21] [11] rfl rfl fun S hs hr => op_load rfl rfl ty51 (vt ((hs 21 rfl).trans rfl)) (i := 11) ((hr 11 rfl).trans rfl)) ⟨rfl, rfl, rfl, rfl⟩ ?_
  refine SeqA.cons (loc [18] [] rfl rfl fun S hs hr => op_assign (A := raw v8) rfl rfl (vt ((hs 18 rfl).trans rfl))) ⟨rfl, rfl, rfl, rfl⟩ ?_
  refine SeqA.cons (locr [5, 22] [6] rfl fun S hs hr => op_store rfl rfl ty51 (vt ((hs 5 rfl).trans rfl)) (i := 6) ((hr 6 rfl).trans rfl) (vt ((hs 22 rfl).trans rfl))) ⟨rfl, rfl, rfl, rfl⟩ ?_
  refine AW.freezes [4, 18] 2221 rfl ⟨rfl, rfl, trivial⟩ rfl ?_
  refine AW.ret ?_
  obtain rfl := Option.some.inj h
  exact ret2 Try.results119 rfl (out_tmp rfl) (out_cell rfl (i := 6) rfl ty51)
def F_norm_world_list_s_l1 (R_norm_world_group : (norm_world → Int → (Vector Tern 24) → Option (List Atom))) (w1 : norm_world) : (List Atom) → Nat → (List Atom) → Option (List Atom)
  | [], i8, l6 => some l6
  | x10 :: l9, i8, l6 => (bif x10.Group then (R_norm_world_group w1 x10.Port x10.Rewrite).bind fun x12 => (appd l6 x12).bind fun l13 => (F_norm_world_list_s_l1 R_norm_world_group w1 l9) (i8 + 1) l13 else (F_rewrite_Clean x10.Rewrite).bind fun x15 => (appd l6 [{ x10 with Rewrite := x15 }]).bind fun l16 => (F_norm_world_list_s_l1 R_norm_world_group w1 l9) (i8 + 1) l16)
def F_norm_world_list_s (R_norm_world_list : (norm_world → (List Atom) → Option (List Atom))) (R_norm_world_group : (norm_world → Int → (Vector Tern 24) → Option (List Atom))) (w1 : norm_world) (a2 : (List Atom)) : Option (List Atom) :=
  F_norm_world_list_s_l1 R_norm_world_group w1 a2 0 []
theorem c_norm_world_list_s (R_norm_world_list : (norm_world → (List Atom) → Option (List Atom))) (hR_norm_world_list : ∀ (w1 : norm_world) (a2 : (List Atom)) (r : (List Atom)), R_norm_world_list w1 a2 = some r → PCon Try.prog 47 [rd knorm_world w1, rd (ksl kAtom) a2] (rd (ksl kAtom) r)) (R_norm_world_group : (norm_world → Int → (Vector Tern 24) → Option (List Atom))) (hR_norm_world_group : ∀ (w1 : norm_world) (id2 : Int) (r3 : (Vector Tern 24)) (r : (List Atom)), R_norm_world_group w1 id2 r3 = some r → PCon Try.prog 80 [rd knorm_world w1, rd (kint .i64) id2, rd (karr 24 kTern) r3] (rd (ksl kAtom) r)) (w1 : norm_world) (a2 : (List Atom)) (r : (List Atom)) (h : F_norm_world_list_s R_norm_world_list R_norm_world_group w1 a2 = some r) : PCon Try.prog 47 [rd knorm_world w1, rd (ksl kAtom) a2] (rd (ksl kAtom) r) := by
  refine PCon.of (Con.intro0 Try.func47 rfl Try.ntmps47 rfl fun w H => ?_)
  unfold F_norm_world_list_s at h
  refine AW.seq ?_
  refine AW.region ?_
  refine AOps.consT rfl (op_box 3 rfl rfl (vt rfl)) ?_
  rintro _ ⟨g3, rfl⟩
  refine AOps.cons (op_assign (A := rd (ksl kAtom) []) rfl rfl vnil) rfl ?_
  refine AOps.nil ?_
  refine AW.seq ?_
  refine AW.newnil 1001 53 kAtom ?_
  refine AW.region ?_
  refine AOps.cons (op_assign rfl rfl vc) rfl ?_
  refine AOps.nil ?_
  refine AW.seq ?_
  refine AW.seq ?_
  refine AW.region ?_
  refine AOps.cons (op_move (A := rd (ksl kAtom) a2) rfl rfl (vt rfl)) rfl ?_
  refine AOps.cons (op_len' rfl rfl sl44 (vt rfl)) rfl ?_
  refine AOps.cons (op_move (A := rd (kint .i64) 0) rfl rfl (vk rfl)) rfl ?_
  refine AOps.nil ?_
  refine AW.block ?_
  refine AW.loopG (d := []) (ν := (List Atom) × Nat × (List Atom) × Value) (fun n => Sfx a2 n.2.1 n.1 ∧ F_norm_world_list_s_l1 R_norm_world_group w1 n.1 n.2.1 n.2.2.1 = some r) (fun n => n.1.length) (fun n => [(2, ptrL g3 (Lens.id knorm_world)), (5, raw n.2.2.2), (8, rd (ksl kAtom) a2), (9, rd (kint .i64) (a2.length : Int)), (10, rd (kint .i64) (n.2.1 : Int))]) (fun n => [(3, Blk g3 99 knorm_world w1), (1001, Row n.2.2.2 53 kAtom n.2.2.1)]) (a2, 0, [], (.slice none 0 0)) ⟨Sfx.start _, h⟩ ⟨rfl, ⟨rfl, rfl, rfl, rfl, rfl, trivial⟩, ⟨rfl, rfl, trivial⟩⟩ ?_
  rintro ⟨l9, i8, l6, v7⟩ ⟨hsf1, h⟩
  change Sfx a2 i8 l9 at hsf1
  change F_norm_world_list_s_l1 R_norm_world_group w1 l9 i8 l6 = some r at h
  change AW _ _ _ ⟨slots [(2, ptrL g3 (Lens.id knorm_world)), (5, raw v7), (8, rd (ksl kAtom) a2), (9, rd (kint .i64) (a2.length : Int)), (10, rd (kint .i64) (i8 : Int))], ress [(3, Blk g3 99 knorm_world w1), (1001, Row v7 53 kAtom l6)], _⟩
  cases l9 with
  | nil =>
    unfold F_norm_world_list_s_l1 at h
    refine AW.seq ?_
    refine AW.region ?_
    refine AOps.cons (op_lss rfl rfl (vt rfl) (vt rfl)) rfl ?_
    refine AOps.nil ?_
    refine AW.seq ?_
    refine AW.cond (vt rfl) (fun hc => absurd (of_decide_eq_true hc) hsf1.nil) (fun hc => ?_)
    refine AW.exit ?_
    refine AW.seq ?_
    refine AW.region ?_
    refine AOps.cons (op_move (A := raw v7) rfl rfl (vt rfl)) rfl ?_
    refine AOps.cons (op_assign (A := raw v7) rfl rfl (vt rfl)) rfl ?_
    refine AOps.nil ?_
    refine AW.freezes [4, 5, 33] 1001 rfl ⟨rfl, rfl, rfl, trivial⟩ rfl ?_
    refine AW.ret ?_
    obtain rfl := Option.some.inj h
    exact ret1 Try.results47 rfl (out_tmp rfl)
  | cons x10 l9 =>
    unfold F_norm_world_list_s_l1 at h
    generalize hgo1 : F_norm_world_list_s_l1 R_norm_world_group w1 l9 = go1 at h
    refine AW.seq ?_
    refine AW.region ?_
    refine AOps.cons (op_lss rfl rfl (vt rfl) (vt rfl)) rfl ?_
    refine AOps.nil ?_
    refine AW.seq ?_
    refine AW.cond (vt rfl) (fun hc => ?_) (fun hc => absurd hsf1.cons (of_decide_eq_false hc))
    have hlti8 := of_decide_eq_true hc
    refine AW.skip ?_
    refine AW.seq ?_
    refine AW.block ?_
    refine AW.seq ?_
    refine AW.region ?_
    refine AOps.cons (op_indexs' rfl rfl sl44 (vt rfl) (vt rfl) hsf1.lget) rfl ?_
    refine AOps.cons (op_loadp rfl rfl ty53 (vt rfl)) rfl ?_
    refine AOps.consT rfl (op_alloc 8 rfl rfl zr53) ?_
    rintro _ ⟨g11, rfl⟩
    refine AOps.cons (op_store rfl rfl ty53 (vt rfl) (i := 8) rfl (vt rfl)) rfl ?_
    refine AOps.nil ?_
    refine AW.seq ?_
    refine AW.seq ?_
    refine AW.region ?_
    refine AOps.cons (op_field lAtom_1 rfl rfl fl53_1 (vt rfl)) rfl ?_
    refine AOps.cons (op_load rfl rfl ty4 (vt rfl) (i := 8) rfl) rfl ?_
    refine AOps.nil ?_
    refine AW.cond (vt rfl) (fun hc => ?_) (fun hc => ?_)
    · have h := cond_t hc h
      refine AW.seq ?_
      obtain ⟨x12, hx12, h⟩ := bsome h
      obtain ⟨l13, hl13, h⟩ := bsome h
      refine AW.region ?_
      refine AOps.cons (op_move (A := raw v7) rfl rfl (vt rfl)) rfl ?_
      refine AOps.cons (op_load rfl rfl ty99 (vt rfl) (i := 3) rfl) rfl ?_
      refine AOps.cons (op_field lAtom_2 rfl rfl fl53_2 (vt rfl)) rfl ?_
      refine AOps.cons (op_load rfl rfl ty3 (vt rfl) (i := 8) rfl) rfl ?_
      refine AOps.cons (op_field lAtom_0 rfl rfl fl53_0 (vt rfl)) rfl ?_
      refine AOps.cons (op_load rfl rfl ty51 (vt rfl) (i := 8) rfl) rfl ?_
      refine AOps.cons (op_call (xs := [.tmp 17, .tmp 19, .tmp 21]) (hR_norm_world_group _ _ _ _ hx12) (Ent.mk Try.func80 rfl rfl) rfl rfl ⟨vt rfl, vt rfl, vt rfl, trivial⟩) rfl ?_
      refine AOps.consT rfl (op_append' 1001 hl13 rfl rfl el44 (vt rfl) rfl (vt rfl)) ?_
      rintro _ ⟨v14, rfl⟩
      refine AOps.cons (op_assign (A := raw v14) rfl rfl (vt rfl)) rfl ?_
      refine AOps.nil ?_
      refine AW.exit ?_
      refine AW.region ?_
      refine AOps.cons (op_incr (t := 9) rfl rfl (vt rfl) (vk rfl) (vt rfl) hlti8) rfl ?_
      refine AOps.cons (op_move (A := rd (kint .i64) ((i8 + 1 : Nat) : Int)) rfl rfl (vt rfl)) rfl ?_
      refine AOps.nil ?_
      subst hgo1
      exact ⟨(l9, i8 + 1, l13, v14), Nat.lt_succ_self _, ⟨hsf1.next, h⟩, ⟨rfl, ⟨rfl, rfl, rfl, rfl, rfl, trivial⟩, ⟨rfl, rfl, trivial⟩⟩⟩
    · have h := cond_f hc h
      refine AW.skip ?_
      refine AW.seq ?_
      obtain ⟨x15, hx15, h⟩ := bsome h
      refine AW.region ?_
      refine AOps.cons (op_field lAtom_0 rfl rfl fl53_0 (vt rfl)) rfl ?_
      refine AOps.cons (op_load rfl rfl ty51 (vt rfl) (i := 8) rfl) rfl ?_
      refine AOps.cons (op_call (xs := [.tmp 25]) (c_rewrite_Clean _ _ hx15) (Ent.mk Try.func81 rfl rfl) rfl rfl ⟨vt rfl, trivial⟩) rfl ?_
      refine AOps.cons (op_field lAtom_0 rfl rfl fl53_0 (vt rfl)) rfl ?_
      refine AOps.cons (op_store rfl rfl ty51 (vt rfl) (i := 8) rfl (vt rfl)) rfl ?_
      refine AOps.nil ?_
      obtain ⟨l16, hl16, h⟩ := bsome h
      refine AW.region ?_
      refine AOps.cons (op_move (A := raw v7) rfl rfl (vt rfl)) rfl ?_
      refine AOps.cons (op_load rfl rfl ty53 (vt rfl) (i := 8) rfl) rfl ?_
      refine AOps.cons (op_buildSliceR (ps := [(0, .tmp 29)]) (l := [{ x10 with Rewrite := x15 }]) rfl rfl sl44 zr53 rfl rfl ⟨_, _, Lens.idx 1 kAtom 0 (by decide), _, rfl, (vt rfl), rfl⟩ rfl) rfl ?_
      refine AOps.consT rfl (op_append' 1001 hl16 rfl rfl el44 (vt rfl) rfl (vt rfl)) ?_
      rintro _ ⟨v17, rfl⟩
      refine AOps.cons (op_assign (A := raw v17) rfl rfl (vt rfl)) rfl ?_
      refine AOps.nil ?_
      refine AW.region ?_
      refine AOps.cons (op_incr (t := 9) rfl rfl (vt rfl) (vk rfl) (vt rfl) hlti8) rfl ?_
      refine AOps.cons (op_move (A := rd (kint .i64) ((i8 + 1 : Nat) : Int)) rfl rfl (vt rfl)) rfl ?_
      refine AOps.nil ?_
      subst hgo1
      exact ⟨(l9, i8 + 1, l16, v17), Nat.lt_succ_self _, ⟨hsf1.next, h⟩, ⟨rfl, ⟨rfl, rfl, rfl, rfl, rfl, trivial⟩, ⟨rfl, rfl, trivial⟩⟩⟩
def F_norm_world_group_s_l1 (x6 : (Group × Bool)) (r3 : (Vector Tern 24)) (R_norm_world_list : (norm_world → (List Atom) → Option (List Atom))) (w1 : norm_world) : (List Int) → Nat → (List Atom) → Option (List Atom)
  | [], i13, l11 => some l11
  | x15 :: l14, i13, l11 => (lget x6.1.Buckets x15).bind fun e16 => (F_aset_Write [] e16.Acts).bind fun x17 => (F_aset_List x17).bind fun x18 => (F_atom_Do x18 r3).bind fun x19 => (R_norm_world_list { w1 with depth := (IntKind.i64.wrap (w1.depth + 1)) } x19.1).bind fun x21 => (appd l11 x21).bind fun l22 => (F_norm_world_group_s_l1 x6 r3 R_norm_world_list w1 l14) (i13 + 1) l22
def F_norm_world_group_s (R_norm_world_list : (norm_world → (List Atom) → Option (List Atom))) (R_norm_world_group : (norm_world → Int → (Vector Tern 24) → Option (List Atom))) (w1 : norm_world) (id2 : Int) (r3 : (Vector Tern 24)) : Option (List Atom) :=
  (F_group_Find w1.groups id2).bind fun x6 => (bif ((!x6.2) || (decide (w1.depth ≥ 8))) then some [] else (F_env_Takes ({ w1 with depth := (IntKind.i64.wrap (w1.depth + 1)) }.Env) x6.1).bind fun x8 => F_norm_world_group_s_l1 x6 r3 R_norm_world_list w1 x8 0 [])
theorem c_norm_world_group_s (R_norm_world_list : (norm_world → (List Atom) → Option (List Atom))) (hR_norm_world_list : ∀ (w1 : norm_world) (a2 : (List Atom)) (r : (List Atom)), R_norm_world_list w1 a2 = some r → PCon Try.prog 47 [rd knorm_world w1, rd (ksl kAtom) a2] (rd (ksl kAtom) r)) (R_norm_world_group : (norm_world → Int → (Vector Tern 24) → Option (List Atom))) (hR_norm_world_group : ∀ (w1 : norm_world) (id2 : Int) (r3 : (Vector Tern 24)) (r : (List Atom)), R_norm_world_group w1 id2 r3 = some r → PCon Try.prog 80 [rd knorm_world w1, rd (kint .i64) id2, rd (karr 24 kTern) r3] (rd (ksl kAtom) r)) (w1 : norm_world) (id2 : Int) (r3 : (Vector Tern 24)) (r : (List Atom)) (h : F_norm_world_group_s R_norm_world_list R_norm_world_group w1 id2 r3 = some r) : PCon Try.prog 80 [rd knorm_world w1, rd (kint .i64) id2, rd (karr 24 kTern) r3] (rd (ksl kAtom) r) := by
  refine PCon.of (Con.intro0 Try.func80 rfl Try.ntmps80 rfl fun w H => ?_)
  unfold F_norm_world_group_s at h
  refine AW.seq ?_
  refine AW.region ?_
  refine AOps.consT rfl (op_box 4 rfl rfl (vt rfl)) ?_
  rintro _ ⟨g4, rfl⟩
  refine AOps.consT rfl (op_box 6 rfl rfl (vt rfl)) ?_
  rintro _ ⟨g5, rfl⟩
  refine AOps.cons (op_assign (A := rd (ksl kAtom) []) rfl rfl vnil) rfl ?_
  refine AOps.nil ?_
  refine AW.seq ?_
  obtain ⟨x6, hx6, h⟩ := bsome h
  refine AW.region ?_
  refine AOps.cons (op_field lnorm_world_1 rfl rfl fl99_1 (vt rfl)) rfl ?_
  refine AOps.cons (op_load rfl rfl ty22 (vt rfl) (i := 4) rfl) rfl ?_
  refine AOps.cons (op_move (A := rd (kint .i64) id2) rfl rfl (vt rfl)) rfl ?_
  refine AOps.cons (op_call (xs := [.tmp 16, .tmp 17]) (c_group_Find _ _ _ hx6) (Ent.mk Try.func75 rfl rfl) rfl rfl ⟨vt rfl, vt rfl, trivial⟩) rfl ?_
  refine AOps.cons (op_move (A := tup2 (rd kGroup x6.1) (rd kbool x6.2)) rfl rfl (vt rfl)) rfl ?_
  refine AOps.cons (op_fst rfl rfl (vt rfl)) rfl ?_
  refine AOps.cons (op_snd rfl rfl (vt rfl)) rfl ?_
  refine AOps.consT rfl (op_alloc 8 rfl rfl zr63) ?_
  rintro _ ⟨g7, rfl⟩
  refine AOps.cons (op_store rfl rfl ty63 (vt rfl) (i := 8) rfl (vt rfl)) rfl ?_
  refine AOps.cons (op_assign (A := rd kbool x6.2) rfl rfl (vt rfl)) rfl ?_
  refine AOps.nil ?_
  refine AW.seq ?_
  refine AW.seq ?_
  refine AW.region ?_
  refine AOps.cons (op_move (A := rd kbool x6.2) rfl rfl (vt rfl)) rfl ?_
  refine AOps.cons (op_not rfl rfl (vt rfl)) rfl ?_
  refine AOps.cons (op_move (A := rd kbool (!x6.2)) rfl rfl (vt rfl)) rfl ?_
  refine AOps.consG (OpG.guard rfl rfl rfl rfl rfl fun hq => op_field lnorm_world_2 rfl rfl fl99_2 (vt rfl)) ?_
  refine AOps.consG (OpG.guard rfl rfl rfl rfl rfl fun hq => op_load rfl rfl ty3 (vgt rfl hq) (i := 4) rfl) ?_
  refine AOps.consG (OpG.guard rfl rfl rfl rfl rfl fun hq => op_geq rfl rfl (vgt rfl hq) (vk rfl)) ?_
  refine AOps.cons (op_any rfl rfl (vt rfl) (vt rfl)) rfl ?_
  refine AOps.nil ?_
  refine AW.cond (vt rfl) (fun hc => ?_) (fun hc => ?_)
  · have h := cond_t hc h
    refine AW.seq ?_
    refine AW.region ?_
    refine AOps.cons (op_assign (A := rd (ksl kAtom) []) rfl rfl vnil) rfl ?_
    refine AOps.nil ?_
    refine AW.ret ?_
    obtain rfl := Option.some.inj h
    exact ret1 Try.results80 rfl (out_tmp rfl)
  · have h := cond_f hc h
    refine AW.skip ?_
    refine AW.seq ?_
    refine AW.region ?_
    refine AOps.cons (op_field lnorm_world_2 rfl rfl fl99_2 (vt rfl)) rfl ?_
    refine AOps.cons (op_load rfl rfl ty3 (vt rfl) (i := 4) rfl) rfl ?_
    refine AOps.cons (op_add rfl rfl (vt rfl) (vk rfl)) rfl ?_
    refine AOps.cons (op_field lnorm_world_2 rfl rfl fl99_2 (vt rfl)) rfl ?_
    refine AOps.cons (op_store rfl rfl ty3 (vt rfl) (i := 4) rfl (vt rfl)) rfl ?_
    refine AOps.nil ?_
    refine AW.seq ?_
    refine AW.newnil 1001 53 kAtom ?_
    refine AW.region ?_
    refine AOps.cons (op_assign rfl rfl vc) rfl ?_
    refine AOps.nil ?_
    refine AW.seq ?_
    refine AW.seq ?_
    obtain ⟨x8, hx8, h⟩ := bsome h
    refine AW.region ?_
    refine AOps.cons (op_field lnorm_world_0 rfl rfl fl99_0 (vt rfl)) rfl ?_
    refine AOps.cons (op_load rfl rfl ty25 (vt rfl) (i := 4) rfl) rfl ?_
    refine AOps.cons (op_load rfl rfl ty63 (vt rfl) (i := 8) rfl) rfl ?_
    refine AOps.cons (op_call (xs := [.tmp 33, .tmp 34]) (c_env_Takes _ _ _ hx8) (Ent.mk Try.func76 rfl rfl) rfl rfl ⟨vt rfl, vt rfl, trivial⟩) rfl ?_
    refine AOps.cons (op_len' rfl rfl sl23 (vt rfl)) rfl ?_
    refine AOps.cons (op_move (A := rd (kint .i64) 0) rfl rfl (vk rfl)) rfl ?_
    refine AOps.nil ?_
    refine AW.block ?_
    refine AW.loopG (d := []) (ν := (List Int) × Nat × (List Atom) × Value) (fun n => Sfx x8 n.2.1 n.1 ∧ F_norm_world_group_s_l1 x6 r3 R_norm_world_list w1 n.1 n.2.1 n.2.2.1 = some r) (fun n => n.1.length) (fun n => [(3, ptrL g4 (Lens.id knorm_world)), (5, ptrL g5 (Lens.id (karr 24 kTern))), (7, ptrL g7 (Lens.id kGroup)), (9, raw n.2.2.2), (35, rd (ksl (kint .i64)) x8), (36, rd (kint .i64) (x8.length : Int)), (37, rd (kint .i64) (n.2.1 : Int))]) (fun n => [(4, Blk g4 99 knorm_world { w1 with depth := (IntKind.i64.wrap (w1.depth + 1)) }), (6, Blk g5 51 (karr 24 kTern) r3), (8, Blk g7 63 kGroup x6.1), (1001, Row n.2.2.2 53 kAtom n.2.2.1)]) (x8, 0, [], (.slice none 0 0)) ⟨Sfx.start _, h⟩ ⟨rfl, ⟨rfl, rfl, rfl, rfl, rfl, rfl, rfl, trivial⟩, ⟨rfl, rfl, rfl, rfl, trivial⟩⟩ ?_
    rintro ⟨l14, i13, l11, v12⟩ ⟨hsf1, h⟩
    change Sfx x8 i13 l14 at hsf1
    change F_norm_world_group_s_l1 x6 r3 R_norm_world_list w1 l14 i13 l11 = some r at h
    change AW _ _ _ ⟨slots [(3, ptrL g4 (Lens.id knorm_world)), (5, ptrL g5 (Lens.id (karr 24 kTern))), (7, ptrL g7 (Lens.id kGroup)), (9, raw v12), (35, rd (ksl (kint .i64)) x8), (36, rd (kint .i64) (x8.length : Int)), (37, rd (kint .i64) (i13 : Int))], ress [(4, Blk g4 99 knorm_world { w1 with depth := (IntKind.i64.wrap (w1.depth + 1)) }), (6, Blk g5 51 (karr 24 kTern) r3), (8, Blk g7 63 kGroup x6.1), (1001, Row v12 53 kAtom l11)], _⟩
    cases l14 with
    | nil =>
      unfold F_norm_world_group_s_l1 at h
      refine AW.seq ?_
      refine AW.region ?_
      refine AOps.cons (op_lss rfl rfl (vt rfl) (vt rfl)) rfl ?_
      refine AOps.nil ?_
      refine AW.seq ?_
      refine AW.cond (vt rfl) (fun hc => absurd (of_decide_eq_true hc) hsf1.nil) (fun hc => ?_)
      refine AW.exit ?_
      refine AW.seq ?_
      refine AW.region ?_
      refine AOps.cons (op_move (A := raw v12) rfl rfl (vt rfl)) rfl ?_
      refine AOps.cons (op_assign (A := raw v12) rfl rfl (vt rfl)) rfl ?_
      refine AOps.nil ?_
      refine AW.freezes [6, 9, 60] 1001 rfl ⟨rfl, rfl, rfl, trivial⟩ rfl ?_
      refine AW.ret ?_
      obtain rfl := Option.some.inj h
      exact ret1 Try.results80 rfl (out_tmp rfl)
    | cons x15 l14 =>
      unfold F_norm_world_group_s_l1 at h
      generalize hgo1 : F_norm_world_group_s_l1 x6 r3 R_norm_world_list w1 l14 = go1 at h
      refine AW.seq ?_
      refine AW.region ?_
      refine AOps.cons (op_lss rfl rfl (vt rfl) (vt rfl)) rfl ?_
      refine AOps.nil ?_
      refine AW.seq ?_
      refine AW.cond (vt rfl) (fun hc => ?_) (fun hc => absurd hsf1.cons (of_decide_eq_false hc))
      have hlti13 := of_decide_eq_true hc
      refine AW.skip ?_
      refine AW.seq ?_
      refine AW.block ?_
      refine AW.seq ?_
      refine AW.region ?_
      refine AOps.cons (op_indexs' rfl rfl sl23 (vt rfl) (vt rfl) hsf1.lget) rfl ?_
      refine AOps.cons (op_loadp rfl rfl ty3 (vt rfl)) rfl ?_
      refine AOps.cons (op_assign (A := rd (kint .i64) x15) rfl rfl (vt rfl)) rfl ?_
      refine AOps.nil ?_
      refine AW.seq ?_
      obtain ⟨e16, he16, h⟩ := bsome h
      obtain ⟨x17, hx17, h⟩ := bsome h
      obtain ⟨x18, hx18, h⟩ := bsome h
      obtain ⟨x19, hx19, h⟩ := bsome h
      refine AW.regionAny [⟨[7], [42], [], []⟩, ⟨[42], [43], [8], []⟩, ⟨[11], [44], [], []⟩, ⟨[43, 44], [45], [], []⟩, ⟨[45], [46], [], []⟩, ⟨[46], [47], [], []⟩, ⟨[47], [48], [], []⟩, ⟨[48], [49], [], []⟩, ⟨[5], [50], [6], []⟩, ⟨[49, 50], [51], [], []⟩, ⟨[51], [41], [], []⟩, ⟨[41], [52], [], []⟩, ⟨[41], [53], [], []⟩, ⟨[], [13], [], []⟩, ⟨[52], [12], [], []⟩, ⟨[13, 53], [13], [], []⟩] mixed (by kernel_rfl) ?_
      refine SeqA.cons (loc [7] [] rfl rfl fun S hs hr => op_field lGroup_2 rfl rfl fl63_2 (vt ((hs 7 rfl).trans rfl))) ⟨rfl, rfl, rfl, rfl⟩ ?_
      refine SeqA.cons (loc [42] [8] rfl rfl fun S hs hr => op_load rfl rfl ty61 (vt ((hs 42 rfl).trans rfl)) (i := 8) ((hr 8 rfl).trans rfl)) ⟨rfl, rfl, rfl, rfl⟩ ?_
      refine SeqA.cons (loc [11] [] rfl rfl fun S hs hr => op_move (A := rd (kint .i64) x15) rfl rfl (vt ((hs 11 rfl).trans rfl))) ⟨rfl, rfl, rfl, rfl⟩ ?_
      refine SeqA.cons (loc [43, 44] [] rfl rfl fun S hs hr => op_indexs' rfl rfl sl61 (vt ((hs 43 rfl).trans rfl)) (vt ((hs 44 rfl).trans rfl)) he16) ⟨rfl, rfl, rfl, rfl⟩ ?_
      refine SeqA.cons (loc [45] [] rfl rfl fun S hs hr => op_fieldp lBucket_3 rfl rfl fl68_3 (vt ((hs 45 rfl).trans rfl))) ⟨rfl, rfl, rfl, rfl⟩ ?_
      refine SeqA.cons (loc [46] [] rfl rfl fun S hs hr => op_loadp rfl rfl ty66 (vt ((hs 46 rfl).trans rfl))) ⟨rfl, rfl, rfl, rfl⟩ ?_
      refine SeqA.cons (loc [47] [] rfl rfl fun S hs hr => op_call (xs := [.const (Value.slice none 0 0), .tmp 47]) (c_aset_Write _ _ _ hx17) (Ent.mk Try.func79 rfl rfl) rfl rfl ⟨vnil, vt ((hs 47 rfl).trans rfl), trivial⟩) ⟨rfl, rfl, rfl, rfl⟩ ?_
      refine SeqA.cons (loc [48] [] rfl rfl fun S hs hr => op_call (xs := [.tmp 48]) (c_aset_List _ _ hx18) (Ent.mk Try.func78 rfl rfl) rfl rfl ⟨vt ((hs 48 rfl).trans rfl), trivial⟩) ⟨rfl, rfl, rfl, rfl⟩ ?_
      refine SeqA.cons (loc [5] [6] rfl rfl fun S hs hr => op_load rfl rfl ty51 (vt ((hs 5 rfl).trans rfl)) (i := 6) ((hr 6 rfl).trans rfl)) ⟨rfl, rfl, rfl, rfl⟩ ?_
      refine SeqA.cons (loc [49, 50] [] rfl rfl fun S hs hr => op_call (xs := [.tmp 49, .tmp 50]) (c_atom_Do _ _ _ hx19) (Ent.mk Try.func119 rfl rfl) rfl rfl ⟨vt ((hs 49 rfl).trans rfl), vt ((hs 50 rfl).trans rfl), trivial⟩) ⟨rfl, rfl, rfl, rfl⟩ ?_
      refine SeqA.cons (loc [51] [] rfl rfl fun S hs hr => op_move (A := tup2 (rd (ksl kAtom) x19.1) (rd (karr 24 kTern) x19.2)) rfl rfl (vt ((hs 51 rfl).trans rfl))) ⟨rfl, rfl, rfl, rfl⟩ ?_
      refine SeqA.cons (loc [41] [] rfl rfl fun S hs hr => op_fst rfl rfl (vt ((hs 41 rfl).trans rfl))) ⟨rfl, rfl, rfl, rfl⟩ ?_
      refine SeqA.cons (loc [41] [] rfl rfl fun S hs hr => op_snd rfl rfl (vt ((hs 41 rfl).trans rfl))) ⟨rfl, rfl, rfl, rfl⟩ ?_
      refine SeqA.cons (locs (us := [(13, ownP 51 (karr 24 kTern) (Vector.replicate 24 zTern))]) (ur := []) [] [] rfl fun S hs hr => op_allocO rfl rfl rfl zr51) ⟨rfl, rfl, rfl, rfl⟩ ?_
      refine SeqA.cons (loc [52] [] rfl rfl fun S hs hr => op_assign (A := rd (ksl kAtom) x19.1) rfl rfl (vt ((hs 52 rfl).trans rfl))) ⟨rfl, rfl, rfl, rfl⟩ ?_
      refine SeqA.cons (locs (us := [(13, ownP 51 (karr 24 kTern) x19.2)]) (ur := []) [13, 53] [] rfl fun S hs hr => op_storeO rfl rfl ty51 ((hs 13 rfl).trans rfl) (vt ((hs 53 rfl).trans rfl))) ⟨rfl, rfl, rfl, rfl⟩ ?_
      refine AW.unpackP 13 14 rfl rfl fun g20 => ?_
      obtain ⟨x21, hx21, h⟩ := bsome h
      obtain ⟨l22, hl22, h⟩ := bsome h
      refine AW.region ?_
      refine AOps.cons (op_move (A := raw v12) rfl rfl (vt rfl)) rfl ?_
      refine AOps.cons (op_load rfl rfl ty99 (vt rfl) (i := 4) rfl) rfl ?_
      refine AOps.cons (op_move (A := rd (ksl kAtom) x19.1) rfl rfl (vt rfl)) rfl ?_
      refine AOps.cons (op_call (xs := [.tmp 55, .tmp 56]) (hR_norm_world_list _ _ _ hx21) (Ent.mk Try.func47 rfl rfl) rfl rfl ⟨vt rfl, vt rfl, trivial⟩) rfl ?_
      refine AOps.consT rfl (op_append' 1001 hl22 rfl rfl el44 (vt rfl) rfl (vt rfl)) ?_
      rintro _ ⟨v23, rfl⟩
      refine AOps.cons (op_assign (A := raw v23) rfl rfl (vt rfl)) rfl ?_
      refine AOps.nil ?_
      refine AW.region ?_
      refine AOps.cons (op_incr (t := 36) rfl rfl (vt rfl) (vk rfl) (vt rfl) hlti13) rfl ?_
      refine AOps.cons (op_move (A := rd (kint .i64) ((i13 + 1 : Nat) : Int)) rfl rfl (vt rfl)) rfl ?_
      refine AOps.nil ?_
      subst hgo1
      exact ⟨(l14, i13 + 1, l22, v23), Nat.lt_succ_self _, ⟨hsf1.next, h⟩, ⟨rfl, ⟨rfl, rfl, rfl, rfl, rfl, rfl, rfl, trivial⟩, ⟨rfl, rfl, rfl, rfl, trivial⟩⟩⟩
def FR_norm_world_list__norm_world_group : Nat → (norm_world → (List Atom) → Option (List Atom)) × (norm_world → Int → (Vector Tern 24) → Option (List Atom))
  | 0 => ((fun _ _ => none), (fun _ _ _ => none))
  | n + 1 => ((F_norm_world_list_s (FR_norm_world_list__norm_world_group n).1 (FR_norm_world_list__norm_world_group n).2), (F_norm_world_group_s (FR_norm_world_list__norm_world_group n).1 (FR_norm_world_list__norm_world_group n).2))
theorem cR_norm_world_list__norm_world_group : ∀ n : Nat, (∀ (w1 : norm_world) (a2 : (List Atom)) (r : (List Atom)), (FR_norm_world_list__norm_world_group n).1 w1 a2 = some r → PCon Try.prog 47 [rd knorm_world w1, rd (ksl kAtom) a2] (rd (ksl kAtom) r)) ∧ (∀ (w1 : norm_world) (id2 : Int) (r3 : (Vector Tern 24)) (r : (List Atom)), (FR_norm_world_list__norm_world_group n).2 w1 id2 r3 = some r → PCon Try.prog 80 [rd knorm_world w1, rd (kint .i64) id2, rd (karr 24 kTern) r3] (rd (ksl kAtom) r))
  | 0 => ⟨(by intros; rename_i h; cases h), (by intros; rename_i h; cases h)⟩
  | n + 1 => by
    have ih := cR_norm_world_list__norm_world_group n
    exact ⟨(c_norm_world_list_s (FR_norm_world_list__norm_world_group n).1 ih.1 (FR_norm_world_list__norm_world_group n).2 ih.2), (c_norm_world_group_s (FR_norm_world_list__norm_world_group n).1 ih.1 (FR_norm_world_list__norm_world_group n).2 ih.2)⟩
def F_norm_world_list (w1 : norm_world) (a2 : (List Atom)) : Option (List Atom) := (FR_norm_world_list__norm_world_group fuel0).1 w1 a2
theorem c_norm_world_list : ∀ (w1 : norm_world) (a2 : (List Atom)) (r : (List Atom)), F_norm_world_list w1 a2 = some r → PCon Try.prog 47 [rd knorm_world w1, rd (ksl kAtom) a2] (rd (ksl kAtom) r) := (cR_norm_world_list__norm_world_group fuel0).1
def F_norm_world_group (w1 : norm_world) (id2 : Int) (r3 : (Vector Tern 24)) : Option (List Atom) := (FR_norm_world_list__norm_world_group fuel0).2 w1 id2 r3
theorem c_norm_world_group : ∀ (w1 : norm_world) (id2 : Int) (r3 : (Vector Tern 24)) (r : (List Atom)), F_norm_world_group w1 id2 r3 = some r → PCon Try.prog 80 [rd knorm_world w1, rd (kint .i64) id2, rd (karr 24 kTern) r3] (rd (ksl kAtom) r) := (cR_norm_world_list__norm_world_group fuel0).2
def F_norm_List (l1 : (List Group)) (e2 : Env) (a3 : (List Atom)) : Option (List Atom) :=
  (F_norm_world_list (⟨e2, l1, 0⟩ : norm_world) a3).bind fun x5 => some x5
theorem c_norm_List (l1 : (List Group)) (e2 : Env) (a3 : (List Atom)) (r : (List Atom)) (h : F_norm_List l1 e2 a3 = some r) : PCon Try.prog 18 [rd (ksl kGroup) l1, rd kEnv e2, rd (ksl kAtom) a3] (rd (ksl kAtom) r) := by
  refine PCon.of (Con.intro0 Try.func18 rfl Try.ntmps18 rfl fun w H => ?_)
  unfold F_norm_List at h
  refine AW.seq ?_
  refine AW.region ?_
  refine AOps.consT rfl (op_box 5 rfl rfl (vt rfl)) ?_
  rintro _ ⟨g4, rfl⟩
  refine AOps.cons (op_assign (A := rd (ksl kAtom) []) rfl rfl vnil) rfl ?_
  refine AOps.nil ?_
  refine AW.seq ?_
  obtain ⟨x5, hx5, h⟩ := bsome h
  refine AW.region ?_
  refine AOps.cons (op_load rfl rfl ty25 (vt rfl) (i := 5) rfl) rfl ?_
  refine AOps.cons (op_move (A := rd (ksl kGroup) l1) rfl rfl (vt rfl)) rfl ?_
  refine AOps.cons (op_build (ps := [(0, .tmp 7), (1, .tmp 8)]) (x := (⟨e2, l1, 0⟩ : norm_world)) rfl rfl rfl (by kernel_rfl) zr99 ⟨_, _, lnorm_world_0, _, by kernel_rfl, (vt rfl), _, _, lnorm_world_1, _, by kernel_rfl, (vt rfl), rfl⟩) rfl ?_
  refine AOps.cons (op_move (A := rd (ksl kAtom) a3) rfl rfl (vt rfl)) rfl ?_
  refine AOps.cons (op_call (xs := [.tmp 9, .tmp 10]) (c_norm_world_list _ _ _ hx5) (Ent.mk Try.func47 rfl rfl) rfl rfl ⟨vt rfl, vt rfl, trivial⟩) rfl ?_
  refine AOps.cons (op_assign (A := rd (ksl kAtom) x5) rfl rfl (vt rfl)) rfl ?_
  refine AOps.nil ?_
  refine AW.ret ?_
  obtain rfl := Option.some.inj h
  exact ret1 Try.results18 rfl (out_tmp rfl)
def F_norm_Group (l1 : (List Group)) (e2 : Env) (id3 : Int) (r4 : (Vector Tern 24)) : Option (List Atom) :=
  (F_norm_world_group (⟨e2, l1, 0⟩ : norm_world) id3 r4).bind fun x7 => some x7
theorem c_norm_Group (l1 : (List Group)) (e2 : Env) (id3 : Int) (r4 : (Vector Tern 24)) (r : (List Atom)) (h : F_norm_Group l1 e2 id3 r4 = some r) : PCon Try.prog 45 [rd (ksl kGroup) l1, rd kEnv e2, rd (kint .i64) id3, rd (karr 24 kTern) r4] (rd (ksl kAtom) r) := by
  refine PCon.of (Con.intro0 Try.func45 rfl Try.ntmps45 rfl fun w H => ?_)
  unfold F_norm_Group at h
  refine AW.seq ?_
  refine AW.region ?_
  refine AOps.consT rfl (op_box 6 rfl rfl (vt rfl)) ?_
  rintro _ ⟨g5, rfl⟩
  refine AOps.consT rfl (op_box 8 rfl rfl (vt rfl)) ?_
  rintro _ ⟨g6, rfl⟩
  refine AOps.cons (op_assign (A := rd (ksl kAtom) []) rfl rfl vnil) rfl ?_
  refine AOps.nil ?_
  refine AW.seq ?_
  obtain ⟨x7, hx7, h⟩ := bsome h
  refine AW.region ?_
  refine AOps.cons (op_load rfl rfl ty25 (vt rfl) (i := 6) rfl) rfl ?_
  refine AOps.cons (op_move (A := rd (ksl kGroup) l1) rfl rfl (vt rfl)) rfl ?_
  refine AOps.cons (op_build (ps := [(0, .tmp 9), (1, .tmp 10)]) (x := (⟨e2, l1, 0⟩ : norm_world)) rfl rfl rfl (by kernel_rfl) zr99 ⟨_, _, lnorm_world_0, _, by kernel_rfl, (vt rfl), _, _, lnorm_world_1, _, by kernel_rfl, (vt rfl), rfl⟩) rfl ?_
  refine AOps.cons (op_move (A := rd (kint .i64) id3) rfl rfl (vt rfl)) rfl ?_
  refine AOps.cons (op_load rfl rfl ty51 (vt rfl) (i := 8) rfl) rfl ?_
  refine AOps.cons (op_call (xs := [.tmp 11, .tmp 12, .tmp 13]) (c_norm_world_group _ _ _ _ hx7) (Ent.mk Try.func80 rfl rfl) rfl rfl ⟨vt rfl, vt rfl, vt rfl, trivial⟩) rfl ?_
  refine AOps.cons (op_assign (A := rd (ksl kAtom) x7) rfl rfl (vt rfl)) rfl ?_
  refine AOps.nil ?_
  refine AW.ret ?_
  obtain rfl := Option.some.inj h
  exact ret1 Try.results45 rfl (out_tmp rfl)
def F_l38_awake : Option Bool :=
  (F_norm_List [(⟨1, 1, [(⟨0, 0, 0, [(⟨0, 4, 0, 0, 0, zOxm⟩ : Action)]⟩ : Bucket), (⟨0, 0, 0, [(⟨0, 5, 0, 0, 0, zOxm⟩ : Action)]⟩ : Bucket)]⟩ : Group)] (⟨1, []⟩ : Env) [(⟨(Vector.replicate 24 zTern), true, 1, 0⟩ : Atom), (⟨(Vector.replicate 24 zTern), false, 6, 0⟩ : Atom)]).bind fun x1 => (opt (decide ((x1.length : Int) = 2)) (lget x1 0)).bind fun e2 => (opt ((decide ((x1.length : Int) = 2)) && (decide (e2.Port = 5))) (lget x1 0)).bind fun e3 => (opt (((decide ((x1.length : Int) = 2)) && (decide (e2.Port = 5))) && (!e3.Group)) (lget x1 1)).bind fun e4 => (opt ((((decide ((x1.length : Int) = 2)) && (decide (e2.Port = 5))) && (!e3.Group)) && (decide (e4.Port = 6))) (F_rewrite_None)).bind fun x5 => (opt ((((decide ((x1.length : Int) = 2)) && (decide (e2.Port = 5))) && (!e3.Group)) && (decide (e4.Port = 6))) (F_norm_Group [(⟨1, 1, [(⟨0, 0, 0, [(⟨0, 4, 0, 0, 0, zOxm⟩ : Action)]⟩ : Bucket), (⟨0, 0, 0, [(⟨0, 5, 0, 0, 0, zOxm⟩ : Action)]⟩ : Bucket)]⟩ : Group)] (⟨0, []⟩ : Env) 1 x5)).bind fun x6 => some (((((decide ((x1.length : Int) = 2)) && (decide (e2.Port = 5))) && (!e3.Group)) && (decide (e4.Port = 6))) && (decide ((x6.length : Int) = 1)))
theorem c_l38_awake (r : Bool) (h : F_l38_awake = some r) : PCon Try.prog 17 [] (rd kbool r) := by
  refine PCon.of (Con.intro0 Try.func17 rfl Try.ntmps17 rfl fun w H => ?_)
  unfold F_l38_awake at h
  refine AW.seq ?_
  refine AW.region ?_
  refine AOps.cons (op_assign (A := rd kbool false) rfl rfl vb) rfl ?_
  refine AOps.nil ?_
  refine AW.seq ?_
  refine AW.region ?_
  refine AOps.cons (op_build (ps := [(0, .const (Value.int IntKind.i64 0)), (1, .const (Value.int IntKind.i64 4))]) (x := (⟨0, 4, 0, 0, 0, zOxm⟩ : Action)) rfl rfl rfl (by kernel_rfl) zr95 ⟨_, _, lAction_0, _, by kernel_rfl, (vk rfl), _, _, lAction_1, _, by kernel_rfl, (vk rfl), rfl⟩) rfl ?_
  refine AOps.cons (op_buildSliceR (ps := [(0, .tmp 3)]) (l := [(⟨0, 4, 0, 0, 0, zOxm⟩ : Action)]) rfl rfl sl66 zr95 rfl rfl ⟨_, _, Lens.idx 1 kAction 0 (by decide), _, rfl, (vt rfl), rfl⟩ rfl) rfl ?_
  refine AOps.cons (op_build (ps := [(3, .tmp 4)]) (x := (⟨0, 0, 0, [(⟨0, 4, 0, 0, 0, zOxm⟩ : Action)]⟩ : Bucket)) rfl rfl rfl (by kernel_rfl) zr68 ⟨_, _, lBucket_3, _, by kernel_rfl, (vt rfl), rfl⟩) rfl ?_
  refine AOps.cons (op_build (ps := [(0, .const (Value.int IntKind.i64 0)), (1, .const (Value.int IntKind.i64 5))]) (x := (⟨0, 5, 0, 0, 0, zOxm⟩ : Action)) rfl rfl rfl (by kernel_rfl) zr95 ⟨_, _, lAction_0, _, by kernel_rfl, (vk rfl), _, _, lAction_1, _, by kernel_rfl, (vk rfl), rfl⟩) rfl ?_
  refine AOps.cons (op_buildSliceR (ps := [(0, .tmp 6)]) (l := [(⟨0, 5, 0, 0, 0, zOxm⟩ : Action)]) rfl rfl sl66 zr95 rfl rfl ⟨_, _, Lens.idx 1 kAction 0 (by decide), _, rfl, (vt rfl), rfl⟩ rfl) rfl ?_
  refine AOps.cons (op_build (ps := [(3, .tmp 7)]) (x := (⟨0, 0, 0, [(⟨0, 5, 0, 0, 0, zOxm⟩ : Action)]⟩ : Bucket)) rfl rfl rfl (by kernel_rfl) zr68 ⟨_, _, lBucket_3, _, by kernel_rfl, (vt rfl), rfl⟩) rfl ?_
  refine AOps.cons (op_buildSliceR (ps := [(0, .tmp 5), (1, .tmp 8)]) (l := [(⟨0, 0, 0, [(⟨0, 4, 0, 0, 0, zOxm⟩ : Action)]⟩ : Bucket), (⟨0, 0, 0, [(⟨0, 5, 0, 0, 0, zOxm⟩ : Action)]⟩ : Bucket)]) rfl rfl sl61 zr68 rfl rfl ⟨_, _, Lens.idx 2 kBucket 0 (by decide), _, rfl, (vt rfl), _, _, Lens.idx 2 kBucket 1 (by decide), _, rfl, (vt rfl), rfl⟩ rfl) rfl ?_
  refine AOps.cons (op_build (ps := [(0, .const (Value.int IntKind.i64 1)), (1, .const (Value.int IntKind.i64 1)), (2, .tmp 9)]) (x := (⟨1, 1, [(⟨0, 0, 0, [(⟨0, 4, 0, 0, 0, zOxm⟩ : Action)]⟩ : Bucket), (⟨0, 0, 0, [(⟨0, 5, 0, 0, 0, zOxm⟩ : Action)]⟩ : Bucket)]⟩ : Group)) rfl rfl rfl (by kernel_rfl) zr63 ⟨_, _, lGroup_0, _, by kernel_rfl, (vk rfl), _, _, lGroup_1, _, by kernel_rfl, (vk rfl), _, _, lGroup_2, _, by kernel_rfl, (vt rfl), rfl⟩) rfl ?_
  refine AOps.cons (op_buildSliceR (ps := [(0, .tmp 10)]) (l := [(⟨1, 1, [(⟨0, 0, 0, [(⟨0, 4, 0, 0, 0, zOxm⟩ : Action)]⟩ : Bucket), (⟨0, 0, 0, [(⟨0, 5, 0, 0, 0, zOxm⟩ : Action)]⟩ : Bucket)]⟩ : Group)]) rfl rfl sl22 zr63 rfl rfl ⟨_, _, Lens.idx 1 kGroup 0 (by decide), _, rfl, (vt rfl), rfl⟩ rfl) rfl ?_
  refine AOps.cons (op_assign (A := rd (ksl kGroup) [(⟨1, 1, [(⟨0, 0, 0, [(⟨0, 4, 0, 0, 0, zOxm⟩ : Action)]⟩ : Bucket), (⟨0, 0, 0, [(⟨0, 5, 0, 0, 0, zOxm⟩ : Action)]⟩ : Bucket)]⟩ : Group)]) rfl rfl (vt rfl)) rfl ?_
  refine AOps.nil ?_
  refine AW.seq ?_
  obtain ⟨x1, hx1, h⟩ := bsome h
  refine AW.region ?_
  refine AOps.cons (op_move (A := rd (ksl kGroup) [(⟨1, 1, [(⟨0, 0, 0, [(⟨0, 4, 0, 0, 0, zOxm⟩ : Action)]⟩ : Bucket), (⟨0, 0, 0, [(⟨0, 5, 0, 0, 0, zOxm⟩ : Action)]⟩ : Bucket)]⟩ : Group)]) rfl rfl (vt rfl)) rfl ?_
  refine AOps.cons (op_build (ps := [(0, .const (Value.int IntKind.i64 1))]) (x := (⟨1, []⟩ : Env)) rfl rfl rfl (by kernel_rfl) zr25 ⟨_, _, lEnv_0, _, by kernel_rfl, (vk rfl), rfl⟩) rfl ?_
  refine AOps.cons (op_build (ps := [(1, .const (Value.bool true)), (2, .const (Value.int IntKind.i64 1))]) (x := (⟨(Vector.replicate 24 zTern), true, 1, 0⟩ : Atom)) rfl rfl rfl (by kernel_rfl) zr53 ⟨_, _, lAtom_1, _, by kernel_rfl, vb, _, _, lAtom_2, _, by kernel_rfl, (vk rfl), rfl⟩) rfl ?_
  refine AOps.cons (op_build (ps := [(2, .const (Value.int IntKind.i64 6))]) (x := (⟨(Vector.replicate 24 zTern), false, 6, 0⟩ : Atom)) rfl rfl rfl (by kernel_rfl) zr53 ⟨_, _, lAtom_2, _, by kernel_rfl, (vk rfl), rfl⟩) rfl ?_
  refine AOps.cons (op_buildSliceR (ps := [(0, .tmp 14), (1, .tmp 15)]) (l := [(⟨(Vector.replicate 24 zTern), true, 1, 0⟩ : Atom), (⟨(Vector.replicate 24 zTern), false, 6, 0⟩ : Atom)]) rfl rfl sl44 zr53 rfl rfl ⟨_, _, Lens.idx 2 kAtom 0 (by decide), _, rfl, (vt rfl), _, _, Lens.idx 2 kAtom 1 (by decide), _, rfl, (vt rfl), rfl⟩ rfl) rfl ?_
  refine AOps.cons (op_call (xs := [.tmp 12, .tmp 13, .tmp 16]) (c_norm_List _ _ _ _ hx1) (Ent.mk Try.func18 rfl rfl) rfl rfl ⟨vt rfl, vt rfl, vt rfl, trivial⟩) rfl ?_
  refine AOps.cons (op_assign (A := rd (ksl kAtom) x1) rfl rfl (vt rfl)) rfl ?_
  refine AOps.nil ?_
  refine AW.seq ?_
  obtain ⟨e2, he2, h⟩ := bsome h
  obtain ⟨e3, he3, h⟩ := bsome h
  obtain ⟨e4, he4, h⟩ := bsome h
  obtain ⟨x5, hx5, h⟩ := bsome h
  obtain ⟨x6, hx6, h⟩ := bsome h
  refine AW.region ?_
  refine AOps.cons (op_move (A := rd (ksl kAtom) x1) rfl rfl (vt rfl)) rfl ?_
  refine AOps.cons (op_len' rfl rfl sl44 (vt rfl)) rfl ?_
  refine AOps.cons (op_eql rfl rfl (vt rfl) (vk rfl)) rfl ?_
  refine AOps.cons (op_move (A := rd kbool (decide ((x1.length : Int) = 2))) rfl rfl (vt rfl)) rfl ?_
  refine AOps.consG (OpG.guard rfl rfl rfl rfl rfl fun hq => op_move (A := rd (ksl kAtom) x1) rfl rfl (vt rfl)) ?_
  refine AOps.consG (OpG.guard rfl rfl rfl rfl rfl fun hq => op_indexs' rfl rfl sl44 (vgt rfl hq) (vk rfl) (opt_t he2 hq)) ?_
  refine AOps.consG (OpG.guard rfl rfl rfl rfl rfl fun hq => op_fieldp lAtom_2 rfl rfl fl53_2 (vgt rfl hq)) ?_
  refine AOps.consG (OpG.guard rfl rfl rfl rfl rfl fun hq => op_loadp rfl rfl ty3 (vgt rfl hq)) ?_
  refine AOps.consG (OpG.guard rfl rfl rfl rfl rfl fun hq => op_eql rfl rfl (vgt rfl hq) (vk rfl)) ?_
  refine AOps.cons (op_all rfl rfl (vt rfl) (vt rfl)) rfl ?_
  refine AOps.cons (op_move (A := rd kbool ((decide ((x1.length : Int) = 2)) && (decide (e2.Port = 5)))) rfl rfl (vt rfl)) rfl ?_
  refine AOps.consG (OpG.guard rfl rfl rfl rfl rfl fun hq => op_move (A := rd (ksl kAtom) x1) rfl rfl (vt rfl)) ?_
  refine AOps.consG (OpG.guard rfl rfl rfl rfl rfl fun hq => op_indexs' rfl rfl sl44 (vgt rfl hq) (vk rfl) (opt_t he3 hq)) ?_
  refine AOps.consG (OpG.guard rfl rfl rfl rfl rfl fun hq => op_fieldp lAtom_1 rfl rfl fl53_1 (vgt rfl hq)) ?_
  refine AOps.consG (OpG.guard rfl rfl rfl rfl rfl fun hq => op_loadp rfl rfl ty4 (vgt rfl hq)) ?_
  refine AOps.consG (OpG.guard rfl rfl rfl rfl rfl fun hq => op_not rfl rfl (vgt rfl hq)) ?_
  refine AOps.cons (op_all rfl rfl (vt rfl) (vt rfl)) rfl ?_
  refine AOps.cons (op_move (A := rd kbool (((decide ((x1.length : Int) = 2)) && (decide (e2.Port = 5))) && (!e3.Group))) rfl rfl (vt rfl)) rfl ?_
  refine AOps.consG (OpG.guard rfl rfl rfl rfl rfl fun hq => op_move (A := rd (ksl kAtom) x1) rfl rfl (vt rfl)) ?_
  refine AOps.consG (OpG.guard rfl rfl rfl rfl rfl fun hq => op_indexs' rfl rfl sl44 (vgt rfl hq) (vk rfl) (opt_t he4 hq)) ?_
  refine AOps.consG (OpG.guard rfl rfl rfl rfl rfl fun hq => op_fieldp lAtom_2 rfl rfl fl53_2 (vgt rfl hq)) ?_
  refine AOps.consG (OpG.guard rfl rfl rfl rfl rfl fun hq => op_loadp rfl rfl ty3 (vgt rfl hq)) ?_
  refine AOps.consG (OpG.guard rfl rfl rfl rfl rfl fun hq => op_eql rfl rfl (vgt rfl hq) (vk rfl)) ?_
  refine AOps.cons (op_all rfl rfl (vt rfl) (vt rfl)) rfl ?_
  refine AOps.cons (op_move (A := rd kbool ((((decide ((x1.length : Int) = 2)) && (decide (e2.Port = 5))) && (!e3.Group)) && (decide (e4.Port = 6)))) rfl rfl (vt rfl)) rfl ?_
  refine AOps.consG (OpG.guard rfl rfl rfl rfl rfl fun hq => op_move (A := rd (ksl kGroup) [(⟨1, 1, [(⟨0, 0, 0, [(⟨0, 4, 0, 0, 0, zOxm⟩ : Action)]⟩ : Bucket), (⟨0, 0, 0, [(⟨0, 5, 0, 0, 0, zOxm⟩ : Action)]⟩ : Bucket)]⟩ : Group)]) rfl rfl (vt rfl)) ?_
  refine AOps.consG (OpG.guard rfl rfl rfl rfl rfl fun hq => op_build (ps := []) (x := (⟨0, []⟩ : Env)) rfl rfl rfl (by kernel_rfl) zr25 rfl) ?_
  refine AOps.consG (OpG.guard rfl rfl rfl rfl rfl fun hq => op_call (xs := []) (c_rewrite_None _ (opt_t hx5 hq)) (Ent.mk Try.func46 rfl rfl) rfl rfl trivial) ?_
  refine AOps.consG (OpG.guard rfl rfl rfl rfl rfl fun hq => op_call (xs := [.tmp 43, .tmp 44, .const (Value.int IntKind.i64 1), .tmp 45]) (c_norm_Group _ _ _ _ _ (opt_t hx6 hq)) (Ent.mk Try.func45 rfl rfl) rfl rfl ⟨vgt rfl hq, vgt rfl hq, vk rfl, vgt rfl hq, trivial⟩) ?_
  refine AOps.consG (OpG.guard rfl rfl rfl rfl rfl fun hq => op_len' rfl rfl sl44 (vgt rfl hq)) ?_
  refine AOps.consG (OpG.guard rfl rfl rfl rfl rfl fun hq => op_eql rfl rfl (vgt rfl hq) (vk rfl)) ?_
  refine AOps.cons (op_all rfl rfl (vt rfl) (vt rfl)) rfl ?_
  refine AOps.cons (op_assign (A := rd kbool (((((decide ((x1.length : Int) = 2)) && (decide (e2.Port = 5))) && (!e3.Group)) && (decide (e4.Port = 6))) && (decide ((x6.length : Int) = 1)))) rfl rfl (vt rfl)) rfl ?_
  refine AOps.nil ?_
  refine AW.ret ?_
  obtain rfl := Option.some.inj h
  exact ret1 Try.results17 rfl (out_tmp rfl)
end Go.Proofs.Ytknpgojdkobgjaa.W
set_option linter.unusedVariables false
set_option maxRecDepth 4000
set_option linter.unusedSimpArgs false
namespace Go.Proofs.Ytknpgojdkobgjaa.W
open Go Go.Wb
def F_slices_IndexFunc_Atom_l1 (s1 : (List Atom)) (f2 : (Atom → Option Bool)) : Nat → Nat → Option Int
  | 0, i3 => some (-1)
  | m4 + 1, i3 => (lget s1 (i3 : Int)).bind fun e5 => (f2 e5).bind fun x6 => (bif x6 then some (i3 : Int) else (F_slices_IndexFunc_Atom_l1 s1 f2 m4) (i3 + 1))
def F_slices_IndexFunc_Atom (s1 : (List Atom)) (f2 : (Atom → Option Bool)) : Option Int :=
  F_slices_IndexFunc_Atom_l1 s1 f2 ((s1.length : Int) : Int).toNat 0
theorem c_slices_IndexFunc_Atom (s1 : (List Atom)) (f2 : (Atom → Option Bool)) (r : Int) (h : F_slices_IndexFunc_Atom s1 f2 = some r) : PCon Try.prog 48 [rd (ksl kAtom) s1, fn1 Try.prog kAtom kbool f2] (rd (kint .i64) r) := by
  refine PCon.of (Con.intro0 Try.func48 rfl Try.ntmps48 rfl fun w H => ?_)
  unfold F_slices_IndexFunc_Atom at h
  refine AW.seq ?_
  refine AW.region ?_
  refine AOps.cons (op_assign (A := rd (kint .i64) 0) rfl rfl (vk rfl)) rfl ?_
  refine AOps.nil ?_
  refine AW.seq ?_
  refine AW.seq ?_
  refine AW.region ?_
  refine AOps.cons (op_move (A := rd (ksl kAtom) s1) rfl rfl (vt rfl)) rfl ?_
  refine AOps.cons (op_len' rfl rfl sl44 (vt rfl)) rfl ?_
  refine AOps.cons (op_move (A := rd (kint .i64) 0) rfl rfl (vk rfl)) rfl ?_
  refine AOps.nil ?_
  refine AW.block ?_
  refine AW.loopG (d := []) (ν := Nat × Nat) (fun n => Cnt (s1.length : Int) n.2 n.1 ∧ F_slices_IndexFunc_Atom_l1 s1 f2 n.1 n.2 = some r) (fun n => n.1) (fun n => [(0, rd (ksl kAtom) s1), (1, fn1 Try.prog kAtom kbool f2), (7, rd (kint .i64) (s1.length : Int)), (8, rd (kint .i64) (n.2 : Int))]) (fun n => []) (((s1.length : Int) : Int).toNat, 0) ⟨Cnt.start _, h⟩ ⟨rfl, ⟨rfl, rfl, rfl, rfl, trivial⟩, trivial⟩ ?_
  rintro ⟨m4, i3⟩ ⟨hsf1, h⟩
  change Cnt (s1.length : Int) i3 m4 at hsf1
  change F_slices_IndexFunc_Atom_l1 s1 f2 m4 i3 = some r at h
  change AW _ _ _ ⟨slots [(0, rd (ksl kAtom) s1), (1, fn1 Try.prog kAtom kbool f2), (7, rd (kint .i64) (s1.length : Int)), (8, rd (kint .i64) (i3 : Int))], ress [], _⟩
  cases m4 with
  | zero =>
    unfold F_slices_IndexFunc_Atom_l1 at h
    refine AW.seq ?_
    refine AW.region ?_
    refine AOps.cons (op_lss rfl rfl (vt rfl) (vt rfl)) rfl ?_
    refine AOps.nil ?_
    refine AW.seq ?_
    refine AW.cond (vt rfl) (fun hc => absurd (of_decide_eq_true hc) hsf1.zero) (fun hc => ?_)
    refine AW.exit ?_
    refine AW.seq ?_
    refine AW.region ?_
    refine AOps.cons (op_assign (A := rd (kint .i64) (-1)) rfl rfl (vk rfl)) rfl ?_
    refine AOps.nil ?_
    refine AW.ret ?_
    obtain rfl := Option.some.inj h
    exact ret1 Try.results48 rfl (out_tmp rfl)
  | succ m4 =>
    unfold F_slices_IndexFunc_Atom_l1 at h
    generalize hgo1 : F_slices_IndexFunc_Atom_l1 s1 f2 m4 = go1 at h
    refine AW.seq ?_
    refine AW.region ?_
    refine AOps.cons (op_lss rfl rfl (vt rfl) (vt rfl)) rfl ?_
    refine AOps.nil ?_
    refine AW.seq ?_
    refine AW.cond (vt rfl) (fun hc => ?_) (fun hc => absurd hsf1.succ (of_decide_eq_false hc))
    have hlti3 := of_decide_eq_true hc
    refine AW.skip ?_
    refine AW.seq ?_
    refine AW.block ?_
    refine AW.seq ?_
    refine AW.region ?_
    refine AOps.cons (op_move (A := rd (kint .i64) (i3 : Int)) rfl rfl (vt rfl)) rfl ?_
    refine AOps.cons (op_assign (A := rd (kint .i64) (i3 : Int)) rfl rfl (vt rfl)) rfl ?_
    refine AOps.nil ?_
    refine AW.seq ?_
    obtain ⟨e5, he5, h⟩ := bsome h
    obtain ⟨x6, hx6, h⟩ := bsome h
    refine AW.region ?_
    refine AOps.cons (op_move (A := fn1 Try.prog kAtom kbool f2) rfl rfl (vt rfl)) rfl ?_
    refine AOps.cons (op_move (A := rd (ksl kAtom) s1) rfl rfl (vt rfl)) rfl ?_
    refine AOps.cons (op_move (A := rd (kint .i64) (i3 : Int)) rfl rfl (vt rfl)) rfl ?_
    refine AOps.cons (op_indexs' rfl rfl sl44 (vt rfl) (vt rfl) he5) rfl ?_
    refine AOps.cons (op_loadp rfl rfl ty53 (vt rfl)) rfl ?_
    refine AOps.cons (op_call1 hx6 rfl rfl (vt rfl) (vt rfl)) rfl ?_
    refine AOps.nil ?_
    refine AW.cond (vt rfl) (fun hc => ?_) (fun hc => ?_)
    · have h := cond_t hc h
      refine AW.seq ?_
      refine AW.region ?_
      refine AOps.cons (op_move (A := rd (kint .i64) (i3 : Int)) rfl rfl (vt rfl)) rfl ?_
      refine AOps.cons (op_assign (A := rd (kint .i64) (i3 : Int)) rfl rfl (vt rfl)) rfl ?_
      refine AOps.nil ?_
      refine AW.ret ?_
      obtain rfl := Option.some.inj h
      exact ret1 Try.results48 rfl (out_tmp rfl)
    · have h := cond_f hc h
      refine AW.skip ?_
      refine AW.region ?_
      refine AOps.cons (op_incr (t := 7) rfl rfl (vt rfl) (vk rfl) (vt rfl) hlti3) rfl ?_
      refine AOps.cons (op_move (A := rd (kint .i64) ((i3 + 1 : Nat) : Int)) rfl rfl (vt rfl)) rfl ?_
      refine AOps.nil ?_
      subst hgo1
      exact ⟨(m4, i3 + 1), Nat.lt_succ_self _, ⟨hsf1.next, h⟩, ⟨rfl, ⟨rfl, rfl, rfl, rfl, trivial⟩, trivial⟩⟩
def F_slices_ContainsFunc_Atom (s1 : (List Atom)) (f2 : (Atom → Option Bool)) : Option Bool :=
  (F_slices_IndexFunc_Atom s1 f2).bind fun x3 => some (decide (x3 ≥ 0))
theorem c_slices_ContainsFunc_Atom (s1 : (List Atom)) (f2 : (Atom → Option Bool)) (r : Bool) (h : F_slices_ContainsFunc_Atom s1 f2 = some r) : PCon Try.prog 19 [rd (ksl kAtom) s1, fn1 Try.prog kAtom kbool f2] (rd kbool r) := by
  refine PCon.of (Con.intro0 Try.func19 rfl Try.ntmps19 rfl fun w H => ?_)
  unfold F_slices_ContainsFunc_Atom at h
  refine AW.seq ?_
  refine AW.region ?_
  refine AOps.cons (op_assign (A := rd kbool false) rfl rfl vb) rfl ?_
  refine AOps.nil ?_
  refine AW.seq ?_
  obtain ⟨x3, hx3, h⟩ := bsome h
  refine AW.region ?_
  refine AOps.cons (op_move (A := rd (ksl kAtom) s1) rfl rfl (vt rfl)) rfl ?_
  refine AOps.cons (op_move (A := fn1 Try.prog kAtom kbool f2) rfl rfl (vt rfl)) rfl ?_
  refine AOps.cons (op_call (xs := [.tmp 5, .tmp 6]) (c_slices_IndexFunc_Atom _ _ _ hx3) (Ent.mk Try.func48 rfl rfl) rfl rfl ⟨vt rfl, vt rfl, trivial⟩) rfl ?_
  refine AOps.cons (op_geq rfl rfl (vt rfl) (vk rfl)) rfl ?_
  refine AOps.cons (op_assign (A := rd kbool (decide (x3 ≥ 0))) rfl rfl (vt rfl)) rfl ?_
  refine AOps.nil ?_
  refine AW.ret ?_
  obtain rfl := Option.some.inj h
  exact ret1 Try.results19 rfl (out_tmp rfl)
def F_l38_NormOut_1 (y1 : Atom) : Option Bool :=
  some y1.Group
theorem c_l38_NormOut_1 (y1 : Atom) (r : Bool) (h : F_l38_NormOut_1 y1 = some r) : PCon Try.prog 20 [rd kAtom y1] (rd kbool r) := by
  refine PCon.of (Con.intro0 Try.func20 rfl Try.ntmps20 rfl fun w H => ?_)
  unfold F_l38_NormOut_1 at h
  refine AW.seq ?_
  refine AW.region ?_
  refine AOps.consT rfl (op_box 2 rfl rfl (vt rfl)) ?_
  rintro _ ⟨g2, rfl⟩
  refine AOps.cons (op_assign (A := rd kbool false) rfl rfl vb) rfl ?_
  refine AOps.nil ?_
  refine AW.seq ?_
  refine AW.region ?_
  refine AOps.cons (op_field lAtom_1 rfl rfl fl53_1 (vt rfl)) rfl ?_
  refine AOps.cons (op_load rfl rfl ty4 (vt rfl) (i := 2) rfl) rfl ?_
  refine AOps.cons (op_assign (A := rd kbool y1.Group) rfl rfl (vt rfl)) rfl ?_
  refine AOps.nil ?_
  refine AW.ret ?_
  obtain rfl := Option.some.inj h
  exact ret1 Try.results20 rfl (out_tmp rfl)
def F_rewrite_Apply_l1 : (List Tern) → Nat → (Vector Wide 24) → Option (Vector Wide 24)
  | [], i8, b7 => some b7
  | x10 :: l9, i8, b7 => (chk 24 (i8 : Int)).bind fun j12 => (F_wide_Less (Vector.get b7 j12) x10.Mask).bind fun x13 => (F_wide_And x10.Value x10.Mask).bind fun x14 => (F_wide_Or x13 x14).bind fun x15 => (chk 24 (i8 : Int)).bind fun j16 => (F_rewrite_Apply_l1 l9) (i8 + 1) (Vector.set b7 j16.1 x15 j16.2)
def F_rewrite_Apply (r1 : (Vector Tern 24)) (h2 : (Vector Wide 24)) : Option (Vector Wide 24) :=
  F_rewrite_Apply_l1 (Vector.toList r1) 0 h2
theorem c_rewrite_Apply (r1 : (Vector Tern 24)) (h2 : (Vector Wide 24)) (r : (Vector Wide 24)) (h : F_rewrite_Apply r1 h2 = some r) : PCon Try.prog 52 [rd (karr 24 kTern) r1, rd (karr 24 kWide) h2] (rd (karr 24 kWide) r) := by
  refine PCon.of (Con.intro0 Try.func52 rfl Try.ntmps52 rfl fun w H => ?_)
  unfold F_rewrite_Apply at h
  refine AW.seq ?_
  refine AW.region ?_
  refine AOps.consT rfl (op_box 3 rfl rfl (vt rfl)) ?_
  rintro _ ⟨g3, rfl⟩
  refine AOps.consT rfl (op_box 4 rfl rfl (vt rfl)) ?_
  rintro _ ⟨g4, rfl⟩
  refine AOps.consT rfl (op_alloc 5 rfl rfl zr30) ?_
  rintro _ ⟨g5, rfl⟩
  refine AOps.nil ?_
  refine AW.seq ?_
  refine AW.seq ?_
  refine AW.region ?_
  refine AOps.cons (op_load rfl rfl ty51 (vt rfl) (i := 3) rfl) rfl ?_
  refine AOps.cons (op_move (A := rd (kint .i64) 0) rfl rfl (vk rfl)) rfl ?_
  refine AOps.nil ?_
  refine AW.block ?_
  refine AW.loopG (d := []) (ν := (List Tern) × Nat × (Vector Wide 24)) (fun n => Sfx (Vector.toList r1) n.2.1 n.1 ∧ F_rewrite_Apply_l1 n.1 n.2.1 n.2.2 = some r) (fun n => n.1.length) (fun n => [(3, ptrL g4 (Lens.id (karr 24 kWide))), (4, ptrL g5 (Lens.id (karr 24 kWide))), (7, rd (karr 24 kTern) r1), (8, rd (kint .i64) (n.2.1 : Int))]) (fun n => [(4, Blk g4 30 (karr 24 kWide) n.2.2), (5, Blk g5 30 (karr 24 kWide) (Vector.replicate 24 zWide))]) ((Vector.toList r1), 0, h2) ⟨Sfx.start _, h⟩ ⟨rfl, ⟨rfl, rfl, rfl, rfl, trivial⟩, ⟨rfl, rfl, trivial⟩⟩ ?_
  rintro ⟨l9, i8, b7⟩ ⟨hsf1, h⟩
  change Sfx (Vector.toList r1) i8 l9 at hsf1
  change F_rewrite_Apply_l1 l9 i8 b7 = some r at h
  change AW _ _ _ ⟨slots [(3, ptrL g4 (Lens.id (karr 24 kWide))), (4, ptrL g5 (Lens.id (karr 24 kWide))), (7, rd (karr 24 kTern) r1), (8, rd (kint .i64) (i8 : Int))], ress [(4, Blk g4 30 (karr 24 kWide) b7), (5, Blk g5 30 (karr 24 kWide) (Vector.replicate 24 zWide))], _⟩
  cases l9 with
  | nil =>
    unfold F_rewrite_Apply_l1 at h
    refine AW.seq ?_
    refine AW.region ?_
    refine AOps.cons (op_lss rfl rfl (vt rfl) (vk rfl)) rfl ?_
    refine AOps.nil ?_
    refine AW.seq ?_
    refine AW.cond (vt rfl) (fun hc => absurd (of_decide_eq_true hc) (hsf1.niln (by simp))) (fun hc => ?_)
    refine AW.exit ?_
    refine AW.seq ?_
    refine AW.region ?_
    refine AOps.cons (op_load rfl rfl ty30 (vt rfl) (i := 4) rfl) rfl ?_
    refine AOps.cons (op_store rfl rfl ty30 (vt rfl) (i := 5) rfl (vt rfl)) rfl ?_
    refine AOps.nil ?_
    refine AW.ret ?_
    obtain rfl := Option.some.inj h
    exact ret1 Try.results52 rfl (out_cell rfl (i := 5) rfl ty30)
  | cons x10 l9 =>
    unfold F_rewrite_Apply_l1 at h
    generalize hgo1 : F_rewrite_Apply_l1 l9 = go1 at h
    refine AW.seq ?_
    refine AW.region ?_
    refine AOps.cons (op_lss rfl rfl (vt rfl) (vk rfl)) rfl ?_
    refine AOps.nil ?_
    refine AW.seq ?_
    refine AW.cond (vt rfl) (fun hc => ?_) (fun hc => absurd (hsf1.consn (by simp)) (of_decide_eq_false hc))
    have hlti8 := of_decide_eq_true hc
    refine AW.skip ?_
    refine AW.seq ?_
    refine AW.block ?_
    refine AW.seq ?_
    refine AW.region ?_
    refine AOps.cons (op_move (A := rd (kint .i64) (i8 : Int)) rfl rfl (vt rfl)) rfl ?_
    refine AOps.cons (op_indexv rfl rfl ar51 ty49 (vt rfl) (vt rfl) hsf1.lget) rfl ?_
    refine AOps.consT rfl (op_alloc 7 rfl rfl zr49) ?_
    rintro _ ⟨g11, rfl⟩
    refine AOps.cons (op_assign (A := rd (kint .i64) (i8 : Int)) rfl rfl (vt rfl)) rfl ?_
    refine AOps.cons (op_store rfl rfl ty49 (vt rfl) (i := 7) rfl (vt rfl)) rfl ?_
    refine AOps.nil ?_
    obtain ⟨j12, hj12, h⟩ := bsome h
    obtain ⟨x13, hx13, h⟩ := bsome h
    obtain ⟨x14, hx14, h⟩ := bsome h
    obtain ⟨x15, hx15, h⟩ := bsome h
    obtain ⟨j16, hj16, h⟩ := bsome h
    refine AW.regionAny [⟨[5], [12], [], []⟩, ⟨[5], [13], [], []⟩, ⟨[3, 13], [14], [], []⟩, ⟨[14], [15], [4], []⟩, ⟨[6], [16], [], []⟩, ⟨[16], [17], [7], []⟩, ⟨[15, 17], [18], [], []⟩, ⟨[6], [19], [], []⟩, ⟨[19], [20], [7], []⟩, ⟨[6], [21], [], []⟩, ⟨[21], [22], [7], []⟩, ⟨[20, 22], [23], [], []⟩, ⟨[18, 23], [24], [], []⟩, ⟨[3, 12], [25], [], []⟩, ⟨[25, 24], [], [4], [4]⟩] mixed (by kernel_rfl) ?_
    refine SeqA.cons (loc [5] [] rfl rfl fun S hs hr => op_move (A := rd (kint .i64) (i8 : Int)) rfl rfl (vt ((hs 5 rfl).trans rfl))) ⟨rfl, rfl, rfl, rfl⟩ ?_
    refine SeqA.cons (loc [5] [] rfl rfl fun S hs hr => op_move (A := rd (kint .i64) (i8 : Int)) rfl rfl (vt ((hs 5 rfl).trans rfl))) ⟨rfl, rfl, rfl, rfl⟩ ?_
    refine SeqA.cons (loc [3, 13] [] rfl rfl fun S hs hr => op_index' rfl rfl ar30 (vt ((hs 3 rfl).trans rfl)) (vt ((hs 13 rfl).trans rfl)) hj12) ⟨rfl, rfl, rfl, rfl⟩ ?_
    refine SeqA.cons (loc [14] [4] rfl rfl fun S hs hr => op_load rfl rfl ty28 (vt ((hs 14 rfl).trans rfl)) (i := 4) ((hr 4 rfl).trans rfl)) ⟨rfl, rfl, rfl, rfl⟩ ?_
    refine SeqA.cons (loc [6] [] rfl rfl fun S hs hr => op_field lTern_1 rfl rfl fl49_1 (vt ((hs 6 rfl).trans rfl))) ⟨rfl, rfl, rfl, rfl⟩ ?_
    refine SeqA.cons (loc [16] [7] rfl rfl fun S hs hr => op_load rfl rfl ty28 (vt ((hs 16 rfl).trans rfl)) (i := 7) ((hr 7 rfl).trans rfl)) ⟨rfl, rfl, rfl, rfl⟩ ?_
    refine SeqA.cons (loc [15, 17] [] rfl rfl fun S hs hr => op_call (xs := [.tmp 15, .tmp 17]) (c_wide_Less _ _ _ hx13) (Ent.mk Try.func83 rfl rfl) rfl rfl ⟨vt ((hs 15 rfl).trans rfl), vt ((hs 17 rfl).trans rfl), trivial⟩) ⟨rfl, rfl, rfl, rfl⟩ ?_
    refine SeqA.cons (loc [6] [] rfl rfl fun S hs hr => op_field lTern_0 rfl rfl fl49_0 (vt ((hs 6 rfl).trans rfl))) ⟨rfl, rfl, rfl, rfl⟩ ?_
    refine SeqA.cons (loc [19] [7] rfl rfl fun S hs hr => op_load rfl rfl ty28 (vt ((hs 19 rfl).trans rfl)) (i := 7) ((hr 7 rfl).trans rfl)) ⟨rfl, rfl, rfl, rfl⟩ ?_
    refine SeqA.cons (loc [6] [] rfl rfl fun S hs hr => op_field lTern_1 rfl rfl fl49_1 (vt ((hs 6 rfl).trans rfl))) ⟨rfl, rfl, rfl, rfl⟩ ?_
    refine SeqA.cons (loc [21] [7] rfl rfl fun S hs hr => op_load rfl rfl ty28 (vt ((hs 21 rfl).trans rfl)) (i := 7) ((hr 7 rfl).trans rfl)) ⟨rfl, rfl, rfl, rfl⟩ ?_
    refine SeqA.cons (loc [20, 22] [] rfl rfl fun S hs hr => op_call (xs := [.tmp 20, .tmp 22]) (c_wide_And _ _ _ hx14) (Ent.mk Try.func84 rfl rfl) rfl rfl ⟨vt ((hs 20 rfl).trans rfl), vt ((hs 22 rfl).trans rfl), trivial⟩) ⟨rfl, rfl, rfl, rfl⟩ ?_
    refine SeqA.cons (loc [18, 23] [] rfl rfl fun S hs hr => op_call (xs := [.tmp 18, .tmp 23]) (c_wide_Or _ _ _ hx15) (Ent.mk Try.func82 rfl rfl) rfl rfl ⟨vt ((hs 18 rfl).trans rfl), vt ((hs 23 rfl).trans rfl), trivial⟩) ⟨rfl, rfl, rfl, rfl⟩ ?_
    refine SeqA.cons (loc [3, 12] [] rfl rfl fun S hs hr => op_index' rfl rfl ar30 (vt ((hs 3 rfl).trans rfl)) (vt ((hs 12 rfl).trans rfl)) hj16) ⟨rfl, rfl, rfl, rfl⟩ ?_
    refine SeqA.cons (locr [25, 24] [4] rfl fun S hs hr => op_store rfl rfl ty28 (vt ((hs 25 rfl).trans rfl)) (i := 4) ((hr 4 rfl).trans rfl) (vt ((hs 24 rfl).trans rfl))) ⟨rfl, rfl, rfl, rfl⟩ ?_
    refine AW.region ?_
    refine AOps.cons (op_incrc rfl rfl (vt rfl) (vk rfl) rfl hlti8) rfl ?_
    refine AOps.cons (op_move (A := rd (kint .i64) ((i8 + 1 : Nat) : Int)) rfl rfl (vt rfl)) rfl ?_
    refine AOps.nil ?_
    subst hgo1
    exact ⟨(l9, i8 + 1, (Vector.set b7 j16.1 x15 j16.2)), Nat.lt_succ_self _, ⟨hsf1.next, h⟩, ⟨rfl, ⟨rfl, rfl, rfl, rfl, trivial⟩, ⟨rfl, rfl, trivial⟩⟩⟩
def F_exec_most (a1 : Action) : Option Int :=
  (bif (decide (a1.Port = 4294967293)) then some a1.Max else some 0)
theorem c_exec_most (a1 : Action) (r : Int) (h : F_exec_most a1 = some r) : PCon Try.prog 106 [rd kAction a1] (rd (kint .i64) r) := by
  refine PCon.of (Con.intro0 Try.func106 rfl Try.ntmps106 rfl fun w H => ?_)
  unfold F_exec_most at h
  refine AW.seq ?_
  refine AW.region ?_
  refine AOps.consT rfl (op_box 2 rfl rfl (vt rfl)) ?_
  rintro _ ⟨g2, rfl⟩
  refine AOps.cons (op_assign (A := rd (kint .i64) 0) rfl rfl (vk rfl)) rfl ?_
  refine AOps.nil ?_
  refine AW.seq ?_
  refine AW.seq ?_
  refine AW.region ?_
  refine AOps.cons (op_field lAction_1 rfl rfl fl95_1 (vt rfl)) rfl ?_
  refine AOps.cons (op_load rfl rfl ty3 (vt rfl) (i := 2) rfl) rfl ?_
  refine AOps.cons (op_eql rfl rfl (vt rfl) (vk rfl)) rfl ?_
  refine AOps.nil ?_
  refine AW.cond (vt rfl) (fun hc => ?_) (fun hc => ?_)
  · have h := cond_t hc h
    refine AW.seq ?_
    refine AW.region ?_
    refine AOps.cons (op_field lAction_2 rfl rfl fl95_2 (vt rfl)) rfl ?_
    refine AOps.cons (op_load rfl rfl ty3 (vt rfl) (i := 2) rfl) rfl ?_
    refine AOps.cons (op_assign (A := rd (kint .i64) a1.Max) rfl rfl (vt rfl)) rfl ?_
    refine AOps.nil ?_
    refine AW.ret ?_
    obtain rfl := Option.some.inj h
    exact ret1 Try.results106 rfl (out_tmp rfl)
  · have h := cond_f hc h
    refine AW.skip ?_
    refine AW.seq ?_
    refine AW.region ?_
    refine AOps.cons (op_assign (A := rd (kint .i64) 0) rfl rfl (vk rfl)) rfl ?_
    refine AOps.nil ?_
    refine AW.ret ?_
    obtain rfl := Option.some.inj h
    exact ret1 Try.results106 rfl (out_tmp rfl)
def F_exec_run_group_s_l1 (x5 : (Group × Bool)) (R_exec_run_do : (exec_run → (List Action) → Option exec_run)) (r1 : exec_run) : (List Int) → Nat → (List Out) → Env → (List Group) → (Vector Wide 24) → Int → Option exec_run
  | [], i21, l15, b17, b18, b19, b20 => some (⟨b17, b18, l15, b19, (IntKind.i64.wrap (b20 - 1))⟩ : exec_run)
  | x23 :: l22, i21, l15, b17, b18, b19, b20 => (lget x5.1.Buckets x23).bind fun e24 => (F_aset_Write [] e24.Acts).bind fun x25 => (F_aset_List x25).bind fun x26 => (R_exec_run_do (⟨b17, b18, l15, b19, b20⟩ : exec_run) x26).bind fun b27 => (F_exec_run_group_s_l1 x5 R_exec_run_do r1 l22) (i21 + 1) b27.out b27.Env b27.groups r1.header b27.depth
def F_exec_run_group_s (R_exec_run_do : (exec_run → (List Action) → Option exec_run)) (R_exec_run_group : (exec_run → Int → Option exec_run)) (r1 : exec_run) (id4 : Int) : Option exec_run :=
  (F_group_Find r1.groups id4).bind fun x5 => (bif ((!x5.2) || (decide (r1.depth ≥ 8))) then some (⟨r1.Env, r1.groups, r1.out, r1.header, r1.depth⟩ : exec_run) else (F_env_Takes r1.Env x5.1).bind fun x8 => F_exec_run_group_s_l1 x5 R_exec_run_do r1 x8 0 r1.out r1.Env r1.groups r1.header (IntKind.i64.wrap (r1.depth + 1)))
theorem c_exec_run_group_s (R_exec_run_do : (exec_run → (List Action) → Option exec_run)) (hR_exec_run_do : ∀ (g2 : Nat) (r1 : exec_run) (acts4 : (List Action)) (r : exec_run), R_exec_run_do r1 acts4 = some r → Con Try.prog 77 [ptrL g2 (Lens.id kexec_run_o2), rd (ksl kAction) acts4] (BoxF g2 90 kexec_run_o2 (fun v => (⟨r1.Env, r1.groups, v, r1.header, r1.depth⟩ : exec_run_o2)) 87 kOut r1.out) (fun _ : Unit => top) (fun _ => BoxF g2 90 kexec_run_o2 (fun v => (⟨r.Env, r.groups, v, r.header, r.depth⟩ : exec_run_o2)) 87 kOut r.out)) (R_exec_run_group : (exec_run → Int → Option exec_run)) (hR_exec_run_group : ∀ (g2 : Nat) (r1 : exec_run) (id4 : Int) (r : exec_run), R_exec_run_group r1 id4 = some r → Con Try.prog 44 [ptrL g2 (Lens.id kexec_run_o2), rd (kint .i64) id4] (BoxF g2 90 kexec_run_o2 (fun v => (⟨r1.Env, r1.groups, v, r1.header, r1.depth⟩ : exec_run_o2)) 87 kOut r1.out) (fun _ : Unit => top) (fun _ => BoxF g2 90 kexec_run_o2 (fun v => (⟨r.Env, r.groups, v, r.header, r.depth⟩ : exec_run_o2)) 87 kOut r.out)) (g2 : Nat) (r1 : exec_run) (id4 : Int) (r : exec_run) (h : F_exec_run_group_s R_exec_run_do R_exec_run_group r1 id4 = some r) : Con Try.prog 44 [ptrL g2 (Lens.id kexec_run_o2), rd (kint .i64) id4] (BoxF g2 90 kexec_run_o2 (fun v => (⟨r1.Env, r1.groups, v, r1.header, r1.depth⟩ : exec_run_o2)) 87 kOut r1.out) (fun _ : Unit => top) (fun _ => BoxF g2 90 kexec_run_o2 (fun v => (⟨r.Env, r.groups, v, r.header, r.depth⟩ : exec_run_o2)) 87 kOut r.out) := by
  refine Con.intro Try.func44 rfl Try.ntmps44 rfl fun w H X => ?_
  unfold F_exec_run_group_s at h
  refine AW.unboxF 0 2002 (by decide) rfl rfl fun v3 => ?_
  refine AW.seq ?_
  obtain ⟨x5, hx5, h⟩ := bsome h
  refine AW.region ?_
  refine AOps.cons (op_move (A := ptrL g2 (Lens.id kexec_run_o2)) rfl rfl (vt rfl)) rfl ?_
  refine AOps.cons (op_nilCheck rfl rfl (vt rfl)) rfl ?_
  refine AOps.cons (op_field lexec_run_o2_1 rfl rfl flv90_1_2 (vt rfl)) rfl ?_
  refine AOps.cons (op_load rfl rfl ty22 (vt rfl) (i := 0) rfl) rfl ?_
  refine AOps.cons (op_move (A := rd (kint .i64) id4) rfl rfl (vt rfl)) rfl ?_
  refine AOps.cons (op_call (xs := [.tmp 13, .tmp 14]) (c_group_Find _ _ _ hx5) (Ent.mk Try.func75 rfl rfl) rfl rfl ⟨vt rfl, vt rfl, trivial⟩) rfl ?_
  refine AOps.cons (op_move (A := tup2 (rd kGroup x5.1) (rd kbool x5.2)) rfl rfl (vt rfl)) rfl ?_
  refine AOps.cons (op_fst rfl rfl (vt rfl)) rfl ?_
  refine AOps.cons (op_snd rfl rfl (vt rfl)) rfl ?_
  refine AOps.consT rfl (op_alloc 5 rfl rfl zr63) ?_
  rintro _ ⟨g6, rfl⟩
  refine AOps.cons (op_store rfl rfl ty63 (vt rfl) (i := 5) rfl (vt rfl)) rfl ?_
  refine AOps.cons (op_assign (A := rd kbool x5.2) rfl rfl (vt rfl)) rfl ?_
  refine AOps.nil ?_
  refine AW.seq ?_
  refine AW.seq ?_
  refine AW.region ?_
  refine AOps.cons (op_move (A := rd kbool x5.2) rfl rfl (vt rfl)) rfl ?_
  refine AOps.cons (op_not rfl rfl (vt rfl)) rfl ?_
  refine AOps.cons (op_move (A := rd kbool (!x5.2)) rfl rfl (vt rfl)) rfl ?_
  refine AOps.consG (OpG.guard rfl rfl rfl rfl rfl fun hq => op_move (A := ptrL g2 (Lens.id kexec_run_o2)) rfl rfl (vt rfl)) ?_
  refine AOps.consG (OpG.guard rfl rfl rfl rfl rfl fun hq => op_nilCheck rfl rfl (vgt rfl hq)) ?_
  refine AOps.consG (OpG.guard rfl rfl rfl rfl rfl fun hq => op_field lexec_run_o2_4 rfl rfl flv90_4_2 (vgt rfl hq)) ?_
  refine AOps.consG (OpG.guard rfl rfl rfl rfl rfl fun hq => op_load rfl rfl ty3 (vgt rfl hq) (i := 0) rfl) ?_
  refine AOps.consG (OpG.guard rfl rfl rfl rfl rfl fun hq => op_geq rfl rfl (vgt rfl hq) (vk rfl)) ?_
  refine AOps.cons (op_any rfl rfl (vt rfl) (vt rfl)) rfl ?_
  refine AOps.nil ?_
  refine AW.cond (vt rfl) (fun hc => ?_) (fun hc => ?_)
  · have h := cond_t hc h
    refine AW.ret ?_
    obtain rfl := Option.some.inj h
    exact RetOK.turn (Turn.packF 0 2002 (fun v => (⟨r1.Env, r1.groups, v, r1.header, r1.depth⟩ : exec_run_o2)) (by decide) rfl rfl) (ret0Y (i := 0) Try.results44 rfl rfl)
  · have h := cond_f hc h
    refine AW.skip ?_
    refine AW.seq ?_
    refine AW.region ?_
    refine AOps.cons (op_move (A := ptrL g2 (Lens.id kexec_run_o2)) rfl rfl (vt rfl)) rfl ?_
    refine AOps.cons (op_nilCheck rfl rfl (vt rfl)) rfl ?_
    refine AOps.cons (op_field lexec_run_o2_3 rfl rfl flv90_3_2 (vt rfl)) rfl ?_
    refine AOps.cons (op_load rfl rfl ty30 (vt rfl) (i := 0) rfl) rfl ?_
    refine AOps.consT rfl (op_alloc 7 rfl rfl zr30) ?_
    rintro _ ⟨g7, rfl⟩
    refine AOps.cons (op_store rfl rfl ty30 (vt rfl) (i := 7) rfl (vt rfl)) rfl ?_
    refine AOps.nil ?_
    refine AW.seq ?_
    refine AW.region ?_
    refine AOps.cons (op_move (A := ptrL g2 (Lens.id kexec_run_o2)) rfl rfl (vt rfl)) rfl ?_
    refine AOps.cons (op_nilCheck rfl rfl (vt rfl)) rfl ?_
    refine AOps.cons (op_field lexec_run_o2_4 rfl rfl flv90_4_2 (vt rfl)) rfl ?_
    refine AOps.cons (op_load rfl rfl ty3 (vt rfl) (i := 0) rfl) rfl ?_
    refine AOps.cons (op_add rfl rfl (vt rfl) (vk rfl)) rfl ?_
    refine AOps.cons (op_nilCheck rfl rfl (vt rfl)) rfl ?_
    refine AOps.cons (op_field lexec_run_o2_4 rfl rfl flv90_4_2 (vt rfl)) rfl ?_
    refine AOps.cons (op_store rfl rfl ty3 (vt rfl) (i := 0) rfl (vt rfl)) rfl ?_
    refine AOps.nil ?_
    refine AW.seq ?_
    refine AW.seq ?_
    obtain ⟨x8, hx8, h⟩ := bsome h
    refine AW.regionAny [⟨[0], [38], [], []⟩, ⟨[38], [39], [], []⟩, ⟨[39], [40], [], []⟩, ⟨[40], [41], [0], []⟩, ⟨[4], [42], [5], []⟩, ⟨[41, 42], [43], [], []⟩, ⟨[43], [44], [], []⟩, ⟨[], [45], [], []⟩] mixed (by kernel_rfl) ?_
    refine SeqA.cons (loc [0] [] rfl rfl fun S hs hr => op_move (A := ptrL g2 (Lens.id kexec_run_o2)) rfl rfl (vt ((hs 0 rfl).trans rfl))) ⟨rfl, rfl, rfl, rfl⟩ ?_
    refine SeqA.cons (loc [38] [] rfl rfl fun S hs hr => op_nilCheck rfl rfl (vt ((hs 38 rfl).trans rfl))) ⟨rfl, rfl, rfl, rfl⟩ ?_
    refine SeqA.cons (loc [39] [] rfl rfl fun S hs hr => op_field lexec_run_o2_0 rfl rfl flv90_0_2 (vt ((hs 39 rfl).trans rfl))) ⟨rfl, rfl, rfl, rfl⟩ ?_
    refine SeqA.cons (loc [40] [0] rfl rfl fun S hs hr => op_load rfl rfl ty25 (vt ((hs 40 rfl).trans rfl)) (i := 0) ((hr 0 rfl).trans rfl)) ⟨rfl, rfl, rfl, rfl⟩ ?_
    refine SeqA.cons (loc [4] [5] rfl rfl fun S hs hr => op_load rfl rfl ty63 (vt ((hs 4 rfl).trans rfl)) (i := 5) ((hr 5 rfl).trans rfl)) ⟨rfl, rfl, rfl, rfl⟩ ?_
    refine SeqA.cons (loc [41, 42] [] rfl rfl fun S hs hr => op_call (xs := [.tmp 41, .tmp 42]) (c_env_Takes _ _ _ hx8) (Ent.mk Try.func76 rfl rfl) rfl rfl ⟨vt ((hs 41 rfl).trans rfl), vt ((hs 42 rfl).trans rfl), trivial⟩) ⟨rfl, rfl, rfl, rfl⟩ ?_
    refine SeqA.cons (loc [43] [] rfl rfl fun S hs hr => op_len' rfl rfl sl23 (vt ((hs 43 rfl).trans rfl))) ⟨rfl, rfl, rfl, rfl⟩ ?_
    refine SeqA.cons (loc [] [] rfl rfl fun S hs hr => op_move (A := rd (kint .i64) 0) rfl rfl (vk rfl)) ⟨rfl, rfl, rfl, rfl⟩ ?_
    refine AW.block ?_
    refine AW.loopG (d := []) (ν := (List Int) × Nat × (List Out) × Env × (List Group) × (Vector Wide 24) × Int × Value) (fun n => Sfx x8 n.2.1 n.1 ∧ F_exec_run_group_s_l1 x5 R_exec_run_do r1 n.1 n.2.1 n.2.2.1 n.2.2.2.1 n.2.2.2.2.1 n.2.2.2.2.2.1 n.2.2.2.2.2.2.1 = some r) (fun n => n.1.length) (fun n => [(0, ptrL g2 (Lens.id kexec_run_o2)), (4, ptrL g6 (Lens.id kGroup)), (6, ptrL g7 (Lens.id (karr 24 kWide))), (43, rd (ksl (kint .i64)) x8), (44, rd (kint .i64) (x8.length : Int)), (45, rd (kint .i64) (n.2.1 : Int))]) (fun n => [(0, Blk g2 90 kexec_run_o2 (⟨n.2.2.2.1, n.2.2.2.2.1, n.2.2.2.2.2.2.2, n.2.2.2.2.2.1, n.2.2.2.2.2.2.1⟩ : exec_run_o2)), (5, Blk g6 63 kGroup x5.1), (7, Blk g7 30 (karr 24 kWide) r1.header), (2002, Row n.2.2.2.2.2.2.2 87 kOut n.2.2.1)]) (x8, 0, r1.out, r1.Env, r1.groups, r1.header, (IntKind.i64.wrap (r1.depth + 1)), v3) ⟨Sfx.start _, h⟩ ⟨rfl, ⟨rfl, rfl, rfl, rfl, rfl, rfl, trivial⟩, ⟨rfl, rfl, rfl, rfl, trivial⟩⟩ ?_
    rintro ⟨l22, i21, l15, b17, b18, b19, b20, v16⟩ ⟨hsf1, h⟩
    change Sfx x8 i21 l22 at hsf1
    change F_exec_run_group_s_l1 x5 R_exec_run_do r1 l22 i21 l15 b17 b18 b19 b20 = some r at h
    change AW _ _ _ ⟨slots [(0, ptrL g2 (Lens.id kexec_run_o2)), (4, ptrL g6 (Lens.id kGroup)), (6, ptrL g7 (Lens.id (karr 24 kWide))), (43, rd (ksl (kint .i64)) x8), (44, rd (kint .i64) (x8.length : Int)), (45, rd (kint .i64) (i21 : Int))], ress [(0, Blk g2 90 kexec_run_o2 (⟨b17, b18, v16, b19, b20⟩ : exec_run_o2)), (5, Blk g6 63 kGroup x5.1), (7, Blk g7 30 (karr 24 kWide) r1.header), (2002, Row v16 87 kOut l15)], _⟩
    cases l22 with
    | nil =>
      unfold F_exec_run_group_s_l1 at h
      refine AW.seq ?_
      refine AW.region ?_
      refine AOps.cons (op_lss rfl rfl (vt rfl) (vt rfl)) rfl ?_
      refine AOps.nil ?_
      refine AW.seq ?_
      refine AW.cond (vt rfl) (fun hc => absurd (of_decide_eq_true hc) hsf1.nil) (fun hc => ?_)
      refine AW.exit ?_
      refine AW.region ?_
      refine AOps.cons (op_move (A := ptrL g2 (Lens.id kexec_run_o2)) rfl rfl (vt rfl)) rfl ?_
      refine AOps.cons (op_nilCheck rfl rfl (vt rfl)) rfl ?_
      refine AOps.cons (op_field lexec_run_o2_4 rfl rfl flv90_4_2 (vt rfl)) rfl ?_
      refine AOps.cons (op_load rfl rfl ty3 (vt rfl) (i := 0) rfl) rfl ?_
      refine AOps.cons (op_sub rfl rfl (vt rfl) (vk rfl)) rfl ?_
      refine AOps.cons (op_nilCheck rfl rfl (vt rfl)) rfl ?_
      refine AOps.cons (op_field lexec_run_o2_4 rfl rfl flv90_4_2 (vt rfl)) rfl ?_
      refine AOps.cons (op_store rfl rfl ty3 (vt rfl) (i := 0) rfl (vt rfl)) rfl ?_
      refine AOps.nil ?_
      obtain rfl := Option.some.inj h
      exact RetOK.turn (Turn.packF 0 2002 (fun v => (⟨b17, b18, v, b19, (IntKind.i64.wrap (b20 - 1))⟩ : exec_run_o2)) (by decide) rfl rfl) (ret0Y (i := 0) Try.results44 rfl rfl)
    | cons x23 l22 =>
      unfold F_exec_run_group_s_l1 at h
      generalize hgo1 : F_exec_run_group_s_l1 x5 R_exec_run_do r1 l22 = go1 at h
      refine AW.seq ?_
      refine AW.region ?_
      refine AOps.cons (op_lss rfl rfl (vt rfl) (vt rfl)) rfl ?_
      refine AOps.nil ?_
      refine AW.seq ?_
      refine AW.cond (vt rfl) (fun hc => ?_) (fun hc => absurd hsf1.cons (of_decide_eq_false hc))
      have hlti21 := of_decide_eq_true hc
      refine AW.skip ?_
      refine AW.seq ?_
      refine AW.block ?_
      refine AW.seq ?_
      refine AW.region ?_
      refine AOps.cons (op_indexs' rfl rfl sl23 (vt rfl) (vt rfl) hsf1.lget) rfl ?_
      refine AOps.cons (op_loadp rfl rfl ty3 (vt rfl)) rfl ?_
      refine AOps.cons (op_assign (A := rd (kint .i64) x23) rfl rfl (vt rfl)) rfl ?_
      refine AOps.nil ?_
      refine AW.seq ?_
      obtain ⟨e24, he24, h⟩ := bsome h
      obtain ⟨x25, hx25, h⟩ := bsome h
      obtain ⟨x26, hx26, h⟩ := bsome h
      obtain ⟨b27, hb27, h⟩ := bsome h
      refine AW.region ?_
      refine AOps.cons (op_move (A := ptrL g2 (Lens.id kexec_run_o2)) rfl rfl (vt rfl)) rfl ?_
      refine AOps.cons (op_field lGroup_2 rfl rfl fl63_2 (vt rfl)) rfl ?_
      refine AOps.cons (op_load rfl rfl ty61 (vt rfl) (i := 5) rfl) rfl ?_
      refine AOps.cons (op_move (A := rd (kint .i64) x23) rfl rfl (vt rfl)) rfl ?_
      refine AOps.cons (op_indexs' rfl rfl sl61 (vt rfl) (vt rfl) he24) rfl ?_
      refine AOps.cons (op_fieldp lBucket_3 rfl rfl fl68_3 (vt rfl)) rfl ?_
      refine AOps.cons (op_loadp rfl rfl ty66 (vt rfl)) rfl ?_
      refine AOps.cons (op_call (xs := [.const (Value.slice none 0 0), .tmp 55]) (c_aset_Write _ _ _ hx25) (Ent.mk Try.func79 rfl rfl) rfl rfl ⟨vnil, vt rfl, trivial⟩) rfl ?_
      refine AOps.cons (op_call (xs := [.tmp 56]) (c_aset_List _ _ hx26) (Ent.mk Try.func78 rfl rfl) rfl rfl ⟨vt rfl, trivial⟩) rfl ?_
      refine AOps.packF 0 2002 (fun v => (⟨b17, b18, v, b19, b20⟩ : exec_run_o2)) (by decide) rfl rfl ?_
      refine AOps.consT rfl (op_callR 0 (xs := [.tmp 49, .tmp 57]) (hR_exec_run_do _ _ _ _ hb27) (Ent.mk Try.func77 rfl rfl) rfl rfl ⟨vt rfl, vt rfl, trivial⟩ rfl) ?_
      rintro _ ⟨_u, rfl⟩
      refine AOps.unboxF 0 2002 (by decide) rfl rfl fun v28 => ?_
      refine AOps.nil ?_
      refine AW.region ?_
      refine AOps.cons (op_move (A := ptrL g2 (Lens.id kexec_run_o2)) rfl rfl (vt rfl)) rfl ?_
      refine AOps.cons (op_load rfl rfl ty30 (vt rfl) (i := 7) rfl) rfl ?_
      refine AOps.cons (op_nilCheck rfl rfl (vt rfl)) rfl ?_
      refine AOps.cons (op_field lexec_run_o2_3 rfl rfl flv90_3_2 (vt rfl)) rfl ?_
      refine AOps.cons (op_store rfl rfl ty30 (vt rfl) (i := 0) rfl (vt rfl)) rfl ?_
      refine AOps.nil ?_
      refine AW.region ?_
      refine AOps.cons (op_incr (t := 44) rfl rfl (vt rfl) (vk rfl) (vt rfl) hlti21) rfl ?_
      refine AOps.cons (op_move (A := rd (kint .i64) ((i21 + 1 : Nat) : Int)) rfl rfl (vt rfl)) rfl ?_
      refine AOps.nil ?_
      subst hgo1
      exact ⟨(l22, i21 + 1, b27.out, b27.Env, b27.groups, r1.header, b27.depth, v28), Nat.lt_succ_self _, ⟨hsf1.next, h⟩, ⟨rfl, ⟨rfl, rfl, rfl, rfl, rfl, rfl, trivial⟩, ⟨rfl, rfl, rfl, rfl, trivial⟩⟩⟩
def F_exec_run_do_s_l1 (R_exec_run_group : (exec_run → Int → Option exec_run)) : (List Action) → Nat → (List Out) → Env → (List Group) → (Vector Wide 24) → Int → Option exec_run
  | [], i17, l11, b13, b14, b15, b16 => some (⟨b13, b14, l11, b15, b16⟩ : exec_run)
  | x19 :: l18, i17, l11, b13, b14, b15, b16 => (bif (decide (x19.Kind = 0)) then (F_exec_most x19).bind fun x21 => (appd l11 [(⟨x19.Port, x21, b15⟩ : Out)]).bind fun l22 => (F_exec_run_do_s_l1 R_exec_run_group l18) (i17 + 1) l22 b13 b14 b15 b16 else (bif (decide (x19.Kind = 22)) then (R_exec_run_group (⟨b13, b14, l11, b15, b16⟩ : exec_run) x19.Group).bind fun b24 => (F_exec_run_do_s_l1 R_exec_run_group l18) (i17 + 1) b24.out b24.Env b24.groups b24.header b24.depth else (F_aset_Rewrite x19).bind fun x26 => (F_rewrite_Apply x26 b15).bind fun x27 => (F_exec_run_do_s_l1 R_exec_run_group l18) (i17 + 1) l11 b13 b14 x27 b16))
def F_exec_run_do_s (R_exec_run_do : (exec_run → (List Action) → Option exec_run)) (R_exec_run_group : (exec_run → Int → Option exec_run)) (r1 : exec_run) (acts4 : (List Action)) : Option exec_run :=
  F_exec_run_do_s_l1 R_exec_run_group acts4 0 r1.out r1.Env r1.groups r1.header r1.depth
theorem c_exec_run_do_s (R_exec_run_do : (exec_run → (List Action) → Option exec_run)) (hR_exec_run_do : ∀ (g2 : Nat) (r1 : exec_run) (acts4 : (List Action)) (r : exec_run), R_exec_run_do r1 acts4 = some r → Con Try.prog 77 [ptrL g2 (Lens.id kexec_run_o2), rd (ksl kAction) acts4] (BoxF g2 90 kexec_run_o2 (fun v => (⟨r1.Env, r1.groups, v, r1.header, r1.depth⟩ : exec_run_o2)) 87 kOut r1.out) (fun _ : Unit => top) (fun _ => BoxF g2 90 kexec_run_o2 (fun v => (⟨r.Env, r.groups, v, r.header, r.depth⟩ : exec_run_o2)) 87 kOut r.out)) (R_exec_run_group : (exec_run → Int → Option exec_run)) (hR_exec_run_group : ∀ (g2 : Nat) (r1 : exec_run) (id4 : Int) (r : exec_run), R_exec_run_group r1 id4 = some r → Con Try.prog 44 [ptrL g2 (Lens.id kexec_run_o2), rd (kint .i64) id4] (BoxF g2 90 kexec_run_o2 (fun v => (⟨r1.Env, r1.groups, v, r1.header, r1.depth⟩ : exec_run_o2)) 87 kOut r1.out) (fun _ : Unit => top) (fun _ => BoxF g2 90 kexec_run_o2 (fun v => (⟨r.Env, r.groups, v, r.header, r.depth⟩ : exec_run_o2)) 87 kOut r.out)) (g2 : Nat) (r1 : exec_run) (acts4 : (List Action)) (r : exec_run) (h : F_exec_run_do_s R_exec_run_do R_exec_run_group r1 acts4 = some r) : Con Try.prog 77 [ptrL g2 (Lens.id kexec_run_o2), rd (ksl kAction) acts4] (BoxF g2 90 kexec_run_o2 (fun v => (⟨r1.Env, r1.groups, v, r1.header, r1.depth⟩ : exec_run_o2)) 87 kOut r1.out) (fun _ : Unit => top) (fun _ => BoxF g2 90 kexec_run_o2 (fun v => (⟨r.Env, r.groups, v, r.header, r.depth⟩ : exec_run_o2)) 87 kOut r.out) := by
  refine Con.intro Try.func77 rfl Try.ntmps77 rfl fun w H X => ?_
  unfold F_exec_run_do_s at h
  refine AW.unboxF 0 2002 (by decide) rfl rfl fun v3 => ?_
  refine AW.seq ?_
  refine AW.region ?_
  refine AOps.cons (op_move (A := rd (ksl kAction) acts4) rfl rfl (vt rfl)) rfl ?_
  refine AOps.cons (op_len' rfl rfl sl66 (vt rfl)) rfl ?_
  refine AOps.cons (op_move (A := rd (kint .i64) 0) rfl rfl (vk rfl)) rfl ?_
  refine AOps.nil ?_
  refine AW.block ?_
  refine AW.loopG (d := []) (ν := (List Action) × Nat × (List Out) × Env × (List Group) × (Vector Wide 24) × Int × Value) (fun n => Sfx acts4 n.2.1 n.1 ∧ F_exec_run_do_s_l1 R_exec_run_group n.1 n.2.1 n.2.2.1 n.2.2.2.1 n.2.2.2.2.1 n.2.2.2.2.2.1 n.2.2.2.2.2.2.1 = some r) (fun n => n.1.length) (fun n => [(0, ptrL g2 (Lens.id kexec_run_o2)), (6, rd (ksl kAction) acts4), (7, rd (kint .i64) (acts4.length : Int)), (8, rd (kint .i64) (n.2.1 : Int))]) (fun n => [(0, Blk g2 90 kexec_run_o2 (⟨n.2.2.2.1, n.2.2.2.2.1, n.2.2.2.2.2.2.2, n.2.2.2.2.2.1, n.2.2.2.2.2.2.1⟩ : exec_run_o2)), (2002, Row n.2.2.2.2.2.2.2 87 kOut n.2.2.1)]) (acts4, 0, r1.out, r1.Env, r1.groups, r1.header, r1.depth, v3) ⟨Sfx.start _, h⟩ ⟨rfl, ⟨rfl, rfl, rfl, rfl, trivial⟩, ⟨rfl, rfl, trivial⟩⟩ ?_
  rintro ⟨l18, i17, l11, b13, b14, b15, b16, v12⟩ ⟨hsf1, h⟩
  change Sfx acts4 i17 l18 at hsf1
  change F_exec_run_do_s_l1 R_exec_run_group l18 i17 l11 b13 b14 b15 b16 = some r at h
  change AW _ _ _ ⟨slots [(0, ptrL g2 (Lens.id kexec_run_o2)), (6, rd (ksl kAction) acts4), (7, rd (kint .i64) (acts4.length : Int)), (8, rd (kint .i64) (i17 : Int))], ress [(0, Blk g2 90 kexec_run_o2 (⟨b13, b14, v12, b15, b16⟩ : exec_run_o2)), (2002, Row v12 87 kOut l11)], _⟩
  cases l18 with
  | nil =>
    unfold F_exec_run_do_s_l1 at h
    refine AW.seq ?_
    refine AW.region ?_
    refine AOps.cons (op_lss rfl rfl (vt rfl) (vt rfl)) rfl ?_
    refine AOps.nil ?_
    refine AW.seq ?_
    refine AW.cond (vt rfl) (fun hc => absurd (of_decide_eq_true hc) hsf1.nil) (fun hc => ?_)
    refine AW.exit ?_
    obtain rfl := Option.some.inj h
    exact RetOK.turn (Turn.packF 0 2002 (fun v => (⟨b13, b14, v, b15, b16⟩ : exec_run_o2)) (by decide) rfl rfl) (ret0Y (i := 0) Try.results77 rfl rfl)
  | cons x19 l18 =>
    unfold F_exec_run_do_s_l1 at h
    generalize hgo1 : F_exec_run_do_s_l1 R_exec_run_group l18 = go1 at h
    refine AW.seq ?_
    refine AW.region ?_
    refine AOps.cons (op_lss rfl rfl (vt rfl) (vt rfl)) rfl ?_
    refine AOps.nil ?_
    refine AW.seq ?_
    refine AW.cond (vt rfl) (fun hc => ?_) (fun hc => absurd hsf1.cons (of_decide_eq_false hc))
    have hlti17 := of_decide_eq_true hc
    refine AW.skip ?_
    refine AW.seq ?_
    refine AW.block ?_
    refine AW.seq ?_
    refine AW.region ?_
    refine AOps.cons (op_indexs' rfl rfl sl66 (vt rfl) (vt rfl) hsf1.lget) rfl ?_
    refine AOps.cons (op_loadp rfl rfl ty95 (vt rfl)) rfl ?_
    refine AOps.consT rfl (op_alloc 6 rfl rfl zr95) ?_
    rintro _ ⟨g20, rfl⟩
    refine AOps.cons (op_store rfl rfl ty95 (vt rfl) (i := 6) rfl (vt rfl)) rfl ?_
    refine AOps.nil ?_
    refine AW.seq ?_
    refine AW.region ?_
    refine AOps.cons (op_field lAction_0 rfl rfl fl95_0 (vt rfl)) rfl ?_
    refine AOps.cons (op_load rfl rfl ty3 (vt rfl) (i := 6) rfl) rfl ?_
    refine AOps.nil ?_
    refine AW.block ?_
    refine AW.seq ?_
    refine AW.region ?_
    refine AOps.cons (op_eql rfl rfl (vt rfl) (vk rfl)) rfl ?_
    refine AOps.cons (op_assign (A := rd kbool (decide (x19.Kind = 0))) rfl rfl (vt rfl)) rfl ?_
    refine AOps.nil ?_
    refine AW.cond (vt rfl) (fun hc => ?_) (fun hc => ?_)
    · have h := cond_t hc h
      obtain ⟨x21, hx21, h⟩ := bsome h
      obtain ⟨l22, hl22, h⟩ := bsome h
      refine AW.regionAny [⟨[0], [26], [], []⟩, ⟨[0], [27], [], []⟩, ⟨[27], [28], [], []⟩, ⟨[28], [29], [], []⟩, ⟨[29], [30], [0], []⟩, ⟨[5], [31], [], []⟩, ⟨[31], [32], [6], []⟩, ⟨[5], [33], [6], []⟩, ⟨[33], [34], [], []⟩, ⟨[0], [35], [], []⟩, ⟨[35], [36], [], []⟩, ⟨[36], [37], [], []⟩, ⟨[37], [38], [0], []⟩, ⟨[32, 34, 38], [39], [], []⟩, ⟨[39], [40], [], []⟩, ⟨[30, 40], [41], [2002], [2002]⟩, ⟨[26], [42], [], []⟩, ⟨[42], [43], [], []⟩, ⟨[43, 41], [41], [0], [0]⟩] mixed (by kernel_rfl) ?_
      refine SeqA.cons (loc [0] [] rfl rfl fun S hs hr => op_move (A := ptrL g2 (Lens.id kexec_run_o2)) rfl rfl (vt ((hs 0 rfl).trans rfl))) ⟨rfl, rfl, rfl, rfl⟩ ?_
      refine SeqA.cons (loc [0] [] rfl rfl fun S hs hr => op_move (A := ptrL g2 (Lens.id kexec_run_o2)) rfl rfl (vt ((hs 0 rfl).trans rfl))) ⟨rfl, rfl, rfl, rfl⟩ ?_
      refine SeqA.cons (loc [27] [] rfl rfl fun S hs hr => op_nilCheck rfl rfl (vt ((hs 27 rfl).trans rfl))) ⟨rfl, rfl, rfl, rfl⟩ ?_
      refine SeqA.cons (loc [28] [] rfl rfl fun S hs hr => op_field lexec_run_o2_2 rfl rfl flv90_2_2 (vt ((hs 28 rfl).trans rfl))) ⟨rfl, rfl, rfl, rfl⟩ ?_
      refine SeqA.cons (loc [29] [0] rfl rfl fun S hs hr => op_loadv v12 rfl rfl tyr41 (vt ((hs 29 rfl).trans rfl)) (i := 0) ((hr 0 rfl).trans rfl) rfl) ⟨rfl, rfl, rfl, rfl⟩ ?_
      refine SeqA.cons (loc [5] [] rfl rfl fun S hs hr => op_field lAction_1 rfl rfl fl95_1 (vt ((hs 5 rfl).trans rfl))) ⟨rfl, rfl, rfl, rfl⟩ ?_
      refine SeqA.cons (loc [31] [6] rfl rfl fun S hs hr => op_load rfl rfl ty3 (vt ((hs 31 rfl).trans rfl)) (i := 6) ((hr 6 rfl).trans rfl)) ⟨rfl, rfl, rfl, rfl⟩ ?_
      refine SeqA.cons (loc [5] [6] rfl rfl fun S hs hr => op_load rfl rfl ty95 (vt ((hs 5 rfl).trans rfl)) (i := 6) ((hr 6 rfl).trans rfl)) ⟨rfl, rfl, rfl, rfl⟩ ?_
      refine SeqA.cons (loc [33] [] rfl rfl fun S hs hr => op_call (xs := [.tmp 33]) (c_exec_most _ _ hx21) (Ent.mk Try.func106 rfl rfl) rfl rfl ⟨vt ((hs 33 rfl).trans rfl), trivial⟩) ⟨rfl, rfl, rfl, rfl⟩ ?_
      refine SeqA.cons (loc [0] [] rfl rfl fun S hs hr => op_move (A := ptrL g2 (Lens.id kexec_run_o2)) rfl rfl (vt ((hs 0 rfl).trans rfl))) ⟨rfl, rfl, rfl, rfl⟩ ?_
      refine SeqA.cons (loc [35] [] rfl rfl fun S hs hr => op_nilCheck rfl rfl (vt ((hs 35 rfl).trans rfl))) ⟨rfl, rfl, rfl, rfl⟩ ?_
      refine SeqA.cons (loc [36] [] rfl rfl fun S hs hr => op_field lexec_run_o2_3 rfl rfl flv90_3_2 (vt ((hs 36 rfl).trans rfl))) ⟨rfl, rfl, rfl, rfl⟩ ?_
      refine SeqA.cons (loc [37] [0] rfl rfl fun S hs hr => op_load rfl rfl ty30 (vt ((hs 37 rfl).trans rfl)) (i := 0) ((hr 0 rfl).trans rfl)) ⟨rfl, rfl, rfl, rfl⟩ ?_
      refine SeqA.cons (loc [32, 34, 38] [] rfl rfl fun S hs hr => op_build (ps := [(0, .tmp 32), (1, .tmp 34), (2, .tmp 38)]) (x := (⟨x19.Port, x21, b15⟩ : Out)) rfl rfl rfl (by kernel_rfl) zr87 ⟨_, _, lOut_0, _, by kernel_rfl, (vt ((hs 32 rfl).trans rfl)), _, _, lOut_1, _, by kernel_rfl, (vt ((hs 34 rfl).trans rfl)), _, _, lOut_2, _, by kernel_rfl, (vt ((hs 38 rfl).trans rfl)), rfl⟩) ⟨rfl, rfl, rfl, rfl⟩ ?_
      refine SeqA.cons (loc [39] [] rfl rfl fun S hs hr => op_buildSliceR (ps := [(0, .tmp 39)]) (l := [(⟨x19.Port, x21, b15⟩ : Out)]) rfl rfl sl41 zr87 rfl rfl ⟨_, _, Lens.idx 1 kOut 0 (by decide), _, rfl, (vt ((hs 39 rfl).trans rfl)), rfl⟩ rfl) ⟨rfl, rfl, rfl, rfl⟩ ?_
      refine SeqA.cons (locs (us := [(41, ownR 87 kOut l22)]) (ur := [(2002, emp)]) [30, 40] [2002] rfl fun S hs hr => op_appendO 2002 hl22 rfl rfl rfl el41 (vt ((hs 30 rfl).trans rfl)) ((hr 2002 rfl).trans rfl) (vt ((hs 40 rfl).trans rfl))) ⟨rfl, rfl, rfl, rfl⟩ ?_
      refine SeqA.cons (loc [26] [] rfl rfl fun S hs hr => op_nilCheck rfl rfl (vt ((hs 26 rfl).trans rfl))) ⟨rfl, rfl, rfl, rfl⟩ ?_
      refine SeqA.cons (loc [42] [] rfl rfl fun S hs hr => op_field lexec_run_o2_2 rfl rfl flv90_2_2 (vt ((hs 42 rfl).trans rfl))) ⟨rfl, rfl, rfl, rfl⟩ ?_
      refine SeqA.cons (locs (us := [(41, top)]) (ur := [(0, BoxF g2 90 kexec_run_o2 (fun v => ((Lens.comp (Lens.id kexec_run_o2) lexec_run_o2_2)).set (⟨b13, b14, v12, b15, b16⟩ : exec_run_o2) v) 87 kOut l22)]) [43, 41] [0] rfl fun S hs hr => op_storeR rfl rfl tyr41 (vt ((hs 43 rfl).trans rfl)) ((hr 0 rfl).trans rfl) ((hs 41 rfl).trans rfl)) ⟨rfl, rfl, rfl, rfl⟩ ?_
      refine AW.unboxF 0 2002 (by decide) rfl rfl fun v23 => ?_
      refine AW.region ?_
      refine AOps.cons (op_incr (t := 7) rfl rfl (vt rfl) (vk rfl) (vt rfl) hlti17) rfl ?_
      refine AOps.cons (op_move (A := rd (kint .i64) ((i17 + 1 : Nat) : Int)) rfl rfl (vt rfl)) rfl ?_
      refine AOps.nil ?_
      subst hgo1
      exact ⟨(l18, i17 + 1, l22, b13, b14, b15, b16, v23), Nat.lt_succ_self _, ⟨hsf1.next, h⟩, ⟨rfl, ⟨rfl, rfl, rfl, rfl, trivial⟩, ⟨rfl, rfl, trivial⟩⟩⟩
    · have h := cond_f hc h
      refine AW.seq ?_
      refine AW.region ?_
      refine AOps.cons (op_eql rfl rfl (vt rfl) (vk rfl)) rfl ?_
      refine AOps.cons (op_assign (A := rd kbool (decide (x19.Kind = 22))) rfl rfl (vt rfl)) rfl ?_
      refine AOps.nil ?_
      refine AW.cond (vt rfl) (fun hc => ?_) (fun hc => ?_)
      · have h := cond_t hc h
        obtain ⟨b24, hb24, h⟩ := bsome h
        refine AW.region ?_
        refine AOps.cons (op_move (A := ptrL g2 (Lens.id kexec_run_o2)) rfl rfl (vt rfl)) rfl ?_
        refine AOps.cons (op_field lAction_3 rfl rfl fl95_3 (vt rfl)) rfl ?_
        refine AOps.cons (op_load rfl rfl ty3 (vt rfl) (i := 6) rfl) rfl ?_
        refine AOps.packF 0 2002 (fun v => (⟨b13, b14, v, b15, b16⟩ : exec_run_o2)) (by decide) rfl rfl ?_
        refine AOps.consT rfl (op_callR 0 (xs := [.tmp 46, .tmp 48]) (hR_exec_run_group _ _ _ _ hb24) (Ent.mk Try.func44 rfl rfl) rfl rfl ⟨vt rfl, vt rfl, trivial⟩ rfl) ?_
        rintro _ ⟨_u, rfl⟩
        refine AOps.unboxF 0 2002 (by decide) rfl rfl fun v25 => ?_
        refine AOps.nil ?_
        refine AW.region ?_
        refine AOps.cons (op_incr (t := 7) rfl rfl (vt rfl) (vk rfl) (vt rfl) hlti17) rfl ?_
        refine AOps.cons (op_move (A := rd (kint .i64) ((i17 + 1 : Nat) : Int)) rfl rfl (vt rfl)) rfl ?_
        refine AOps.nil ?_
        subst hgo1
        exact ⟨(l18, i17 + 1, b24.out, b24.Env, b24.groups, b24.header, b24.depth, v25), Nat.lt_succ_self _, ⟨hsf1.next, h⟩, ⟨rfl, ⟨rfl, rfl, rfl, rfl, trivial⟩, ⟨rfl, rfl, trivial⟩⟩⟩
      · have h := cond_f hc h
        obtain ⟨x26, hx26, h⟩ := bsome h
        obtain ⟨x27, hx27, h⟩ := bsome h
        refine AW.regionAny [⟨[0], [14], [], []⟩, ⟨[5], [15], [6], []⟩, ⟨[15], [16], [], []⟩, ⟨[0], [17], [], []⟩, ⟨[17], [18], [], []⟩, ⟨[18], [19], [], []⟩, ⟨[19], [20], [0], []⟩, ⟨[16, 20], [21], [], []⟩, ⟨[14], [22], [], []⟩, ⟨[22], [23], [], []⟩, ⟨[23, 21], [], [0], [0]⟩] mixed (by kernel_rfl) ?_
        refine SeqA.cons (loc [0] [] rfl rfl fun S hs hr => op_move (A := ptrL g2 (Lens.id kexec_run_o2)) rfl rfl (vt ((hs 0 rfl).trans rfl))) ⟨rfl, rfl, rfl, rfl⟩ ?_
        refine SeqA.cons (loc [5] [6] rfl rfl fun S hs hr => op_load rfl rfl ty95 (vt ((hs 5 rfl).trans rfl)) (i := 6) ((hr 6 rfl).trans rfl)) ⟨rfl, rfl, rfl, rfl⟩ ?_
        refine SeqA.cons (loc [15] [] rfl rfl fun S hs hr => op_call (xs := [.tmp 15]) (c_aset_Rewrite _ _ hx26) (Ent.mk Try.func107 rfl rfl) rfl rfl ⟨vt ((hs 15 rfl).trans rfl), trivial⟩) ⟨rfl, rfl, rfl, rfl⟩ ?_
        refine SeqA.cons (loc [0] [] rfl rfl fun S hs hr => op_move (A := ptrL g2 (Lens.id kexec_run_o2)) rfl rfl (vt ((hs 0 rfl).trans rfl))) ⟨rfl, rfl, rfl, rfl⟩ ?_
        refine SeqA.cons (loc [17] [] rfl rfl fun S hs hr => op_nilCheck rfl rfl (vt ((hs 17 rfl).trans rfl))) ⟨rfl, rfl, rfl, rfl⟩ ?_
        refine SeqA.cons (loc [18] [] rfl rfl fun S hs hr => op_field lexec_run_o2_3 rfl rfl flv90_3_2 (vt ((hs 18 rfl).trans rfl))) ⟨rfl, rfl, rfl, rfl⟩ ?_
        refine SeqA.cons (loc [19] [0] rfl rfl fun S hs hr => op_load rfl rfl ty30 (vt ((hs 19 rfl).trans rfl)) (i := 0) ((hr 0 rfl).trans rfl)) ⟨rfl, rfl, rfl, rfl⟩ ?_
        refine SeqA.cons (loc [16, 20] [] rfl rfl fun S hs hr => op_call (xs := [.tmp 16, .tmp 20]) (c_rewrite_Apply _ _ _ hx27) (Ent.mk Try.func52 rfl rfl) rfl rfl ⟨vt ((hs 16 rfl).trans rfl), vt ((hs 20 rfl).trans rfl), trivial⟩) ⟨rfl, rfl, rfl, rfl⟩ ?_
        refine SeqA.cons (loc [14] [] rfl rfl fun S hs hr => op_nilCheck rfl rfl (vt ((hs 14 rfl).trans rfl))) ⟨rfl, rfl, rfl, rfl⟩ ?_
        refine SeqA.cons (loc [22] [] rfl rfl fun S hs hr => op_field lexec_run_o2_3 rfl rfl flv90_3_2 (vt ((hs 22 rfl).trans rfl))) ⟨rfl, rfl, rfl, rfl⟩ ?_
        refine SeqA.cons (locr [23, 21] [0] rfl fun S hs hr => op_store rfl rfl ty30 (vt ((hs 23 rfl).trans rfl)) (i := 0) ((hr 0 rfl).trans rfl) (vt ((hs 21 rfl).trans rfl))) ⟨rfl, rfl, rfl, rfl⟩ ?_
        refine AW.region ?_
        refine AOps.cons (op_incr (t := 7) rfl rfl (vt rfl) (vk rfl) (vt rfl) hlti17) rfl ?_
        refine AOps.cons (op_move (A := rd (kint .i64) ((i17 + 1 : Nat) : Int)) rfl rfl (vt rfl)) rfl ?_
        refine AOps.nil ?_
        subst hgo1
        exact ⟨(l18, i17 + 1, l11, b13, b14, x27, b16, v12), Nat.lt_succ_self _, ⟨hsf1.next, h⟩, ⟨rfl, ⟨rfl, rfl, rfl, rfl, trivial⟩, ⟨rfl, rfl, trivial⟩⟩⟩
def FR_exec_run_do__exec_run_group : Nat → (exec_run → (List Action) → Option exec_run) × (exec_run → Int → Option exec_run)
  | 0 => ((fun _ _ => none), (fun _ _ => none))
  | n + 1 => ((F_exec_run_do_s (FR_exec_run_do__exec_run_group n).1 (FR_exec_run_do__exec_run_group n).2), (F_exec_run_group_s (FR_exec_run_do__exec_run_group n).1 (FR_exec_run_do__exec_run_group n).2))
theorem cR_exec_run_do__exec_run_group : ∀ n : Nat, (∀ (g2 : Nat) (r1 : exec_run) (acts4 : (List Action)) (r : exec_run), (FR_exec_run_do__exec_run_group n).1 r1 acts4 = some r → Con Try.prog 77 [ptrL g2 (Lens.id kexec_run_o2), rd (ksl kAction) acts4] (BoxF g2 90 kexec_run_o2 (fun v => (⟨r1.Env, r1.groups, v, r1.header, r1.depth⟩ : exec_run_o2)) 87 kOut r1.out) (fun _ : Unit => top) (fun _ => BoxF g2 90 kexec_run_o2 (fun v => (⟨r.Env, r.groups, v, r.header, r.depth⟩ : exec_run_o2)) 87 kOut r.out)) ∧ (∀ (g2 : Nat) (r1 : exec_run) (id4 : Int) (r : exec_run), (FR_exec_run_do__exec_run_group n).2 r1 id4 = some r → Con Try.prog 44 [ptrL g2 (Lens.id kexec_run_o2), rd (kint .i64) id4] (BoxF g2 90 kexec_run_o2 (fun v => (⟨r1.Env, r1.groups, v, r1.header, r1.depth⟩ : exec_run_o2)) 87 kOut r1.out) (fun _ : Unit => top) (fun _ => BoxF g2 90 kexec_run_o2 (fun v => (⟨r.Env, r.groups, v, r.header, r.depth⟩ : exec_run_o2)) 87 kOut r.out))
  | 0 => ⟨(by intros; rename_i h; cases h), (by intros; rename_i h; cases h)⟩
  | n + 1 => by
    have ih := cR_exec_run_do__exec_run_group n
    exact ⟨(c_exec_run_do_s (FR_exec_run_do__exec_run_group n).1 ih.1 (FR_exec_run_do__exec_run_group n).2 ih.2), (c_exec_run_group_s (FR_exec_run_do__exec_run_group n).1 ih.1 (FR_exec_run_do__exec_run_group n).2 ih.2)⟩
def F_exec_run_do (r1 : exec_run) (acts4 : (List Action)) : Option exec_run := (FR_exec_run_do__exec_run_group fuel0).1 r1 acts4
theorem c_exec_run_do : ∀ (g2 : Nat) (r1 : exec_run) (acts4 : (List Action)) (r : exec_run), F_exec_run_do r1 acts4 = some r → Con Try.prog 77 [ptrL g2 (Lens.id kexec_run_o2), rd (ksl kAction) acts4] (BoxF g2 90 kexec_run_o2 (fun v => (⟨r1.Env, r1.groups, v, r1.header, r1.depth⟩ : exec_run_o2)) 87 kOut r1.out) (fun _ : Unit => top) (fun _ => BoxF g2 90 kexec_run_o2 (fun v => (⟨r.Env, r.groups, v, r.header, r.depth⟩ : exec_run_o2)) 87 kOut r.out) := (cR_exec_run_do__exec_run_group fuel0).1
def F_exec_run_group (r1 : exec_run) (id4 : Int) : Option exec_run := (FR_exec_run_do__exec_run_group fuel0).2 r1 id4
theorem c_exec_run_group : ∀ (g2 : Nat) (r1 : exec_run) (id4 : Int) (r : exec_run), F_exec_run_group r1 id4 = some r → Con Try.prog 44 [ptrL g2 (Lens.id kexec_run_o2), rd (kint .i64) id4] (BoxF g2 90 kexec_run_o2 (fun v => (⟨r1.Env, r1.groups, v, r1.header, r1.depth⟩ : exec_run_o2)) 87 kOut r1.out) (fun _ : Unit => top) (fun _ => BoxF g2 90 kexec_run_o2 (fun v => (⟨r.Env, r.groups, v, r.header, r.depth⟩ : exec_run_o2)) 87 kOut r.out) := (cR_exec_run_do__exec_run_group fuel0).2
def F_exec_Group (l1 : (List Group)) (e2 : Env) (id3 : Int) (h4 : (Vector Wide 24)) : Option (List Out) :=
  (F_exec_run_group (⟨e2, l1, [], h4, 0⟩ : exec_run) id3).bind fun b8 => some b8.out
theorem c_exec_Group (l1 : (List Group)) (e2 : Env) (id3 : Int) (h4 : (Vector Wide 24)) (r : (List Out)) (h : F_exec_Group l1 e2 id3 h4 = some r) : PCon Try.prog 15 [rd (ksl kGroup) l1, rd kEnv e2, rd (kint .i64) id3, rd (karr 24 kWide) h4] (rd (ksl kOut) r) := by
  refine PCon.of (Con.intro0 Try.func15 rfl Try.ntmps15 rfl fun w H => ?_)
  unfold F_exec_Group at h
  refine AW.seq ?_
  refine AW.region ?_
  refine AOps.consT rfl (op_box 6 rfl rfl (vt rfl)) ?_
  rintro _ ⟨g5, rfl⟩
  refine AOps.consT rfl (op_box 8 rfl rfl (vt rfl)) ?_
  rintro _ ⟨g6, rfl⟩
  refine AOps.cons (op_assign (A := rd (ksl kOut) []) rfl rfl vnil) rfl ?_
  refine AOps.nil ?_
  refine AW.seq ?_
  refine AW.newnil 2302 87 kOut ?_
  refine AW.region ?_
  refine AOps.cons (op_load rfl rfl ty25 (vt rfl) (i := 6) rfl) rfl ?_
  refine AOps.cons (op_move (A := rd (ksl kGroup) l1) rfl rfl (vt rfl)) rfl ?_
  refine AOps.cons (op_load rfl rfl ty30 (vt rfl) (i := 8) rfl) rfl ?_
  refine AOps.cons (op_build (ps := [(0, .tmp 10), (1, .tmp 11), (3, .tmp 12)]) (x := (⟨e2, l1, (.slice none 0 0), h4, 0⟩ : exec_run_o2)) rfl rfl rfl (by kernel_rfl) zrv90_2 ⟨_, _, lexec_run_o2_0, _, by kernel_rfl, (vt rfl), _, _, lexec_run_o2_1, _, by kernel_rfl, (vt rfl), _, _, lexec_run_o2_3, _, by kernel_rfl, (vt rfl), rfl⟩) rfl ?_
  refine AOps.consT rfl (op_box 15 rfl rfl (vt rfl)) ?_
  rintro _ ⟨g7, rfl⟩
  refine AOps.cons (op_assign (A := ptrL g7 (Lens.id kexec_run_o2)) rfl rfl (vt rfl)) rfl ?_
  refine AOps.nil ?_
  refine AW.seq ?_
  obtain ⟨b8, hb8, h⟩ := bsome h
  refine AW.region ?_
  refine AOps.cons (op_move (A := ptrL g7 (Lens.id kexec_run_o2)) rfl rfl (vt rfl)) rfl ?_
  refine AOps.cons (op_move (A := rd (kint .i64) id3) rfl rfl (vt rfl)) rfl ?_
  refine AOps.packF 15 2302 (fun v => (⟨e2, l1, v, h4, 0⟩ : exec_run_o2)) (by decide) rfl rfl ?_
  refine AOps.consT rfl (op_callR 15 (xs := [.tmp 15, .tmp 16]) (c_exec_run_group _ _ _ _ hb8) (Ent.mk Try.func44 rfl rfl) rfl rfl ⟨vt rfl, vt rfl, trivial⟩ rfl) ?_
  rintro _ ⟨_u, rfl⟩
  refine AOps.unboxF 15 2302 (by decide) rfl rfl fun v9 => ?_
  refine AOps.nil ?_
  refine AW.seq ?_
  refine AW.region ?_
  refine AOps.cons (op_move (A := ptrL g7 (Lens.id kexec_run_o2)) rfl rfl (vt rfl)) rfl ?_
  refine AOps.cons (op_nilCheck rfl rfl (vt rfl)) rfl ?_
  refine AOps.cons (op_field lexec_run_o2_2 rfl rfl flv90_2_2 (vt rfl)) rfl ?_
  refine AOps.cons (op_loadv v9 rfl rfl tyr41 (vt rfl) (i := 15) rfl rfl) rfl ?_
  refine AOps.cons (op_assign (A := raw v9) rfl rfl (vt rfl)) rfl ?_
  refine AOps.nil ?_
  refine AW.freezes [8, 21] 2302 rfl ⟨rfl, rfl, trivial⟩ rfl ?_
  refine AW.ret ?_
  obtain rfl := Option.some.inj h
  exact ret1 Try.results15 rfl (out_tmp rfl)
def F_atom_Out_1 (x1 : Atom) (cp2 : (Vector Wide 24)) (c_l40_EnvsFold : (List Out)) (cp6 : (List Group)) (cp7 : Env) : Option (List Out) :=
  (F_rewrite_Apply x1.Rewrite cp2).bind fun x9 => (bif x1.Group then (F_exec_Group cp6 cp7 x1.Port x9).bind fun x11 => (appd c_l40_EnvsFold x11).bind fun l12 => some l12 else (appd c_l40_EnvsFold [(⟨x1.Port, x1.Max, x9⟩ : Out)]).bind fun l14 => some l14)
theorem c_atom_Out_1 (g4 : Nat) (x1 : Atom) (cp2 : (Vector Wide 24)) (c_l40_EnvsFold : (List Out)) (cp6 : (List Group)) (cp7 : Env) (r : (List Out)) (h : F_atom_Out_1 x1 cp2 c_l40_EnvsFold cp6 cp7 = some r) : Con Try.prog 51 [rd kAtom x1, rp (karr 24 kWide) cp2, ptrL g4 (Lens.id kraw), rp (ksl kGroup) cp6, rp kEnv cp7] (BoxF g4 41 kraw (fun v => v) 87 kOut c_l40_EnvsFold) (fun _ : Unit => top) (fun _ => BoxF g4 41 kraw (fun v => v) 87 kOut r) := by
  refine Con.intro Try.func51 rfl Try.ntmps51 rfl fun w H X => ?_
  unfold F_atom_Out_1 at h
  refine AW.unboxF 0 2019 (by decide) rfl rfl fun v5 => ?_
  refine AW.seq ?_
  refine AW.region ?_
  refine AOps.consT rfl (op_box 6 rfl rfl (vt rfl)) ?_
  rintro _ ⟨g8, rfl⟩
  refine AOps.nil ?_
  refine AW.seq ?_
  obtain ⟨x9, hx9, h⟩ := bsome h
  refine AW.region ?_
  refine AOps.cons (op_field lAtom_0 rfl rfl fl53_0 (vt rfl)) rfl ?_
  refine AOps.cons (op_load rfl rfl ty51 (vt rfl) (i := 6) rfl) rfl ?_
  refine AOps.cons (op_loadp rfl rfl ty30 (vt rfl)) rfl ?_
  refine AOps.cons (op_call (xs := [.tmp 8, .tmp 9]) (c_rewrite_Apply _ _ _ hx9) (Ent.mk Try.func52 rfl rfl) rfl rfl ⟨vt rfl, vt rfl, trivial⟩) rfl ?_
  refine AOps.consT rfl (op_alloc 7 rfl rfl zr30) ?_
  rintro _ ⟨g10, rfl⟩
  refine AOps.cons (op_store rfl rfl ty30 (vt rfl) (i := 7) rfl (vt rfl)) rfl ?_
  refine AOps.nil ?_
  refine AW.seq ?_
  refine AW.seq ?_
  refine AW.region ?_
  refine AOps.cons (op_field lAtom_1 rfl rfl fl53_1 (vt rfl)) rfl ?_
  refine AOps.cons (op_load rfl rfl ty4 (vt rfl) (i := 6) rfl) rfl ?_
  refine AOps.nil ?_
  refine AW.cond (vt rfl) (fun hc => ?_) (fun hc => ?_)
  · have h := cond_t hc h
    refine AW.seq ?_
    obtain ⟨x11, hx11, h⟩ := bsome h
    obtain ⟨l12, hl12, h⟩ := bsome h
    refine AW.regionAny [⟨[2], [13], [0], []⟩, ⟨[3], [14], [], []⟩, ⟨[4], [15], [], []⟩, ⟨[5], [16], [], []⟩, ⟨[16], [17], [6], []⟩, ⟨[6], [18], [7], []⟩, ⟨[14, 15, 17, 18], [19], [], []⟩, ⟨[13, 19], [20], [2019], [2019]⟩, ⟨[2, 20], [20], [0], [0]⟩] mixed (by kernel_rfl) ?_
    refine SeqA.cons (loc [2] [0] rfl rfl fun S hs hr => op_loadv v5 rfl rfl tyr41 (vt ((hs 2 rfl).trans rfl)) (i := 0) ((hr 0 rfl).trans rfl) rfl) ⟨rfl, rfl, rfl, rfl⟩ ?_
    refine SeqA.cons (loc [3] [] rfl rfl fun S hs hr => op_loadp rfl rfl ty22 (vt ((hs 3 rfl).trans rfl))) ⟨rfl, rfl, rfl, rfl⟩ ?_
    refine SeqA.cons (loc [4] [] rfl rfl fun S hs hr => op_loadp rfl rfl ty25 (vt ((hs 4 rfl).trans rfl))) ⟨rfl, rfl, rfl, rfl⟩ ?_
    refine SeqA.cons (loc [5] [] rfl rfl fun S hs hr => op_field lAtom_2 rfl rfl fl53_2 (vt ((hs 5 rfl).trans rfl))) ⟨rfl, rfl, rfl, rfl⟩ ?_
    refine SeqA.cons (loc [16] [6] rfl rfl fun S hs hr => op_load rfl rfl ty3 (vt ((hs 16 rfl).trans rfl)) (i := 6) ((hr 6 rfl).trans rfl)) ⟨rfl, rfl, rfl, rfl⟩ ?_
    refine SeqA.cons (loc [6] [7] rfl rfl fun S hs hr => op_load rfl rfl ty30 (vt ((hs 6 rfl).trans rfl)) (i := 7) ((hr 7 rfl).trans rfl)) ⟨rfl, rfl, rfl, rfl⟩ ?_
    refine SeqA.cons (loc [14, 15, 17, 18] [] rfl rfl fun S hs hr => op_call (xs := [.tmp 14, .tmp 15, .tmp 17, .tmp 18]) (c_exec_Group _ _ _ _ _ hx11) (Ent.mk Try.func15 rfl rfl) rfl rfl ⟨vt ((hs 14 rfl).trans rfl), vt ((hs 15 rfl).trans rfl), vt ((hs 17 rfl).trans rfl), vt ((hs 18 rfl).trans rfl), trivial⟩) ⟨rfl, rfl, rfl, rfl⟩ ?_
    refine SeqA.cons (locs (us := [(20, ownR 87 kOut l12)]) (ur := [(2019, emp)]) [13, 19] [2019] rfl fun S hs hr => op_appendO 2019 hl12 rfl rfl rfl el41 (vt ((hs 13 rfl).trans rfl)) ((hr 2019 rfl).trans rfl) (vt ((hs 19 rfl).trans rfl))) ⟨rfl, rfl, rfl, rfl⟩ ?_
    refine SeqA.cons (locs (us := [(20, top)]) (ur := [(0, BoxF g4 41 kraw (fun v => ((Lens.id kraw)).set v5 v) 87 kOut l12)]) [2, 20] [0] rfl fun S hs hr => op_storeR rfl rfl tyr41 (vt ((hs 2 rfl).trans rfl)) ((hr 0 rfl).trans rfl) ((hs 20 rfl).trans rfl)) ⟨rfl, rfl, rfl, rfl⟩ ?_
    refine AW.unboxF 0 2019 (by decide) rfl rfl fun v13 => ?_
    refine AW.ret ?_
    obtain rfl := Option.some.inj h
    exact RetOK.turn (Turn.packF 0 2019 (fun v => v) (by decide) rfl rfl) (ret0Y (i := 0) Try.results51 rfl rfl)
  · have h := cond_f hc h
    refine AW.skip ?_
    obtain ⟨l14, hl14, h⟩ := bsome h
    refine AW.region ?_
    refine AOps.cons (op_loadv v5 rfl rfl tyr41 (vt rfl) (i := 0) rfl rfl) rfl ?_
    refine AOps.cons (op_field lAtom_2 rfl rfl fl53_2 (vt rfl)) rfl ?_
    refine AOps.cons (op_load rfl rfl ty3 (vt rfl) (i := 6) rfl) rfl ?_
    refine AOps.cons (op_field lAtom_3 rfl rfl fl53_3 (vt rfl)) rfl ?_
    refine AOps.cons (op_load rfl rfl ty3 (vt rfl) (i := 6) rfl) rfl ?_
    refine AOps.cons (op_load rfl rfl ty30 (vt rfl) (i := 7) rfl) rfl ?_
    refine AOps.cons (op_build (ps := [(0, .tmp 23), (1, .tmp 25), (2, .tmp 26)]) (x := (⟨x1.Port, x1.Max, x9⟩ : Out)) rfl rfl rfl (by kernel_rfl) zr87 ⟨_, _, lOut_0, _, by kernel_rfl, (vt rfl), _, _, lOut_1, _, by kernel_rfl, (vt rfl), _, _, lOut_2, _, by kernel_rfl, (vt rfl), rfl⟩) rfl ?_
    refine AOps.cons (op_buildSliceR (ps := [(0, .tmp 27)]) (l := [(⟨x1.Port, x1.Max, x9⟩ : Out)]) rfl rfl sl41 zr87 rfl rfl ⟨_, _, Lens.idx 1 kOut 0 (by decide), _, rfl, (vt rfl), rfl⟩ rfl) rfl ?_
    refine AOps.consT rfl (op_append' 2019 hl14 rfl rfl el41 (vt rfl) rfl (vt rfl)) ?_
    rintro _ ⟨v15, rfl⟩
    refine AOps.cons (op_store rfl rfl tyr41 (vt rfl) (i := 0) rfl (vrow (i := 2019) rfl rfl)) rfl ?_
    refine AOps.nil ?_
    obtain rfl := Option.some.inj h
    exact RetOK.turn (Turn.packF 0 2019 (fun v => v) (by decide) rfl rfl) (ret0Y (i := 0) Try.results51 rfl rfl)
end Go.Proofs.Ytknpgojdkobgjaa.W
set_option linter.unusedVariables false
set_option maxRecDepth 4000
set_option linter.unusedSimpArgs false
namespace Go.Proofs.Ytknpgojdkobgjaa.W
open Go Go.Wb
def F_atom_each_Atom_l1 (sg : Type) (do2 : (sg → Atom → Option sg)) : (List Atom) → Nat → sg → Option sg
  | [], i6, s5 => some s5
  | x8 :: l7, i6, s5 => (do2 s5 x8).bind fun s10 => (F_atom_each_Atom_l1 sg do2 l7) (i6 + 1) s10
def F_atom_each_Atom (l1 : (List Atom)) (sg : Type) (do2 : (sg → Atom → Option sg)) (s3 : sg) : Option sg :=
  F_atom_each_Atom_l1 sg do2 l1 0 s3
theorem c_atom_each_Atom (l1 : (List Atom)) (sg : Type) (do2 : (sg → Atom → Option sg)) (L : sg → Res) (s3 : sg) (r : sg) (h : F_atom_each_Atom l1 sg do2 s3 = some r) : Con Try.prog 50 [rd (ksl kAtom) l1, stA Try.prog kAtom do2 L] (L s3) (fun _ : Unit => top) (fun _ => L r) := by
  refine Con.intro Try.func50 rfl Try.ntmps50 rfl fun w H X => ?_
  unfold F_atom_each_Atom at h
  refine AW.seq ?_
  refine AW.region ?_
  refine AOps.cons (op_move (A := rd (ksl kAtom) l1) rfl rfl (vt rfl)) rfl ?_
  refine AOps.cons (op_len' rfl rfl sl44 (vt rfl)) rfl ?_
  refine AOps.cons (op_move (A := rd (kint .i64) 0) rfl rfl (vk rfl)) rfl ?_
  refine AOps.nil ?_
  refine AW.block ?_
  refine AW.loopG (d := []) (ν := (List Atom) × Nat × sg) (fun n => Sfx l1 n.2.1 n.1 ∧ F_atom_each_Atom_l1 sg do2 n.1 n.2.1 n.2.2 = some r) (fun n => n.1.length) (fun n => [(1, stA Try.prog kAtom do2 L), (6, rd (ksl kAtom) l1), (7, rd (kint .i64) (l1.length : Int)), (8, rd (kint .i64) (n.2.1 : Int))]) (fun n => [(0, L n.2.2)]) (l1, 0, s3) ⟨Sfx.start _, h⟩ ⟨rfl, ⟨rfl, rfl, rfl, rfl, trivial⟩, ⟨rfl, trivial⟩⟩ ?_
  rintro ⟨l7, i6, s5⟩ ⟨hsf1, h⟩
  change Sfx l1 i6 l7 at hsf1
  change F_atom_each_Atom_l1 sg do2 l7 i6 s5 = some r at h
  change AW _ _ _ ⟨slots [(1, stA Try.prog kAtom do2 L), (6, rd (ksl kAtom) l1), (7, rd (kint .i64) (l1.length : Int)), (8, rd (kint .i64) (i6 : Int))], ress [(0, L s5)], _⟩
  cases l7 with
  | nil =>
    unfold F_atom_each_Atom_l1 at h
    refine AW.seq ?_
    refine AW.region ?_
    refine AOps.cons (op_lss rfl rfl (vt rfl) (vt rfl)) rfl ?_
    refine AOps.nil ?_
    refine AW.seq ?_
    refine AW.cond (vt rfl) (fun hc => absurd (of_decide_eq_true hc) hsf1.nil) (fun hc => ?_)
    refine AW.exit ?_
    obtain rfl := Option.some.inj h
    exact ret0Y (i := 0) Try.results50 rfl rfl
  | cons x8 l7 =>
    unfold F_atom_each_Atom_l1 at h
    generalize hgo1 : F_atom_each_Atom_l1 sg do2 l7 = go1 at h
    refine AW.seq ?_
    refine AW.region ?_
    refine AOps.cons (op_lss rfl rfl (vt rfl) (vt rfl)) rfl ?_
    refine AOps.nil ?_
    refine AW.seq ?_
    refine AW.cond (vt rfl) (fun hc => ?_) (fun hc => absurd hsf1.cons (of_decide_eq_false hc))
    have hlti6 := of_decide_eq_true hc
    refine AW.skip ?_
    refine AW.seq ?_
    refine AW.block ?_
    refine AW.seq ?_
    refine AW.region ?_
    refine AOps.cons (op_indexs' rfl rfl sl44 (vt rfl) (vt rfl) hsf1.lget) rfl ?_
    refine AOps.cons (op_loadp rfl rfl ty53 (vt rfl)) rfl ?_
    refine AOps.consT rfl (op_alloc 6 rfl rfl zr53) ?_
    rintro _ ⟨g9, rfl⟩
    refine AOps.cons (op_store rfl rfl ty53 (vt rfl) (i := 6) rfl (vt rfl)) rfl ?_
    refine AOps.nil ?_
    obtain ⟨s10, hs10, h⟩ := bsome h
    refine AW.region ?_
    refine AOps.cons (op_move (A := stA Try.prog kAtom do2 L) rfl rfl (vt rfl)) rfl ?_
    refine AOps.cons (op_load rfl rfl ty53 (vt rfl) (i := 6) rfl) rfl ?_
    refine AOps.cons (op_callst 0 hs10 rfl rfl (vt rfl) (vt rfl) rfl) rfl ?_
    refine AOps.nil ?_
    refine AW.region ?_
    refine AOps.cons (op_incr (t := 7) rfl rfl (vt rfl) (vk rfl) (vt rfl) hlti6) rfl ?_
    refine AOps.cons (op_move (A := rd (kint .i64) ((i6 + 1 : Nat) : Int)) rfl rfl (vt rfl)) rfl ?_
    refine AOps.nil ?_
    subst hgo1
    exact ⟨(l7, i6 + 1, s10), Nat.lt_succ_self _, ⟨hsf1.next, h⟩, ⟨rfl, ⟨rfl, rfl, rfl, rfl, trivial⟩, ⟨rfl, trivial⟩⟩⟩
def F_atom_Out (l1 : (List Group)) (e2 : Env) (a3 : (List Atom)) (h4 : (Vector Wide 24)) : Option (List Out) :=
  (F_atom_each_Atom a3 (List Out) (fun s x => F_atom_Out_1 x h4 s l1 e2) []).bind fun b9 => some b9
theorem c_atom_Out (l1 : (List Group)) (e2 : Env) (a3 : (List Atom)) (h4 : (Vector Wide 24)) (r : (List Out)) (h : F_atom_Out l1 e2 a3 h4 = some r) : PCon Try.prog 22 [rd (ksl kGroup) l1, rd kEnv e2, rd (ksl kAtom) a3, rd (karr 24 kWide) h4] (rd (ksl kOut) r) := by
  refine PCon.of (Con.intro0 Try.func22 rfl Try.ntmps22 rfl fun w H => ?_)
  unfold F_atom_Out at h
  refine AW.seq ?_
  refine AW.region ?_
  refine AOps.consT rfl (op_box 5 rfl rfl (vt rfl)) ?_
  rintro _ ⟨g5, rfl⟩
  refine AOps.consT rfl (op_box 6 rfl rfl (vt rfl)) ?_
  rintro _ ⟨g6, rfl⟩
  refine AOps.consT rfl (op_box 8 rfl rfl (vt rfl)) ?_
  rintro _ ⟨g7, rfl⟩
  refine AOps.cons (op_assign (A := rd (ksl kOut) []) rfl rfl vnil) rfl ?_
  refine AOps.nil ?_
  refine AW.seq ?_
  refine AW.newnil 2219 87 kOut ?_
  refine AW.region ?_
  refine AOps.consT rfl (op_alloc 10 rfl rfl zrr41) ?_
  rintro _ ⟨g8, rfl⟩
  refine AOps.nil ?_
  refine AW.seq ?_
  refine AW.freezeB 7 8 rfl rfl rfl ?_
  refine AW.freezeB 4 5 rfl rfl rfl ?_
  refine AW.freezeB 5 6 rfl rfl rfl ?_
  obtain ⟨b9, hb9, h⟩ := bsome h
  refine AW.region ?_
  refine AOps.cons (op_move (A := rd (ksl kAtom) a3) rfl rfl (vt rfl)) rfl ?_
  refine AOps.cons (op_st (fs := []) (cs := [.tmp 7, .tmp 9, .tmp 4, .tmp 5]) (FAs := []) (CAs := [rp (karr 24 kWide) h4, ptrL g8 (Lens.id kraw), rp (ksl kGroup) l1, rp kEnv e2]) (k := kAtom) (fun s x => F_atom_Out_1 x h4 s l1 e2) (fun (s : (List Out)) => BoxF g8 41 kraw (fun v => v) 87 kOut s) rfl rfl (Ent.mk Try.func51 rfl rfl) trivial ⟨vt rfl, vt rfl, vt rfl, vt rfl, trivial⟩ (fun s x s2 h => c_atom_Out_1  _ x h4 s l1 e2 s2 h)) rfl ?_
  refine AOps.packF 10 2219 (fun v => v) (by decide) rfl rfl ?_
  refine AOps.consT rfl (op_callR 10 (xs := [.tmp 10, .tmp 11]) (c_atom_each_Atom _ (List Out) _ (fun (s : (List Out)) => BoxF g8 41 kraw (fun v => v) 87 kOut s) _ _ hb9) (Ent.mk Try.func50 rfl rfl) rfl rfl ⟨vt rfl, vt rfl, trivial⟩ rfl) ?_
  rintro _ ⟨_u, rfl⟩
  refine AOps.unboxF 10 2219 (by decide) rfl rfl fun v10 => ?_
  refine AOps.nil ?_
  refine AW.seq ?_
  refine AW.region ?_
  refine AOps.cons (op_loadv v10 rfl rfl tyr41 (vt rfl) (i := 10) rfl rfl) rfl ?_
  refine AOps.cons (op_assign (A := raw v10) rfl rfl (vt rfl)) rfl ?_
  refine AOps.nil ?_
  refine AW.freezes [8, 13] 2219 rfl ⟨rfl, rfl, trivial⟩ rfl ?_
  refine AW.ret ?_
  obtain rfl := Option.some.inj h
  exact ret1 Try.results22 rfl (out_tmp rfl)
def F_slices_Equal_Out_l1 (s11 : (List Out)) (s22 : (List Out)) : Nat → Nat → Option Bool
  | 0, i3 => some true
  | m4 + 1, i3 => (lget s11 (i3 : Int)).bind fun e5 => (lget s22 (i3 : Int)).bind fun e6 => (bif (decide (e5 ≠ e6)) then some false else (F_slices_Equal_Out_l1 s11 s22 m4) (i3 + 1))
def F_slices_Equal_Out (s11 : (List Out)) (s22 : (List Out)) : Option Bool :=
  (bif (decide ((s11.length : Int) ≠ (s22.length : Int))) then some false else F_slices_Equal_Out_l1 s11 s22 ((s11.length : Int) : Int).toNat 0)
theorem c_slices_Equal_Out (s11 : (List Out)) (s22 : (List Out)) (r : Bool) (h : F_slices_Equal_Out s11 s22 = some r) : PCon Try.prog 49 [rd (ksl kOut) s11, rd (ksl kOut) s22] (rd kbool r) := by
  refine PCon.of (Con.intro0 Try.func49 rfl Try.ntmps49 rfl fun w H => ?_)
  unfold F_slices_Equal_Out at h
  refine AW.seq ?_
  refine AW.region ?_
  refine AOps.cons (op_assign (A := rd kbool false) rfl rfl vb) rfl ?_
  refine AOps.nil ?_
  refine AW.seq ?_
  refine AW.seq ?_
  refine AW.region ?_
  refine AOps.cons (op_move (A := rd (ksl kOut) s11) rfl rfl (vt rfl)) rfl ?_
  refine AOps.cons (op_len' rfl rfl sl41 (vt rfl)) rfl ?_
  refine AOps.cons (op_move (A := rd (ksl kOut) s22) rfl rfl (vt rfl)) rfl ?_
  refine AOps.cons (op_len' rfl rfl sl41 (vt rfl)) rfl ?_
  refine AOps.cons (op_neq rfl rfl (vt rfl) (vt rfl)) rfl ?_
  refine AOps.nil ?_
  refine AW.cond (vt rfl) (fun hc => ?_) (fun hc => ?_)
  · have h := cond_t hc h
    refine AW.seq ?_
    refine AW.region ?_
    refine AOps.cons (op_assign (A := rd kbool false) rfl rfl vb) rfl ?_
    refine AOps.nil ?_
    refine AW.ret ?_
    obtain rfl := Option.some.inj h
    exact ret1 Try.results49 rfl (out_tmp rfl)
  · have h := cond_f hc h
    refine AW.skip ?_
    refine AW.seq ?_
    refine AW.seq ?_
    refine AW.region ?_
    refine AOps.cons (op_move (A := rd (ksl kOut) s11) rfl rfl (vt rfl)) rfl ?_
    refine AOps.cons (op_len' rfl rfl sl41 (vt rfl)) rfl ?_
    refine AOps.cons (op_move (A := rd (kint .i64) 0) rfl rfl (vk rfl)) rfl ?_
    refine AOps.nil ?_
    refine AW.block ?_
    refine AW.loopG (d := []) (ν := Nat × Nat) (fun n => Cnt (s11.length : Int) n.2 n.1 ∧ F_slices_Equal_Out_l1 s11 s22 n.1 n.2 = some r) (fun n => n.1) (fun n => [(0, rd (ksl kOut) s11), (1, rd (ksl kOut) s22), (12, rd (kint .i64) (s11.length : Int)), (13, rd (kint .i64) (n.2 : Int))]) (fun n => []) (((s11.length : Int) : Int).toNat, 0) ⟨Cnt.start _, h⟩ ⟨rfl, ⟨rfl, rfl, rfl, rfl, trivial⟩, trivial⟩ ?_
    rintro ⟨m4, i3⟩ ⟨hsf1, h⟩
    change Cnt (s11.length : Int) i3 m4 at hsf1
    change F_slices_Equal_Out_l1 s11 s22 m4 i3 = some r at h
    change AW _ _ _ ⟨slots [(0, rd (ksl kOut) s11), (1, rd (ksl kOut) s22), (12, rd (kint .i64) (s11.length : Int)), (13, rd (kint .i64) (i3 : Int))], ress [], _⟩
    cases m4 with
    | zero =>
      unfold F_slices_Equal_Out_l1 at h
      refine AW.seq ?_
      refine AW.region ?_
      refine AOps.cons (op_lss rfl rfl (vt rfl) (vt rfl)) rfl ?_
      refine AOps.nil ?_
      refine AW.seq ?_
      refine AW.cond (vt rfl) (fun hc => absurd (of_decide_eq_true hc) hsf1.zero) (fun hc => ?_)
      refine AW.exit ?_
      refine AW.seq ?_
      refine AW.region ?_
      refine AOps.cons (op_assign (A := rd kbool true) rfl rfl vb) rfl ?_
      refine AOps.nil ?_
      refine AW.ret ?_
      obtain rfl := Option.some.inj h
      exact ret1 Try.results49 rfl (out_tmp rfl)
    | succ m4 =>
      unfold F_slices_Equal_Out_l1 at h
      generalize hgo1 : F_slices_Equal_Out_l1 s11 s22 m4 = go1 at h
      refine AW.seq ?_
      refine AW.region ?_
      refine AOps.cons (op_lss rfl rfl (vt rfl) (vt rfl)) rfl ?_
      refine AOps.nil ?_
      refine AW.seq ?_
      refine AW.cond (vt rfl) (fun hc => ?_) (fun hc => absurd hsf1.succ (of_decide_eq_false hc))
      have hlti3 := of_decide_eq_true hc
      refine AW.skip ?_
      refine AW.seq ?_
      refine AW.block ?_
      refine AW.seq ?_
      refine AW.region ?_
      refine AOps.cons (op_move (A := rd (kint .i64) (i3 : Int)) rfl rfl (vt rfl)) rfl ?_
      refine AOps.cons (op_assign (A := rd (kint .i64) (i3 : Int)) rfl rfl (vt rfl)) rfl ?_
      refine AOps.nil ?_
      refine AW.seq ?_
      obtain ⟨e5, he5, h⟩ := bsome h
      obtain ⟨e6, he6, h⟩ := bsome h
      refine AW.regionAny [⟨[0], [16], [], []⟩, ⟨[5], [17], [], []⟩, ⟨[16, 17], [18], [], []⟩, ⟨[18], [19], [], []⟩, ⟨[1], [20], [], []⟩, ⟨[5], [21], [], []⟩, ⟨[20, 21], [22], [], []⟩, ⟨[22], [23], [], []⟩, ⟨[19, 23], [24], [], []⟩] mixed (by kernel_rfl) ?_
      refine SeqA.cons (loc [0] [] rfl rfl fun S hs hr => op_move (A := rd (ksl kOut) s11) rfl rfl (vt ((hs 0 rfl).trans rfl))) ⟨rfl, rfl, rfl, rfl⟩ ?_
      refine SeqA.cons (loc [5] [] rfl rfl fun S hs hr => op_move (A := rd (kint .i64) (i3 : Int)) rfl rfl (vt ((hs 5 rfl).trans rfl))) ⟨rfl, rfl, rfl, rfl⟩ ?_
      refine SeqA.cons (loc [16, 17] [] rfl rfl fun S hs hr => op_indexs' rfl rfl sl41 (vt ((hs 16 rfl).trans rfl)) (vt ((hs 17 rfl).trans rfl)) he5) ⟨rfl, rfl, rfl, rfl⟩ ?_
      refine SeqA.cons (loc [18] [] rfl rfl fun S hs hr => op_loadp rfl rfl ty87 (vt ((hs 18 rfl).trans rfl))) ⟨rfl, rfl, rfl, rfl⟩ ?_
      refine SeqA.cons (loc [1] [] rfl rfl fun S hs hr => op_move (A := rd (ksl kOut) s22) rfl rfl (vt ((hs 1 rfl).trans rfl))) ⟨rfl, rfl, rfl, rfl⟩ ?_
      refine SeqA.cons (loc [5] [] rfl rfl fun S hs hr => op_move (A := rd (kint .i64) (i3 : Int)) rfl rfl (vt ((hs 5 rfl).trans rfl))) ⟨rfl, rfl, rfl, rfl⟩ ?_
      refine SeqA.cons (loc [20, 21] [] rfl rfl fun S hs hr => op_indexs' rfl rfl sl41 (vt ((hs 20 rfl).trans rfl)) (vt ((hs 21 rfl).trans rfl)) he6) ⟨rfl, rfl, rfl, rfl⟩ ?_
      refine SeqA.cons (loc [22] [] rfl rfl fun S hs hr => op_loadp rfl rfl ty87 (vt ((hs 22 rfl).trans rfl))) ⟨rfl, rfl, rfl, rfl⟩ ?_
      refine SeqA.cons (loc [19, 23] [] rfl rfl fun S hs hr => op_neqk rfl rfl eqk87 (by decide) rfl eg87 (vt ((hs 19 rfl).trans rfl)) (vt ((hs 23 rfl).trans rfl))) ⟨rfl, rfl, rfl, rfl⟩ ?_
      refine AW.cond (vt rfl) (fun hc => ?_) (fun hc => ?_)
      · have h := cond_t hc h
        refine AW.seq ?_
        refine AW.region ?_
        refine AOps.cons (op_assign (A := rd kbool false) rfl rfl vb) rfl ?_
        refine AOps.nil ?_
        refine AW.ret ?_
        obtain rfl := Option.some.inj h
        exact ret1 Try.results49 rfl (out_tmp rfl)
      · have h := cond_f hc h
        refine AW.skip ?_
        refine AW.region ?_
        refine AOps.cons (op_incr (t := 12) rfl rfl (vt rfl) (vk rfl) (vt rfl) hlti3) rfl ?_
        refine AOps.cons (op_move (A := rd (kint .i64) ((i3 + 1 : Nat) : Int)) rfl rfl (vt rfl)) rfl ?_
        refine AOps.nil ?_
        subst hgo1
        exact ⟨(m4, i3 + 1), Nat.lt_succ_self _, ⟨hsf1.next, h⟩, ⟨rfl, ⟨rfl, rfl, rfl, rfl, trivial⟩, trivial⟩⟩
def F_exec_Same (a1 : (List Out)) (b2 : (List Out)) : Option Bool :=
  (F_slices_Equal_Out a1 b2).bind fun x3 => some x3
theorem c_exec_Same (a1 : (List Out)) (b2 : (List Out)) (r : Bool) (h : F_exec_Same a1 b2 = some r) : PCon Try.prog 21 [rd (ksl kOut) a1, rd (ksl kOut) b2] (rd kbool r) := by
  refine PCon.of (Con.intro0 Try.func21 rfl Try.ntmps21 rfl fun w H => ?_)
  unfold F_exec_Same at h
  refine AW.seq ?_
  refine AW.region ?_
  refine AOps.cons (op_assign (A := rd kbool false) rfl rfl vb) rfl ?_
  refine AOps.nil ?_
  refine AW.seq ?_
  obtain ⟨x3, hx3, h⟩ := bsome h
  refine AW.region ?_
  refine AOps.cons (op_move (A := rd (ksl kOut) a1) rfl rfl (vt rfl)) rfl ?_
  refine AOps.cons (op_move (A := rd (ksl kOut) b2) rfl rfl (vt rfl)) rfl ?_
  refine AOps.cons (op_call (xs := [.tmp 5, .tmp 6]) (c_slices_Equal_Out _ _ _ hx3) (Ent.mk Try.func49 rfl rfl) rfl rfl ⟨vt rfl, vt rfl, trivial⟩) rfl ?_
  refine AOps.cons (op_assign (A := rd kbool x3) rfl rfl (vt rfl)) rfl ?_
  refine AOps.nil ?_
  refine AW.ret ?_
  obtain rfl := Option.some.inj h
  exact ret1 Try.results21 rfl (out_tmp rfl)
def F_l38_NormOut (l1 : (List Group)) (e2 : Env) (a3 : (List Atom)) (h4 : (Vector Wide 24)) : Option Bool :=
  (F_l38_light l1 e2 a3).bind fun x7 => (bif (!x7) then (F_l38_awake).bind fun x8 => some x8 else (F_norm_List l1 e2 a3).bind fun x9 => (F_slices_ContainsFunc_Atom x9 F_l38_NormOut_1).bind fun x10 => (bif x10 then some false else (F_atom_Out [] (⟨0, []⟩ : Env) x9 h4).bind fun x11 => (F_atom_Out l1 e2 a3 h4).bind fun x12 => (F_exec_Same x11 x12).bind fun x13 => (opt x13 (F_l38_awake)).bind fun x14 => some (x13 && x14)))
theorem c_l38_NormOut (l1 : (List Group)) (e2 : Env) (a3 : (List Atom)) (h4 : (Vector Wide 24)) (r : Bool) (h : F_l38_NormOut l1 e2 a3 h4 = some r) : PCon Try.prog 4 [rd (ksl kGroup) l1, rd kEnv e2, rd (ksl kAtom) a3, rd (karr 24 kWide) h4] (rd kbool r) := by
  refine PCon.of (Con.intro0 Try.func4 rfl Try.ntmps4 rfl fun w H => ?_)
  unfold F_l38_NormOut at h
  refine AW.seq ?_
  refine AW.region ?_
  refine AOps.consT rfl (op_box 6 rfl rfl (vt rfl)) ?_
  rintro _ ⟨g5, rfl⟩
  refine AOps.consT rfl (op_box 8 rfl rfl (vt rfl)) ?_
  rintro _ ⟨g6, rfl⟩
  refine AOps.cons (op_assign (A := rd kbool false) rfl rfl vb) rfl ?_
  refine AOps.nil ?_
  refine AW.seq ?_
  refine AW.seq ?_
  obtain ⟨x7, hx7, h⟩ := bsome h
  refine AW.region ?_
  refine AOps.cons (op_move (A := rd (ksl kGroup) l1) rfl rfl (vt rfl)) rfl ?_
  refine AOps.cons (op_load rfl rfl ty25 (vt rfl) (i := 6) rfl) rfl ?_
  refine AOps.cons (op_move (A := rd (ksl kAtom) a3) rfl rfl (vt rfl)) rfl ?_
  refine AOps.cons (op_call (xs := [.tmp 10, .tmp 11, .tmp 12]) (c_l38_light _ _ _ _ hx7) (Ent.mk Try.func16 rfl rfl) rfl rfl ⟨vt rfl, vt rfl, vt rfl, trivial⟩) rfl ?_
  refine AOps.cons (op_not rfl rfl (vt rfl)) rfl ?_
  refine AOps.nil ?_
  refine AW.cond (vt rfl) (fun hc => ?_) (fun hc => ?_)
  · have h := cond_t hc h
    refine AW.seq ?_
    obtain ⟨x8, hx8, h⟩ := bsome h
    refine AW.region ?_
    refine AOps.cons (op_call (xs := []) (c_l38_awake _ hx8) (Ent.mk Try.func17 rfl rfl) rfl rfl trivial) rfl ?_
    refine AOps.cons (op_assign (A := rd kbool x8) rfl rfl (vt rfl)) rfl ?_
    refine AOps.nil ?_
    refine AW.ret ?_
    obtain rfl := Option.some.inj h
    exact ret1 Try.results4 rfl (out_tmp rfl)
  · have h := cond_f hc h
    refine AW.skip ?_
    refine AW.seq ?_
    obtain ⟨x9, hx9, h⟩ := bsome h
    refine AW.region ?_
    refine AOps.cons (op_move (A := rd (ksl kGroup) l1) rfl rfl (vt rfl)) rfl ?_
    refine AOps.cons (op_load rfl rfl ty25 (vt rfl) (i := 6) rfl) rfl ?_
    refine AOps.cons (op_move (A := rd (ksl kAtom) a3) rfl rfl (vt rfl)) rfl ?_
    refine AOps.cons (op_call (xs := [.tmp 16, .tmp 17, .tmp 18]) (c_norm_List _ _ _ _ hx9) (Ent.mk Try.func18 rfl rfl) rfl rfl ⟨vt rfl, vt rfl, vt rfl, trivial⟩) rfl ?_
    refine AOps.cons (op_assign (A := rd (ksl kAtom) x9) rfl rfl (vt rfl)) rfl ?_
    refine AOps.nil ?_
    refine AW.seq ?_
    refine AW.seq ?_
    obtain ⟨x10, hx10, h⟩ := bsome h
    refine AW.region ?_
    refine AOps.cons (op_move (A := rd (ksl kAtom) x9) rfl rfl (vt rfl)) rfl ?_
    refine AOps.cons (op_call (xs := [.tmp 20, .func 20]) (c_slices_ContainsFunc_Atom _ _ _ hx10) (Ent.mk Try.func19 rfl rfl) rfl rfl ⟨vt rfl, vf1 (Ent.mk Try.func20 rfl rfl) c_l38_NormOut_1, trivial⟩) rfl ?_
    refine AOps.nil ?_
    refine AW.cond (vt rfl) (fun hc => ?_) (fun hc => ?_)
    · have h := cond_t hc h
      refine AW.seq ?_
      refine AW.region ?_
      refine AOps.cons (op_assign (A := rd kbool false) rfl rfl vb) rfl ?_
      refine AOps.nil ?_
      refine AW.ret ?_
      obtain rfl := Option.some.inj h
      exact ret1 Try.results4 rfl (out_tmp rfl)
    · have h := cond_f hc h
      refine AW.skip ?_
      refine AW.seq ?_
      obtain ⟨x11, hx11, h⟩ := bsome h
      obtain ⟨x12, hx12, h⟩ := bsome h
      obtain ⟨x13, hx13, h⟩ := bsome h
      obtain ⟨x14, hx14, h⟩ := bsome h
      refine AW.regionAny [⟨[], [22], [], []⟩, ⟨[9], [23], [], []⟩, ⟨[7], [24], [8], []⟩, ⟨[22, 23, 24], [25], [], []⟩, ⟨[0], [26], [], []⟩, ⟨[5], [27], [6], []⟩, ⟨[2], [28], [], []⟩, ⟨[7], [29], [8], []⟩, ⟨[26, 27, 28, 29], [30], [], []⟩, ⟨[25, 30], [31], [], []⟩, ⟨[31], [32], [], []⟩, ⟨[32], [33], [], []⟩, ⟨[33, 32], [34], [], []⟩, ⟨[34], [8], [], []⟩] mixed (by kernel_rfl) ?_
      refine SeqA.cons (loc [] [] rfl rfl fun S hs hr => op_build (ps := []) (x := (⟨0, []⟩ : Env)) rfl rfl rfl (by kernel_rfl) zr25 rfl) ⟨rfl, rfl, rfl, rfl⟩ ?_
      refine SeqA.cons (loc [9] [] rfl rfl fun S hs hr => op_move (A := rd (ksl kAtom) x9) rfl rfl (vt ((hs 9 rfl).trans rfl))) ⟨rfl, rfl, rfl, rfl⟩ ?_
      refine SeqA.cons (loc [7] [8] rfl rfl fun S hs hr => op_load rfl rfl ty30 (vt ((hs 7 rfl).trans rfl)) (i := 8) ((hr 8 rfl).trans rfl)) ⟨rfl, rfl, rfl, rfl⟩ ?_
      refine SeqA.cons (loc [22, 23, 24] [] rfl rfl fun S hs hr => op_call (xs := [.const (Value.slice none 0 0), .tmp 22, .tmp 23, .tmp 24]) (c_atom_Out _ _ _ _ _ hx11) (Ent.mk Try.func22 rfl rfl) rfl rfl ⟨vnil, vt ((hs 22 rfl).trans rfl), vt ((hs 23 rfl).trans rfl), vt ((hs 24 rfl).trans rfl), trivial⟩) ⟨rfl, rfl, rfl, rfl⟩ ?_
      refine SeqA.cons (loc [0] [] rfl rfl fun S hs hr => op_move (A := rd (ksl kGroup) l1) rfl rfl (vt ((hs 0 rfl).trans rfl))) ⟨rfl, rfl, rfl, rfl⟩ ?_
      refine SeqA.cons (loc [5] [6] rfl rfl fun S hs hr => op_load rfl rfl ty25 (vt ((hs 5 rfl).trans rfl)) (i := 6) ((hr 6 rfl).trans rfl)) ⟨rfl, rfl, rfl, rfl⟩ ?_
      refine SeqA.cons (loc [2] [] rfl rfl fun S hs hr => op_move (A := rd (ksl kAtom) a3) rfl rfl (vt ((hs 2 rfl).trans rfl))) ⟨rfl, rfl, rfl, rfl⟩ ?_
      refine SeqA.cons (loc [7] [8] rfl rfl fun S hs hr => op_load rfl rfl ty30 (vt ((hs 7 rfl).trans rfl)) (i := 8) ((hr 8 rfl).trans rfl)) ⟨rfl, rfl, rfl, rfl⟩ ?_
      refine SeqA.cons (loc [26, 27, 28, 29] [] rfl rfl fun S hs hr => op_call (xs := [.tmp 26, .tmp 27, .tmp 28, .tmp 29]) (c_atom_Out _ _ _ _ _ hx12) (Ent.mk Try.func22 rfl rfl) rfl rfl ⟨vt ((hs 26 rfl).trans rfl), vt ((hs 27 rfl).trans rfl), vt ((hs 28 rfl).trans rfl), vt ((hs 29 rfl).trans rfl), trivial⟩) ⟨rfl, rfl, rfl, rfl⟩ ?_
      refine SeqA.cons (loc [25, 30] [] rfl rfl fun S hs hr => op_call (xs := [.tmp 25, .tmp 30]) (c_exec_Same _ _ _ hx13) (Ent.mk Try.func21 rfl rfl) rfl rfl ⟨vt ((hs 25 rfl).trans rfl), vt ((hs 30 rfl).trans rfl), trivial⟩) ⟨rfl, rfl, rfl, rfl⟩ ?_
      refine SeqA.cons (loc [31] [] rfl rfl fun S hs hr => op_move (A := rd kbool x13) rfl rfl (vt ((hs 31 rfl).trans rfl))) ⟨rfl, rfl, rfl, rfl⟩ ?_
      refine SeqA.cons (locg [32] [] rfl rfl rfl rfl rfl rfl rfl fun hq S hs hr => op_call (xs := []) (c_l38_awake _ (opt_t hx14 hq)) (Ent.mk Try.func17 rfl rfl) rfl rfl trivial) ⟨rfl, rfl, rfl, rfl⟩ ?_
      refine SeqA.cons (loc [33, 32] [] rfl rfl fun S hs hr => op_all rfl rfl (vt ((hs 32 rfl).trans rfl)) (vt ((hs 33 rfl).trans rfl))) ⟨rfl, rfl, rfl, rfl⟩ ?_
      refine SeqA.cons (loc [34] [] rfl rfl fun S hs hr => op_assign (A := rd kbool (x13 && x14)) rfl rfl (vt ((hs 34 rfl).trans rfl))) ⟨rfl, rfl, rfl, rfl⟩ ?_
      refine AW.ret ?_
      obtain rfl := Option.some.inj h
      exact ret1 Try.results4 rfl (out_tmp rfl)
def F_cube_All : Option (Vector Tern 24) :=
  some (Vector.replicate 24 zTern)
theorem c_cube_All (r : (Vector Tern 24)) (h : F_cube_All = some r) : PCon Try.prog 54 [] (rd (karr 24 kTern) r) := by
  refine PCon.of (Con.intro0 Try.func54 rfl Try.ntmps54 rfl fun w H => ?_)
  unfold F_cube_All at h
  refine AW.seq ?_
  refine AW.region ?_
  refine AOps.consT rfl (op_alloc 1 rfl rfl zr106) ?_
  rintro _ ⟨g1, rfl⟩
  refine AOps.nil ?_
  refine AW.seq ?_
  refine AW.region ?_
  refine AOps.cons (op_build (ps := []) (x := (Vector.replicate 24 zTern)) rfl rfl rfl (by kernel_rfl) zr106 rfl) rfl ?_
  refine AOps.cons (op_store rfl rfl ty106 (vt rfl) (i := 1) rfl (vt rfl)) rfl ?_
  refine AOps.nil ?_
  refine AW.ret ?_
  obtain rfl := Option.some.inj h
  exact ret1 Try.results54 rfl (out_cell rfl (i := 1) rfl ty106)
def F_cube_Clean_1 (i1 : Int) (cp2 : (Vector Tern 24)) : Option (Tern × Bool) :=
  (chk 24 i1).bind fun j4 => (F_tern_Clean (Vector.get cp2 j4)).bind fun x5 => some (x5, true)
theorem c_cube_Clean_1 (i1 : Int) (cp2 : (Vector Tern 24)) (r : (Tern × Bool)) (h : F_cube_Clean_1 i1 cp2 = some r) : PCon Try.prog 126 [rd (kint .i64) i1, rp (karr 24 kTern) cp2] (tup2 (rd kTern r.1) (rd kbool r.2)) := by
  refine PCon.of (Con.intro0 Try.func126 rfl Try.ntmps126 rfl fun w H => ?_)
  unfold F_cube_Clean_1 at h
  refine AW.seq ?_
  refine AW.region ?_
  refine AOps.consT rfl (op_alloc 4 rfl rfl zr49) ?_
  rintro _ ⟨g3, rfl⟩
  refine AOps.cons (op_assign (A := rd kbool false) rfl rfl vb) rfl ?_
  refine AOps.nil ?_
  refine AW.seq ?_
  obtain ⟨j4, hj4, h⟩ := bsome h
  obtain ⟨x5, hx5, h⟩ := bsome h
  refine AW.region ?_
  refine AOps.cons (op_move (A := rd (kint .i64) i1) rfl rfl (vt rfl)) rfl ?_
  refine AOps.cons (op_indexp' rfl rfl ar106 (vt rfl) (vt rfl) hj4) rfl ?_
  refine AOps.cons (op_loadp rfl rfl ty49 (vt rfl)) rfl ?_
  refine AOps.cons (op_call (xs := [.tmp 7]) (c_tern_Clean _ _ hx5) (Ent.mk Try.func122 rfl rfl) rfl rfl ⟨vt rfl, trivial⟩) rfl ?_
  refine AOps.cons (op_store rfl rfl ty49 (vt rfl) (i := 4) rfl (vt rfl)) rfl ?_
  refine AOps.cons (op_assign (A := rd kbool true) rfl rfl vb) rfl ?_
  refine AOps.nil ?_
  refine AW.ret ?_
  obtain rfl := Option.some.inj h
  exact ret2 Try.results126 rfl (out_cell rfl (i := 4) rfl ty49) (out_tmp rfl)
def F_cube_each_l1 (f1 : (Int → Option (Tern × Bool))) : Nat → Nat → (Vector Tern 24) → Option ((Vector Tern 24) × Bool)
  | 0, i6, b5 => some (b5, true)
  | m7 + 1, i6, b5 => (f1 (i6 : Int)).bind fun x8 => (bif (!x8.2) then some ((Vector.replicate 24 zTern), false) else (chk 24 (i6 : Int)).bind fun j10 => (F_cube_each_l1 f1 m7) (i6 + 1) (Vector.set b5 j10.1 x8.1 j10.2))
def F_cube_each (f1 : (Int → Option (Tern × Bool))) : Option ((Vector Tern 24) × Bool) :=
  F_cube_each_l1 f1 (24 : Int).toNat 0 (Vector.replicate 24 zTern)
theorem c_cube_each (f1 : (Int → Option (Tern × Bool))) (r : ((Vector Tern 24) × Bool)) (h : F_cube_each f1 = some r) : PCon Try.prog 125 [fa1 Try.prog (kint .i64) (fun (y : (Tern × Bool)) => tup2 (rd kTern y.1) (rd kbool y.2)) f1] (tup2 (rd (karr 24 kTern) r.1) (rd kbool r.2)) := by
  refine PCon.of (Con.intro0 Try.func125 rfl Try.ntmps125 rfl fun w H => ?_)
  unfold F_cube_each at h
  refine AW.seq ?_
  refine AW.region ?_
  refine AOps.consT rfl (op_alloc 3 rfl rfl zr106) ?_
  rintro _ ⟨g2, rfl⟩
  refine AOps.cons (op_assign (A := rd kbool false) rfl rfl vb) rfl ?_
  refine AOps.nil ?_
  refine AW.seq ?_
  refine AW.region ?_
  refine AOps.consT rfl (op_alloc 5 rfl rfl zr106) ?_
  rintro _ ⟨g3, rfl⟩
  refine AOps.nil ?_
  refine AW.seq ?_
  refine AW.seq ?_
  refine AW.region ?_
  refine AOps.cons (op_move (A := rd (kint .i64) 0) rfl rfl (vk rfl)) rfl ?_
  refine AOps.nil ?_
  refine AW.block ?_
  refine AW.loopG (d := []) (ν := Nat × Nat × (Vector Tern 24)) (fun n => Cnt 24 n.2.1 n.1 ∧ F_cube_each_l1 f1 n.1 n.2.1 n.2.2 = some r) (fun n => n.1) (fun n => [(0, fa1 Try.prog (kint .i64) (fun (y : (Tern × Bool)) => tup2 (rd kTern y.1) (rd kbool y.2)) f1), (2, ptrL g2 (Lens.id (karr 24 kTern))), (4, ptrL g3 (Lens.id (karr 24 kTern))), (8, rd (kint .i64) (n.2.1 : Int))]) (fun n => [(3, Blk g2 106 (karr 24 kTern) (Vector.replicate 24 zTern)), (5, Blk g3 106 (karr 24 kTern) n.2.2)]) ((24 : Int).toNat, 0, (Vector.replicate 24 zTern)) ⟨Cnt.start _, h⟩ ⟨rfl, ⟨rfl, rfl, rfl, rfl, trivial⟩, ⟨rfl, rfl, trivial⟩⟩ ?_
  rintro ⟨m7, i6, b5⟩ ⟨hsf1, h⟩
  change Cnt 24 i6 m7 at hsf1
  change F_cube_each_l1 f1 m7 i6 b5 = some r at h
  change AW _ _ _ ⟨slots [(0, fa1 Try.prog (kint .i64) (fun (y : (Tern × Bool)) => tup2 (rd kTern y.1) (rd kbool y.2)) f1), (2, ptrL g2 (Lens.id (karr 24 kTern))), (4, ptrL g3 (Lens.id (karr 24 kTern))), (8, rd (kint .i64) (i6 : Int))], ress [(3, Blk g2 106 (karr 24 kTern) (Vector.replicate 24 zTern)), (5, Blk g3 106 (karr 24 kTern) b5)], _⟩
  cases m7 with
  | zero =>
    unfold F_cube_each_l1 at h
    refine AW.seq ?_
    refine AW.region ?_
    refine AOps.cons (op_lss rfl rfl (vt rfl) (vk rfl)) rfl ?_
    refine AOps.nil ?_
    refine AW.seq ?_
    refine AW.cond (vt rfl) (fun hc => absurd (of_decide_eq_true hc) hsf1.zero) (fun hc => ?_)
    refine AW.exit ?_
    refine AW.seq ?_
    refine AW.region ?_
    refine AOps.cons (op_load rfl rfl ty106 (vt rfl) (i := 5) rfl) rfl ?_
    refine AOps.cons (op_store rfl rfl ty106 (vt rfl) (i := 3) rfl (vt rfl)) rfl ?_
    refine AOps.cons (op_assign (A := rd kbool true) rfl rfl vb) rfl ?_
    refine AOps.nil ?_
    refine AW.ret ?_
    obtain rfl := Option.some.inj h
    exact ret2 Try.results125 rfl (out_cell rfl (i := 3) rfl ty106) (out_tmp rfl)
  | succ m7 =>
    unfold F_cube_each_l1 at h
    generalize hgo1 : F_cube_each_l1 f1 m7 = go1 at h
    refine AW.seq ?_
    refine AW.region ?_
    refine AOps.cons (op_lss rfl rfl (vt rfl) (vk rfl)) rfl ?_
    refine AOps.nil ?_
    refine AW.seq ?_
    refine AW.cond (vt rfl) (fun hc => ?_) (fun hc => absurd hsf1.succ (of_decide_eq_false hc))
    have hlti6 := of_decide_eq_true hc
    refine AW.skip ?_
    refine AW.seq ?_
    refine AW.block ?_
    refine AW.seq ?_
    refine AW.region ?_
    refine AOps.cons (op_move (A := rd (kint .i64) (i6 : Int)) rfl rfl (vt rfl)) rfl ?_
    refine AOps.cons (op_assign (A := rd (kint .i64) (i6 : Int)) rfl rfl (vt rfl)) rfl ?_
    refine AOps.nil ?_
    refine AW.seq ?_
    obtain ⟨x8, hx8, h⟩ := bsome h
    refine AW.region ?_
    refine AOps.cons (op_move (A := fa1 Try.prog (kint .i64) (fun (y : (Tern × Bool)) => tup2 (rd kTern y.1) (rd kbool y.2)) f1) rfl rfl (vt rfl)) rfl ?_
    refine AOps.cons (op_move (A := rd (kint .i64) (i6 : Int)) rfl rfl (vt rfl)) rfl ?_
    refine AOps.cons (op_calla1 (B := (fun (y : (Tern × Bool)) => tup2 (rd kTern y.1) (rd kbool y.2))) hx8 rfl rfl (vt rfl) (vt rfl)) rfl ?_
    refine AOps.cons (op_move (A := tup2 (rd kTern x8.1) (rd kbool x8.2)) rfl rfl (vt rfl)) rfl ?_
    refine AOps.cons (op_fst rfl rfl (vt rfl)) rfl ?_
    refine AOps.cons (op_snd rfl rfl (vt rfl)) rfl ?_
    refine AOps.consT rfl (op_alloc 7 rfl rfl zr49) ?_
    rintro _ ⟨g9, rfl⟩
    refine AOps.cons (op_store rfl rfl ty49 (vt rfl) (i := 7) rfl (vt rfl)) rfl ?_
    refine AOps.cons (op_assign (A := rd kbool x8.2) rfl rfl (vt rfl)) rfl ?_
    refine AOps.nil ?_
    refine AW.seq ?_
    refine AW.seq ?_
    refine AW.region ?_
    refine AOps.cons (op_move (A := rd kbool x8.2) rfl rfl (vt rfl)) rfl ?_
    refine AOps.cons (op_not rfl rfl (vt rfl)) rfl ?_
    refine AOps.nil ?_
    refine AW.cond (vt rfl) (fun hc => ?_) (fun hc => ?_)
    · have h := cond_t hc h
      refine AW.seq ?_
      refine AW.region ?_
      refine AOps.cons (op_build (ps := []) (x := (Vector.replicate 24 zTern)) rfl rfl rfl (by kernel_rfl) zr106 rfl) rfl ?_
      refine AOps.cons (op_store rfl rfl ty106 (vt rfl) (i := 3) rfl (vt rfl)) rfl ?_
      refine AOps.cons (op_assign (A := rd kbool false) rfl rfl vb) rfl ?_
      refine AOps.nil ?_
      refine AW.ret ?_
      obtain rfl := Option.some.inj h
      exact ret2 Try.results125 rfl (out_cell rfl (i := 3) rfl ty106) (out_tmp rfl)
    · have h := cond_f hc h
      refine AW.skip ?_
      obtain ⟨j10, hj10, h⟩ := bsome h
      refine AW.region ?_
      refine AOps.cons (op_move (A := rd (kint .i64) (i6 : Int)) rfl rfl (vt rfl)) rfl ?_
      refine AOps.cons (op_load rfl rfl ty49 (vt rfl) (i := 7) rfl) rfl ?_
      refine AOps.cons (op_index' rfl rfl ar106 (vt rfl) (vt rfl) hj10) rfl ?_
      refine AOps.cons (op_store rfl rfl ty49 (vt rfl) (i := 5) rfl (vt rfl)) rfl ?_
      refine AOps.nil ?_
      refine AW.region ?_
      refine AOps.cons (op_incrc rfl rfl (vt rfl) (vk rfl) rfl hlti6) rfl ?_
      refine AOps.cons (op_move (A := rd (kint .i64) ((i6 + 1 : Nat) : Int)) rfl rfl (vt rfl)) rfl ?_
      refine AOps.nil ?_
      subst hgo1
      exact ⟨(m7, i6 + 1, (Vector.set b5 j10.1 x8.1 j10.2)), Nat.lt_succ_self _, ⟨hsf1.next, h⟩, ⟨rfl, ⟨rfl, rfl, rfl, rfl, trivial⟩, ⟨rfl, rfl, trivial⟩⟩⟩
def F_cube_Clean (c_gosem_cut : (Vector Tern 24)) : Option (Vector Tern 24) :=
  (F_cube_each (fun x => F_cube_Clean_1 x c_gosem_cut)).bind fun x4 => some x4.1
theorem c_cube_Clean (c_gosem_cut : (Vector Tern 24)) (r : (Vector Tern 24)) (h : F_cube_Clean c_gosem_cut = some r) : PCon Try.prog 90 [rd (karr 24 kTern) c_gosem_cut] (rd (karr 24 kTern) r) := by
  refine PCon.of (Con.intro0 Try.func90 rfl Try.ntmps90 rfl fun w H => ?_)
  unfold F_cube_Clean at h
  refine AW.seq ?_
  refine AW.region ?_
  refine AOps.consT rfl (op_box 2 rfl rfl (vt rfl)) ?_
  rintro _ ⟨g2, rfl⟩
  refine AOps.consT rfl (op_alloc 3 rfl rfl zr106) ?_
  rintro _ ⟨g3, rfl⟩
  refine AOps.nil ?_
  refine AW.seq ?_
  refine AW.freezeB 1 2 rfl rfl rfl ?_
  obtain ⟨x4, hx4, h⟩ := bsome h
  refine AW.region ?_
  refine AOps.cons (op_fa1 (fs := []) (FAs := []) (cs := [.tmp 1]) (CAs := [rp (karr 24 kTern) c_gosem_cut]) (kx := (kint .i64)) (B := (fun (y : (Tern × Bool)) => tup2 (rd kTern y.1) (rd kbool y.2))) (fun x => F_cube_Clean_1 x c_gosem_cut) rfl rfl (Ent.mk Try.func126 rfl rfl) trivial ⟨vt rfl, trivial⟩ (fun x y h => c_cube_Clean_1 _ _ y h)) rfl ?_
  refine AOps.cons (op_call (xs := [.tmp 6]) (c_cube_each _ _ hx4) (Ent.mk Try.func125 rfl rfl) rfl rfl ⟨vt rfl, trivial⟩) rfl ?_
  refine AOps.cons (op_move (A := tup2 (rd (karr 24 kTern) x4.1) (rd kbool x4.2)) rfl rfl (vt rfl)) rfl ?_
  refine AOps.cons (op_fst rfl rfl (vt rfl)) rfl ?_
  refine AOps.cons (op_snd rfl rfl (vt rfl)) rfl ?_
  refine AOps.consT rfl (op_alloc 4 rfl rfl zr106) ?_
  rintro _ ⟨g5, rfl⟩
  refine AOps.cons (op_store rfl rfl ty106 (vt rfl) (i := 4) rfl (vt rfl)) rfl ?_
  refine AOps.cons (op_assign (A := rd kbool x4.2) rfl rfl (vt rfl)) rfl ?_
  refine AOps.nil ?_
  refine AW.seq ?_
  refine AW.region ?_
  refine AOps.cons (op_load rfl rfl ty106 (vt rfl) (i := 4) rfl) rfl ?_
  refine AOps.cons (op_store rfl rfl ty106 (vt rfl) (i := 3) rfl (vt rfl)) rfl ?_
  refine AOps.nil ?_
  refine AW.ret ?_
  obtain rfl := Option.some.inj h
  exact ret1 Try.results90 rfl (out_cell rfl (i := 3) rfl ty106)
end Go.Proofs.Ytknpgojdkobgjaa.W
set_option linter.unusedVariables false
set_option maxRecDepth 4000
set_option linter.unusedSimpArgs false
namespace Go.Proofs.Ytknpgojdkobgjaa.W
open Go Go.Wb
def F_slices_EqualFunc_Atom_Atom_l1 (s22 : (List Atom)) (eq3 : (Atom → Atom → Option Bool)) : (List Atom) → Nat → Option Bool
  | [], i4 => some true
  | x6 :: l5, i4 => (lget s22 (i4 : Int)).bind fun e8 => (eq3 x6 e8).bind fun x10 => (bif (!x10) then some false else (F_slices_EqualFunc_Atom_Atom_l1 s22 eq3 l5) (i4 + 1))
def F_slices_EqualFunc_Atom_Atom (s11 : (List Atom)) (s22 : (List Atom)) (eq3 : (Atom → Atom → Option Bool)) : Option Bool :=
  (bif (decide ((s11.length : Int) ≠ (s22.length : Int))) then some false else F_slices_EqualFunc_Atom_Atom_l1 s22 eq3 s11 0)
theorem c_slices_EqualFunc_Atom_Atom (s11 : (List Atom)) (s22 : (List Atom)) (eq3 : (Atom → Atom → Option Bool)) (r : Bool) (h : F_slices_EqualFunc_Atom_Atom s11 s22 eq3 = some r) : PCon Try.prog 86 [rd (ksl kAtom) s11, rd (ksl kAtom) s22, fn2 Try.prog kAtom kAtom kbool eq3] (rd kbool r) := by
  refine PCon.of (Con.intro0 Try.func86 rfl Try.ntmps86 rfl fun w H => ?_)
  unfold F_slices_EqualFunc_Atom_Atom at h
  refine AW.seq ?_
  refine AW.region ?_
  refine AOps.cons (op_assign (A := rd kbool false) rfl rfl vb) rfl ?_
  refine AOps.nil ?_
  refine AW.seq ?_
  refine AW.seq ?_
  refine AW.region ?_
  refine AOps.cons (op_move (A := rd (ksl kAtom) s11) rfl rfl (vt rfl)) rfl ?_
  refine AOps.cons (op_len' rfl rfl sl44 (vt rfl)) rfl ?_
  refine AOps.cons (op_move (A := rd (ksl kAtom) s22) rfl rfl (vt rfl)) rfl ?_
  refine AOps.cons (op_len' rfl rfl sl44 (vt rfl)) rfl ?_
  refine AOps.cons (op_neq rfl rfl (vt rfl) (vt rfl)) rfl ?_
  refine AOps.nil ?_
  refine AW.cond (vt rfl) (fun hc => ?_) (fun hc => ?_)
  · have h := cond_t hc h
    refine AW.seq ?_
    refine AW.region ?_
    refine AOps.cons (op_assign (A := rd kbool false) rfl rfl vb) rfl ?_
    refine AOps.nil ?_
    refine AW.ret ?_
    obtain rfl := Option.some.inj h
    exact ret1 Try.results86 rfl (out_tmp rfl)
  · have h := cond_f hc h
    refine AW.skip ?_
    refine AW.seq ?_
    refine AW.seq ?_
    refine AW.region ?_
    refine AOps.cons (op_move (A := rd (ksl kAtom) s11) rfl rfl (vt rfl)) rfl ?_
    refine AOps.cons (op_len' rfl rfl sl44 (vt rfl)) rfl ?_
    refine AOps.cons (op_move (A := rd (kint .i64) 0) rfl rfl (vk rfl)) rfl ?_
    refine AOps.nil ?_
    refine AW.block ?_
    refine AW.loopG (d := []) (ν := (List Atom) × Nat) (fun n => Sfx s11 n.2 n.1 ∧ F_slices_EqualFunc_Atom_Atom_l1 s22 eq3 n.1 n.2 = some r) (fun n => n.1.length) (fun n => [(1, rd (ksl kAtom) s22), (2, fn2 Try.prog kAtom kAtom kbool eq3), (15, rd (ksl kAtom) s11), (16, rd (kint .i64) (s11.length : Int)), (17, rd (kint .i64) (n.2 : Int))]) (fun n => []) (s11, 0) ⟨Sfx.start _, h⟩ ⟨rfl, ⟨rfl, rfl, rfl, rfl, rfl, trivial⟩, trivial⟩ ?_
    rintro ⟨l5, i4⟩ ⟨hsf1, h⟩
    change Sfx s11 i4 l5 at hsf1
    change F_slices_EqualFunc_Atom_Atom_l1 s22 eq3 l5 i4 = some r at h
    change AW _ _ _ ⟨slots [(1, rd (ksl kAtom) s22), (2, fn2 Try.prog kAtom kAtom kbool eq3), (15, rd (ksl kAtom) s11), (16, rd (kint .i64) (s11.length : Int)), (17, rd (kint .i64) (i4 : Int))], ress [], _⟩
    cases l5 with
    | nil =>
      unfold F_slices_EqualFunc_Atom_Atom_l1 at h
      refine AW.seq ?_
      refine AW.region ?_
      refine AOps.cons (op_lss rfl rfl (vt rfl) (vt rfl)) rfl ?_
      refine AOps.nil ?_
      refine AW.seq ?_
      refine AW.cond (vt rfl) (fun hc => absurd (of_decide_eq_true hc) hsf1.nil) (fun hc => ?_)
      refine AW.exit ?_
      refine AW.seq ?_
      refine AW.region ?_
      refine AOps.cons (op_assign (A := rd kbool true) rfl rfl vb) rfl ?_
      refine AOps.nil ?_
      refine AW.ret ?_
      obtain rfl := Option.some.inj h
      exact ret1 Try.results86 rfl (out_tmp rfl)
    | cons x6 l5 =>
      unfold F_slices_EqualFunc_Atom_Atom_l1 at h
      generalize hgo1 : F_slices_EqualFunc_Atom_Atom_l1 s22 eq3 l5 = go1 at h
      refine AW.seq ?_
      refine AW.region ?_
      refine AOps.cons (op_lss rfl rfl (vt rfl) (vt rfl)) rfl ?_
      refine AOps.nil ?_
      refine AW.seq ?_
      refine AW.cond (vt rfl) (fun hc => ?_) (fun hc => absurd hsf1.cons (of_decide_eq_false hc))
      have hlti4 := of_decide_eq_true hc
      refine AW.skip ?_
      refine AW.seq ?_
      refine AW.block ?_
      refine AW.seq ?_
      refine AW.region ?_
      refine AOps.cons (op_move (A := rd (kint .i64) (i4 : Int)) rfl rfl (vt rfl)) rfl ?_
      refine AOps.cons (op_indexs' rfl rfl sl44 (vt rfl) (vt rfl) hsf1.lget) rfl ?_
      refine AOps.cons (op_loadp rfl rfl ty53 (vt rfl)) rfl ?_
      refine AOps.consT rfl (op_alloc 9 rfl rfl zr53) ?_
      rintro _ ⟨g7, rfl⟩
      refine AOps.cons (op_assign (A := rd (kint .i64) (i4 : Int)) rfl rfl (vt rfl)) rfl ?_
      refine AOps.cons (op_store rfl rfl ty53 (vt rfl) (i := 9) rfl (vt rfl)) rfl ?_
      refine AOps.nil ?_
      refine AW.seq ?_
      obtain ⟨e8, he8, h⟩ := bsome h
      refine AW.region ?_
      refine AOps.cons (op_move (A := rd (ksl kAtom) s22) rfl rfl (vt rfl)) rfl ?_
      refine AOps.cons (op_move (A := rd (kint .i64) (i4 : Int)) rfl rfl (vt rfl)) rfl ?_
      refine AOps.cons (op_indexs' rfl rfl sl44 (vt rfl) (vt rfl) he8) rfl ?_
      refine AOps.cons (op_loadp rfl rfl ty53 (vt rfl)) rfl ?_
      refine AOps.consT rfl (op_alloc 10 rfl rfl zr53) ?_
      rintro _ ⟨g9, rfl⟩
      refine AOps.cons (op_store rfl rfl ty53 (vt rfl) (i := 10) rfl (vt rfl)) rfl ?_
      refine AOps.nil ?_
      refine AW.seq ?_
      obtain ⟨x10, hx10, h⟩ := bsome h
      refine AW.region ?_
      refine AOps.cons (op_move (A := fn2 Try.prog kAtom kAtom kbool eq3) rfl rfl (vt rfl)) rfl ?_
      refine AOps.cons (op_load rfl rfl ty53 (vt rfl) (i := 9) rfl) rfl ?_
      refine AOps.cons (op_load rfl rfl ty53 (vt rfl) (i := 10) rfl) rfl ?_
      refine AOps.cons (op_call2 hx10 rfl rfl (vt rfl) (vt rfl) (vt rfl)) rfl ?_
      refine AOps.cons (op_not rfl rfl (vt rfl)) rfl ?_
      refine AOps.nil ?_
      refine AW.cond (vt rfl) (fun hc => ?_) (fun hc => ?_)
      · have h := cond_t hc h
        refine AW.seq ?_
        refine AW.region ?_
        refine AOps.cons (op_assign (A := rd kbool false) rfl rfl vb) rfl ?_
        refine AOps.nil ?_
        refine AW.ret ?_
        obtain rfl := Option.some.inj h
        exact ret1 Try.results86 rfl (out_tmp rfl)
      · have h := cond_f hc h
        refine AW.skip ?_
        refine AW.region ?_
        refine AOps.cons (op_incr (t := 16) rfl rfl (vt rfl) (vk rfl) (vt rfl) hlti4) rfl ?_
        refine AOps.cons (op_move (A := rd (kint .i64) ((i4 + 1 : Nat) : Int)) rfl rfl (vt rfl)) rfl ?_
        refine AOps.nil ?_
        subst hgo1
        exact ⟨(l5, i4 + 1), Nat.lt_succ_self _, ⟨hsf1.next, h⟩, ⟨rfl, ⟨rfl, rfl, rfl, rfl, rfl, trivial⟩, trivial⟩⟩
def F_wide_Xor (a1 : Wide) (b2 : Wide) : Option Wide :=
  some (⟨(a1.Hi ^^^ b2.Hi), (a1.Lo ^^^ b2.Lo)⟩ : Wide)
theorem c_wide_Xor (a1 : Wide) (b2 : Wide) (r : Wide) (h : F_wide_Xor a1 b2 = some r) : PCon Try.prog 93 [rd kWide a1, rd kWide b2] (rd kWide r) := by
  refine PCon.of (Con.intro0 Try.func93 rfl Try.ntmps93 rfl fun w H => ?_)
  unfold F_wide_Xor at h
  refine AW.seq ?_
  refine AW.region ?_
  refine AOps.consT rfl (op_box 3 rfl rfl (vt rfl)) ?_
  rintro _ ⟨g3, rfl⟩
  refine AOps.consT rfl (op_box 4 rfl rfl (vt rfl)) ?_
  rintro _ ⟨g4, rfl⟩
  refine AOps.consT rfl (op_alloc 5 rfl rfl zr28) ?_
  rintro _ ⟨g5, rfl⟩
  refine AOps.nil ?_
  refine AW.seq ?_
  refine AW.region ?_
  refine AOps.cons (op_field lWide_0 rfl rfl fl28_0 (vt rfl)) rfl ?_
  refine AOps.cons (op_load rfl rfl ty26 (vt rfl) (i := 3) rfl) rfl ?_
  refine AOps.cons (op_field lWide_0 rfl rfl fl28_0 (vt rfl)) rfl ?_
  refine AOps.cons (op_load rfl rfl ty26 (vt rfl) (i := 4) rfl) rfl ?_
  refine AOps.cons (op_xor rfl rfl (vt rfl) (vt rfl)) rfl ?_
  refine AOps.cons (op_field lWide_1 rfl rfl fl28_1 (vt rfl)) rfl ?_
  refine AOps.cons (op_load rfl rfl ty26 (vt rfl) (i := 3) rfl) rfl ?_
  refine AOps.cons (op_field lWide_1 rfl rfl fl28_1 (vt rfl)) rfl ?_
  refine AOps.cons (op_load rfl rfl ty26 (vt rfl) (i := 4) rfl) rfl ?_
  refine AOps.cons (op_xor rfl rfl (vt rfl) (vt rfl)) rfl ?_
  refine AOps.cons (op_build (ps := [(0, .tmp 9), (1, .tmp 14)]) (x := (⟨(a1.Hi ^^^ b2.Hi), (a1.Lo ^^^ b2.Lo)⟩ : Wide)) rfl rfl rfl (by kernel_rfl) zr28 ⟨_, _, lWide_0, _, by kernel_rfl, (vt rfl), _, _, lWide_1, _, by kernel_rfl, (vt rfl), rfl⟩) rfl ?_
  refine AOps.cons (op_store rfl rfl ty28 (vt rfl) (i := 5) rfl (vt rfl)) rfl ?_
  refine AOps.nil ?_
  refine AW.ret ?_
  obtain rfl := Option.some.inj h
  exact ret1 Try.results93 rfl (out_cell rfl (i := 5) rfl ty28)
def F_differ_bits (a1 : Tern) (b2 : Tern) : Option Wide :=
  (F_wide_And a1.Mask b2.Mask).bind fun x6 => (F_wide_Xor a1.Value b2.Value).bind fun x7 => (F_wide_And x6 x7).bind fun x8 => some x8
theorem c_differ_bits (a1 : Tern) (b2 : Tern) (r : Wide) (h : F_differ_bits a1 b2 = some r) : PCon Try.prog 124 [rd kTern a1, rd kTern b2] (rd kWide r) := by
  refine PCon.of (Con.intro0 Try.func124 rfl Try.ntmps124 rfl fun w H => ?_)
  unfold F_differ_bits at h
  refine AW.seq ?_
  refine AW.region ?_
  refine AOps.consT rfl (op_box 3 rfl rfl (vt rfl)) ?_
  rintro _ ⟨g3, rfl⟩
  refine AOps.consT rfl (op_box 4 rfl rfl (vt rfl)) ?_
  rintro _ ⟨g4, rfl⟩
  refine AOps.consT rfl (op_alloc 5 rfl rfl zr28) ?_
  rintro _ ⟨g5, rfl⟩
  refine AOps.nil ?_
  refine AW.seq ?_
  obtain ⟨x6, hx6, h⟩ := bsome h
  obtain ⟨x7, hx7, h⟩ := bsome h
  obtain ⟨x8, hx8, h⟩ := bsome h
  refine AW.regionAny [⟨[2], [5], [], []⟩, ⟨[5], [6], [3], []⟩, ⟨[3], [7], [], []⟩, ⟨[7], [8], [4], []⟩, ⟨[6, 8], [9], [], []⟩, ⟨[2], [10], [], []⟩, ⟨[10], [11], [3], []⟩, ⟨[3], [12], [], []⟩, ⟨[12], [13], [4], []⟩, ⟨[11, 13], [14], [], []⟩, ⟨[9, 14], [15], [], []⟩, ⟨[4, 15], [], [5], [5]⟩] mixed (by kernel_rfl) ?_
  refine SeqA.cons (loc [2] [] rfl rfl fun S hs hr => op_field lTern_1 rfl rfl fl49_1 (vt ((hs 2 rfl).trans rfl))) ⟨rfl, rfl, rfl, rfl⟩ ?_
  refine SeqA.cons (loc [5] [3] rfl rfl fun S hs hr => op_load rfl rfl ty28 (vt ((hs 5 rfl).trans rfl)) (i := 3) ((hr 3 rfl).trans rfl)) ⟨rfl, rfl, rfl, rfl⟩ ?_
  refine SeqA.cons (loc [3] [] rfl rfl fun S hs hr => op_field lTern_1 rfl rfl fl49_1 (vt ((hs 3 rfl).trans rfl))) ⟨rfl, rfl, rfl, rfl⟩ ?_
  refine SeqA.cons (loc [7] [4] rfl rfl fun S hs hr => op_load rfl rfl ty28 (vt ((hs 7 rfl).trans rfl)) (i := 4) ((hr 4 rfl).trans rfl)) ⟨rfl, rfl, rfl, rfl⟩ ?_
  refine SeqA.cons (loc [6, 8] [] rfl rfl fun S hs hr => op_call (xs := [.tmp 6, .tmp 8]) (c_wide_And _ _ _ hx6) (Ent.mk Try.func84 rfl rfl) rfl rfl ⟨vt ((hs 6 rfl).trans rfl), vt ((hs 8 rfl).trans rfl), trivial⟩) ⟨rfl, rfl, rfl, rfl⟩ ?_
  refine SeqA.cons (loc [2] [] rfl rfl fun S hs hr => op_field lTern_0 rfl rfl fl49_0 (vt ((hs 2 rfl).trans rfl))) ⟨rfl, rfl, rfl, rfl⟩ ?_
  refine SeqA.cons (loc [10] [3] rfl rfl fun S hs hr => op_load rfl rfl ty28 (vt ((hs 10 rfl).trans rfl)) (i := 3) ((hr 3 rfl).trans rfl)) ⟨rfl, rfl, rfl, rfl⟩ ?_
  refine SeqA.cons (loc [3] [] rfl rfl fun S hs hr => op_field lTern_0 rfl rfl fl49_0 (vt ((hs 3 rfl).trans rfl))) ⟨rfl, rfl, rfl, rfl⟩ ?_
  refine SeqA.cons (loc [12] [4] rfl rfl fun S hs hr => op_load rfl rfl ty28 (vt ((hs 12 rfl).trans rfl)) (i := 4) ((hr 4 rfl).trans rfl)) ⟨rfl, rfl, rfl, rfl⟩ ?_
  refine SeqA.cons (loc [11, 13] [] rfl rfl fun S hs hr => op_call (xs := [.tmp 11, .tmp 13]) (c_wide_Xor _ _ _ hx7) (Ent.mk Try.func93 rfl rfl) rfl rfl ⟨vt ((hs 11 rfl).trans rfl), vt ((hs 13 rfl).trans rfl), trivial⟩) ⟨rfl, rfl, rfl, rfl⟩ ?_
  refine SeqA.cons (loc [9, 14] [] rfl rfl fun S hs hr => op_call (xs := [.tmp 9, .tmp 14]) (c_wide_And _ _ _ hx8) (Ent.mk Try.func84 rfl rfl) rfl rfl ⟨vt ((hs 9 rfl).trans rfl), vt ((hs 14 rfl).trans rfl), trivial⟩) ⟨rfl, rfl, rfl, rfl⟩ ?_
  refine SeqA.cons (locr [4, 15] [5] rfl fun S hs hr => op_store rfl rfl ty28 (vt ((hs 4 rfl).trans rfl)) (i := 5) ((hr 5 rfl).trans rfl) (vt ((hs 15 rfl).trans rfl))) ⟨rfl, rfl, rfl, rfl⟩ ?_
  refine AW.ret ?_
  obtain rfl := Option.some.inj h
  exact ret1 Try.results124 rfl (out_cell rfl (i := 5) rfl ty28)
def F_wide_Zero (a1 : Wide) : Option Bool :=
  some (decide ((a1.Hi ||| a1.Lo) = (0 : BitVec 64)))
theorem c_wide_Zero (a1 : Wide) (r : Bool) (h : F_wide_Zero a1 = some r) : PCon Try.prog 94 [rd kWide a1] (rd kbool r) := by
  refine PCon.of (Con.intro0 Try.func94 rfl Try.ntmps94 rfl fun w H => ?_)
  unfold F_wide_Zero at h
  refine AW.seq ?_
  refine AW.region ?_
  refine AOps.consT rfl (op_box 2 rfl rfl (vt rfl)) ?_
  rintro _ ⟨g2, rfl⟩
  refine AOps.cons (op_assign (A := rd kbool false) rfl rfl vb) rfl ?_
  refine AOps.nil ?_
  refine AW.seq ?_
  refine AW.region ?_
  refine AOps.cons (op_field lWide_0 rfl rfl fl28_0 (vt rfl)) rfl ?_
  refine AOps.cons (op_load rfl rfl ty26 (vt rfl) (i := 2) rfl) rfl ?_
  refine AOps.cons (op_field lWide_1 rfl rfl fl28_1 (vt rfl)) rfl ?_
  refine AOps.cons (op_load rfl rfl ty26 (vt rfl) (i := 2) rfl) rfl ?_
  refine AOps.cons (op_or rfl rfl (vt rfl) (vt rfl)) rfl ?_
  refine AOps.cons (op_eqlu rfl rfl (vt rfl) (vku (0 : BitVec 64) rfl)) rfl ?_
  refine AOps.cons (op_assign (A := rd kbool (decide ((a1.Hi ||| a1.Lo) = (0 : BitVec 64)))) rfl rfl (vt rfl)) rfl ?_
  refine AOps.nil ?_
  refine AW.ret ?_
  obtain rfl := Option.some.inj h
  exact ret1 Try.results94 rfl (out_tmp rfl)
def F_differ_apart_l1 (a1 : Atom) (b2 : Atom) : Nat → Nat → Option Bool
  | 0, i5 => some false
  | m6 + 1, i5 => (chk 24 (i5 : Int)).bind fun j7 => (chk 24 (i5 : Int)).bind fun j8 => (F_differ_bits (Vector.get a1.Rewrite j7) (Vector.get b2.Rewrite j8)).bind fun x9 => (F_wide_Zero x9).bind fun x10 => (bif (!x10) then some true else (F_differ_apart_l1 a1 b2 m6) (i5 + 1))
def F_differ_apart (a1 : Atom) (b2 : Atom) : Option Bool :=
  (bif (((!(a1.Group == b2.Group)) || (decide (a1.Port ≠ b2.Port))) || (decide (a1.Max ≠ b2.Max))) then some true else F_differ_apart_l1 a1 b2 (24 : Int).toNat 0)
theorem c_differ_apart (a1 : Atom) (b2 : Atom) (r : Bool) (h : F_differ_apart a1 b2 = some r) : PCon Try.prog 88 [rd kAtom a1, rd kAtom b2] (rd kbool r) := by
  refine PCon.of (Con.intro0 Try.func88 rfl Try.ntmps88 rfl fun w H => ?_)
  unfold F_differ_apart at h
  refine AW.seq ?_
  refine AW.region ?_
  refine AOps.consT rfl (op_box 3 rfl rfl (vt rfl)) ?_
  rintro _ ⟨g3, rfl⟩
  refine AOps.consT rfl (op_box 4 rfl rfl (vt rfl)) ?_
  rintro _ ⟨g4, rfl⟩
  refine AOps.cons (op_assign (A := rd kbool false) rfl rfl vb) rfl ?_
  refine AOps.nil ?_
  refine AW.seq ?_
  refine AW.seq ?_
  refine AW.region ?_
  refine AOps.cons (op_field lAtom_1 rfl rfl fl53_1 (vt rfl)) rfl ?_
  refine AOps.cons (op_load rfl rfl ty4 (vt rfl) (i := 3) rfl) rfl ?_
  refine AOps.cons (op_field lAtom_1 rfl rfl fl53_1 (vt rfl)) rfl ?_
  refine AOps.cons (op_load rfl rfl ty4 (vt rfl) (i := 4) rfl) rfl ?_
  refine AOps.cons (op_neqb rfl rfl un4 (vt rfl) (vt rfl)) rfl ?_
  refine AOps.cons (op_move (A := rd kbool (!(a1.Group == b2.Group))) rfl rfl (vt rfl)) rfl ?_
  refine AOps.consG (OpG.guard rfl rfl rfl rfl rfl fun hq => op_field lAtom_2 rfl rfl fl53_2 (vt rfl)) ?_
  refine AOps.consG (OpG.guard rfl rfl rfl rfl rfl fun hq => op_load rfl rfl ty3 (vgt rfl hq) (i := 3) rfl) ?_
  refine AOps.consG (OpG.guard rfl rfl rfl rfl rfl fun hq => op_field lAtom_2 rfl rfl fl53_2 (vt rfl)) ?_
  refine AOps.consG (OpG.guard rfl rfl rfl rfl rfl fun hq => op_load rfl rfl ty3 (vgt rfl hq) (i := 4) rfl) ?_
  refine AOps.consG (OpG.guard rfl rfl rfl rfl rfl fun hq => op_neq rfl rfl (vgt rfl hq) (vgt rfl hq)) ?_
  refine AOps.cons (op_any rfl rfl (vt rfl) (vt rfl)) rfl ?_
  refine AOps.cons (op_move (A := rd kbool ((!(a1.Group == b2.Group)) || (decide (a1.Port ≠ b2.Port)))) rfl rfl (vt rfl)) rfl ?_
  refine AOps.consG (OpG.guard rfl rfl rfl rfl rfl fun hq => op_field lAtom_3 rfl rfl fl53_3 (vt rfl)) ?_
  refine AOps.consG (OpG.guard rfl rfl rfl rfl rfl fun hq => op_load rfl rfl ty3 (vgt rfl hq) (i := 3) rfl) ?_
  refine AOps.consG (OpG.guard rfl rfl rfl rfl rfl fun hq => op_field lAtom_3 rfl rfl fl53_3 (vt rfl)) ?_
  refine AOps.consG (OpG.guard rfl rfl rfl rfl rfl fun hq => op_load rfl rfl ty3 (vgt rfl hq) (i := 4) rfl) ?_
  refine AOps.consG (OpG.guard rfl rfl rfl rfl rfl fun hq => op_neq rfl rfl (vgt rfl hq) (vgt rfl hq)) ?_
  refine AOps.cons (op_any rfl rfl (vt rfl) (vt rfl)) rfl ?_
  refine AOps.nil ?_
  refine AW.cond (vt rfl) (fun hc => ?_) (fun hc => ?_)
  · have h := cond_t hc h
    refine AW.seq ?_
    refine AW.region ?_
    refine AOps.cons (op_assign (A := rd kbool true) rfl rfl vb) rfl ?_
    refine AOps.nil ?_
    refine AW.ret ?_
    obtain rfl := Option.some.inj h
    exact ret1 Try.results88 rfl (out_tmp rfl)
  · have h := cond_f hc h
    refine AW.skip ?_
    refine AW.seq ?_
    refine AW.seq ?_
    refine AW.region ?_
    refine AOps.cons (op_move (A := rd (kint .i64) 0) rfl rfl (vk rfl)) rfl ?_
    refine AOps.nil ?_
    refine AW.block ?_
    refine AW.loopG (d := []) (ν := Nat × Nat) (fun n => Cnt 24 n.2 n.1 ∧ F_differ_apart_l1 a1 b2 n.1 n.2 = some r) (fun n => n.1) (fun n => [(2, ptrL g3 (Lens.id kAtom)), (3, ptrL g4 (Lens.id kAtom)), (25, rd (kint .i64) (n.2 : Int))]) (fun n => [(3, Blk g3 53 kAtom a1), (4, Blk g4 53 kAtom b2)]) ((24 : Int).toNat, 0) ⟨Cnt.start _, h⟩ ⟨rfl, ⟨rfl, rfl, rfl, trivial⟩, ⟨rfl, rfl, trivial⟩⟩ ?_
    rintro ⟨m6, i5⟩ ⟨hsf1, h⟩
    change Cnt 24 i5 m6 at hsf1
    change F_differ_apart_l1 a1 b2 m6 i5 = some r at h
    change AW _ _ _ ⟨slots [(2, ptrL g3 (Lens.id kAtom)), (3, ptrL g4 (Lens.id kAtom)), (25, rd (kint .i64) (i5 : Int))], ress [(3, Blk g3 53 kAtom a1), (4, Blk g4 53 kAtom b2)], _⟩
    cases m6 with
    | zero =>
      unfold F_differ_apart_l1 at h
      refine AW.seq ?_
      refine AW.region ?_
      refine AOps.cons (op_lss rfl rfl (vt rfl) (vk rfl)) rfl ?_
      refine AOps.nil ?_
      refine AW.seq ?_
      refine AW.cond (vt rfl) (fun hc => absurd (of_decide_eq_true hc) hsf1.zero) (fun hc => ?_)
      refine AW.exit ?_
      refine AW.seq ?_
      refine AW.region ?_
      refine AOps.cons (op_assign (A := rd kbool false) rfl rfl vb) rfl ?_
      refine AOps.nil ?_
      refine AW.ret ?_
      obtain rfl := Option.some.inj h
      exact ret1 Try.results88 rfl (out_tmp rfl)
    | succ m6 =>
      unfold F_differ_apart_l1 at h
      generalize hgo1 : F_differ_apart_l1 a1 b2 m6 = go1 at h
      refine AW.seq ?_
      refine AW.region ?_
      refine AOps.cons (op_lss rfl rfl (vt rfl) (vk rfl)) rfl ?_
      refine AOps.nil ?_
      refine AW.seq ?_
      refine AW.cond (vt rfl) (fun hc => ?_) (fun hc => absurd hsf1.succ (of_decide_eq_false hc))
      have hlti5 := of_decide_eq_true hc
      refine AW.skip ?_
      refine AW.seq ?_
      refine AW.block ?_
      refine AW.seq ?_
      refine AW.region ?_
      refine AOps.cons (op_move (A := rd (kint .i64) (i5 : Int)) rfl rfl (vt rfl)) rfl ?_
      refine AOps.cons (op_assign (A := rd (kint .i64) (i5 : Int)) rfl rfl (vt rfl)) rfl ?_
      refine AOps.nil ?_
      refine AW.seq ?_
      obtain ⟨j7, hj7, h⟩ := bsome h
      obtain ⟨j8, hj8, h⟩ := bsome h
      obtain ⟨x9, hx9, h⟩ := bsome h
      obtain ⟨x10, hx10, h⟩ := bsome h
      refine AW.regionAny [⟨[5], [28], [], []⟩, ⟨[2], [29], [], []⟩, ⟨[29, 28], [30], [], []⟩, ⟨[30], [31], [3], []⟩, ⟨[5], [32], [], []⟩, ⟨[3], [33], [], []⟩, ⟨[33, 32], [34], [], []⟩, ⟨[34], [35], [4], []⟩, ⟨[31, 35], [36], [], []⟩, ⟨[36], [37], [], []⟩, ⟨[37], [38], [], []⟩] mixed (by kernel_rfl) ?_
      refine SeqA.cons (loc [5] [] rfl rfl fun S hs hr => op_move (A := rd (kint .i64) (i5 : Int)) rfl rfl (vt ((hs 5 rfl).trans rfl))) ⟨rfl, rfl, rfl, rfl⟩ ?_
      refine SeqA.cons (loc [2] [] rfl rfl fun S hs hr => op_field lAtom_0 rfl rfl fl53_0 (vt ((hs 2 rfl).trans rfl))) ⟨rfl, rfl, rfl, rfl⟩ ?_
      refine SeqA.cons (loc [29, 28] [] rfl rfl fun S hs hr => op_index' rfl rfl ar51 (vt ((hs 29 rfl).trans rfl)) (vt ((hs 28 rfl).trans rfl)) hj7) ⟨rfl, rfl, rfl, rfl⟩ ?_
      refine SeqA.cons (loc [30] [3] rfl rfl fun S hs hr => op_load rfl rfl ty49 (vt ((hs 30 rfl).trans rfl)) (i := 3) ((hr 3 rfl).trans rfl)) ⟨rfl, rfl, rfl, rfl⟩ ?_
      refine SeqA.cons (loc [5] [] rfl rfl fun S hs hr => op_move (A := rd (kint .i64) (i5 : Int)) rfl rfl (vt ((hs 5 rfl).trans rfl))) ⟨rfl, rfl, rfl, rfl⟩ ?_
      refine SeqA.cons (loc [3] [] rfl rfl fun S hs hr => op_field lAtom_0 rfl rfl fl53_0 (vt ((hs 3 rfl).trans rfl))) ⟨rfl, rfl, rfl, rfl⟩ ?_
      refine SeqA.cons (loc [33, 32] [] rfl rfl fun S hs hr => op_index' rfl rfl ar51 (vt ((hs 33 rfl).trans rfl)) (vt ((hs 32 rfl).trans rfl)) hj8) ⟨rfl, rfl, rfl, rfl⟩ ?_
      refine SeqA.cons (loc [34] [4] rfl rfl fun S hs hr => op_load rfl rfl ty49 (vt ((hs 34 rfl).trans rfl)) (i := 4) ((hr 4 rfl).trans rfl)) ⟨rfl, rfl, rfl, rfl⟩ ?_
      refine SeqA.cons (loc [31, 35] [] rfl rfl fun S hs hr => op_call (xs := [.tmp 31, .tmp 35]) (c_differ_bits _ _ _ hx9) (Ent.mk Try.func124 rfl rfl) rfl rfl ⟨vt ((hs 31 rfl).trans rfl), vt ((hs 35 rfl).trans rfl), trivial⟩) ⟨rfl, rfl, rfl, rfl⟩ ?_
      refine SeqA.cons (loc [36] [] rfl rfl fun S hs hr => op_call (xs := [.tmp 36]) (c_wide_Zero _ _ hx10) (Ent.mk Try.func94 rfl rfl) rfl rfl ⟨vt ((hs 36 rfl).trans rfl), trivial⟩) ⟨rfl, rfl, rfl, rfl⟩ ?_
      refine SeqA.cons (loc [37] [] rfl rfl fun S hs hr => op_not rfl rfl (vt ((hs 37 rfl).trans rfl))) ⟨rfl, rfl, rfl, rfl⟩ ?_
      refine AW.cond (vt rfl) (fun hc => ?_) (fun hc => ?_)
      · have h := cond_t hc h
        refine AW.seq ?_
        refine AW.region ?_
        refine AOps.cons (op_assign (A := rd kbool true) rfl rfl vb) rfl ?_
        refine AOps.nil ?_
        refine AW.ret ?_
        obtain rfl := Option.some.inj h
        exact ret1 Try.results88 rfl (out_tmp rfl)
      · have h := cond_f hc h
        refine AW.skip ?_
        refine AW.region ?_
        refine AOps.cons (op_incrc rfl rfl (vt rfl) (vk rfl) rfl hlti5) rfl ?_
        refine AOps.cons (op_move (A := rd (kint .i64) ((i5 + 1 : Nat) : Int)) rfl rfl (vt rfl)) rfl ?_
        refine AOps.nil ?_
        subst hgo1
        exact ⟨(m6, i5 + 1), Nat.lt_succ_self _, ⟨hsf1.next, h⟩, ⟨rfl, ⟨rfl, rfl, rfl, trivial⟩, ⟨rfl, rfl, trivial⟩⟩⟩
def F_differ_Unlike_1 (x1 : Atom) (y2 : Atom) : Option Bool :=
  (F_differ_apart x1 y2).bind fun x5 => some (!x5)
theorem c_differ_Unlike_1 (x1 : Atom) (y2 : Atom) (r : Bool) (h : F_differ_Unlike_1 x1 y2 = some r) : PCon Try.prog 87 [rd kAtom x1, rd kAtom y2] (rd kbool r) := by
  refine PCon.of (Con.intro0 Try.func87 rfl Try.ntmps87 rfl fun w H => ?_)
  unfold F_differ_Unlike_1 at h
  refine AW.seq ?_
  refine AW.region ?_
  refine AOps.consT rfl (op_box 3 rfl rfl (vt rfl)) ?_
  rintro _ ⟨g3, rfl⟩
  refine AOps.consT rfl (op_box 4 rfl rfl (vt rfl)) ?_
  rintro _ ⟨g4, rfl⟩
  refine AOps.cons (op_assign (A := rd kbool false) rfl rfl vb) rfl ?_
  refine AOps.nil ?_
  refine AW.seq ?_
  obtain ⟨x5, hx5, h⟩ := bsome h
  refine AW.region ?_
  refine AOps.cons (op_load rfl rfl ty53 (vt rfl) (i := 3) rfl) rfl ?_
  refine AOps.cons (op_load rfl rfl ty53 (vt rfl) (i := 4) rfl) rfl ?_
  refine AOps.cons (op_call (xs := [.tmp 5, .tmp 6]) (c_differ_apart _ _ _ hx5) (Ent.mk Try.func88 rfl rfl) rfl rfl ⟨vt rfl, vt rfl, trivial⟩) rfl ?_
  refine AOps.cons (op_not rfl rfl (vt rfl)) rfl ?_
  refine AOps.cons (op_assign (A := rd kbool (!x5)) rfl rfl (vt rfl)) rfl ?_
  refine AOps.nil ?_
  refine AW.ret ?_
  obtain rfl := Option.some.inj h
  exact ret1 Try.results87 rfl (out_tmp rfl)
def F_differ_Unlike (a1 : (List Atom)) (b2 : (List Atom)) : Option Bool :=
  (F_slices_EqualFunc_Atom_Atom a1 b2 F_differ_Unlike_1).bind fun x3 => some (!x3)
theorem c_differ_Unlike (a1 : (List Atom)) (b2 : (List Atom)) (r : Bool) (h : F_differ_Unlike a1 b2 = some r) : PCon Try.prog 55 [rd (ksl kAtom) a1, rd (ksl kAtom) b2] (rd kbool r) := by
  refine PCon.of (Con.intro0 Try.func55 rfl Try.ntmps55 rfl fun w H => ?_)
  unfold F_differ_Unlike at h
  refine AW.seq ?_
  refine AW.region ?_
  refine AOps.cons (op_assign (A := rd kbool false) rfl rfl vb) rfl ?_
  refine AOps.nil ?_
  refine AW.seq ?_
  obtain ⟨x3, hx3, h⟩ := bsome h
  refine AW.region ?_
  refine AOps.cons (op_move (A := rd (ksl kAtom) a1) rfl rfl (vt rfl)) rfl ?_
  refine AOps.cons (op_move (A := rd (ksl kAtom) b2) rfl rfl (vt rfl)) rfl ?_
  refine AOps.cons (op_call (xs := [.tmp 5, .tmp 6, .func 87]) (c_slices_EqualFunc_Atom_Atom _ _ _ _ hx3) (Ent.mk Try.func86 rfl rfl) rfl rfl ⟨vt rfl, vt rfl, vf2 (Ent.mk Try.func87 rfl rfl) c_differ_Unlike_1, trivial⟩) rfl ?_
  refine AOps.cons (op_not rfl rfl (vt rfl)) rfl ?_
  refine AOps.cons (op_assign (A := rd kbool (!x3)) rfl rfl (vt rfl)) rfl ?_
  refine AOps.nil ?_
  refine AW.ret ?_
  obtain rfl := Option.some.inj h
  exact ret1 Try.results55 rfl (out_tmp rfl)
def F_math_bits_OnesCount64 (x1 : (BitVec 64)) : Option Int :=
  (oushr x1 ((1 : BitVec 64).toNat : Int)).bind fun q2 => (oushr ((q2 &&& (6148914691236517205 : BitVec 64)) + (x1 &&& (6148914691236517205 : BitVec 64))) ((2 : BitVec 64).toNat : Int)).bind fun q3 => (oushr ((q3 &&& (3689348814741910323 : BitVec 64)) + (((q2 &&& (6148914691236517205 : BitVec 64)) + (x1 &&& (6148914691236517205 : BitVec 64))) &&& (3689348814741910323 : BitVec 64))) ((4 : BitVec 64).toNat : Int)).bind fun q4 => (oushr ((q4 + ((q3 &&& (3689348814741910323 : BitVec 64)) + (((q2 &&& (6148914691236517205 : BitVec 64)) + (x1 &&& (6148914691236517205 : BitVec 64))) &&& (3689348814741910323 : BitVec 64)))) &&& (1085102592571150095 : BitVec 64)) ((8 : BitVec 64).toNat : Int)).bind fun q5 => (oushr (((q4 + ((q3 &&& (3689348814741910323 : BitVec 64)) + (((q2 &&& (6148914691236517205 : BitVec 64)) + (x1 &&& (6148914691236517205 : BitVec 64))) &&& (3689348814741910323 : BitVec 64)))) &&& (1085102592571150095 : BitVec 64)) + q5) ((16 : BitVec 64).toNat : Int)).bind fun q6 => (oushr ((((q4 + ((q3 &&& (3689348814741910323 : BitVec 64)) + (((q2 &&& (6148914691236517205 : BitVec 64)) + (x1 &&& (6148914691236517205 : BitVec 64))) &&& (3689348814741910323 : BitVec 64)))) &&& (1085102592571150095 : BitVec 64)) + q5) + q6) ((32 : BitVec 64).toNat : Int)).bind fun q7 => some (ibits .and .i64 (IntKind.i64.wrap ((((((q4 + ((q3 &&& (3689348814741910323 : BitVec 64)) + (((q2 &&& (6148914691236517205 : BitVec 64)) + (x1 &&& (6148914691236517205 : BitVec 64))) &&& (3689348814741910323 : BitVec 64)))) &&& (1085102592571150095 : BitVec 64)) + q5) + q6) + q7).toNat : Int)) 127)
theorem c_math_bits_OnesCount64 (x1 : (BitVec 64)) (r : Int) (h : F_math_bits_OnesCount64 x1 = some r) : PCon Try.prog 137 [rd ku64 x1] (rd (kint .i64) r) := by
  refine PCon.of (Con.intro0 Try.func137 rfl Try.ntmps137 rfl fun w H => ?_)
  unfold F_math_bits_OnesCount64 at h
  refine AW.seq ?_
  refine AW.region ?_
  refine AOps.cons (op_assign (A := rd (kint .i64) 0) rfl rfl (vk rfl)) rfl ?_
  refine AOps.nil ?_
  refine AW.seq ?_
  obtain ⟨q2, hq2, h⟩ := bsome h
  refine AW.region ?_
  refine AOps.cons (op_move (A := rd ku64 x1) rfl rfl (vt rfl)) rfl ?_
  refine AOps.cons (op_ushr rfl rfl (vt rfl) (vu64 (vku (1 : BitVec 64) rfl)) hq2) rfl ?_
  refine AOps.cons (op_and rfl rfl (vt rfl) (vku (6148914691236517205 : BitVec 64) rfl)) rfl ?_
  refine AOps.cons (op_move (A := rd ku64 x1) rfl rfl (vt rfl)) rfl ?_
  refine AOps.cons (op_and rfl rfl (vt rfl) (vku (6148914691236517205 : BitVec 64) rfl)) rfl ?_
  refine AOps.cons (op_uadd rfl rfl (vt rfl) (vt rfl)) rfl ?_
  refine AOps.cons (op_assign (A := rd ku64 ((q2 &&& (6148914691236517205 : BitVec 64)) + (x1 &&& (6148914691236517205 : BitVec 64)))) rfl rfl (vt rfl)) rfl ?_
  refine AOps.nil ?_
  refine AW.seq ?_
  obtain ⟨q3, hq3, h⟩ := bsome h
  refine AW.region ?_
  refine AOps.cons (op_move (A := rd ku64 ((q2 &&& (6148914691236517205 : BitVec 64)) + (x1 &&& (6148914691236517205 : BitVec 64)))) rfl rfl (vt rfl)) rfl ?_
  refine AOps.cons (op_ushr rfl rfl (vt rfl) (vu64 (vku (2 : BitVec 64) rfl)) hq3) rfl ?_
  refine AOps.cons (op_and rfl rfl (vt rfl) (vku (3689348814741910323 : BitVec 64) rfl)) rfl ?_
  refine AOps.cons (op_move (A := rd ku64 ((q2 &&& (6148914691236517205 : BitVec 64)) + (x1 &&& (6148914691236517205 : BitVec 64)))) rfl rfl (vt rfl)) rfl ?_
  refine AOps.cons (op_and rfl rfl (vt rfl) (vku (3689348814741910323 : BitVec 64) rfl)) rfl ?_
  refine AOps.cons (op_uadd rfl rfl (vt rfl) (vt rfl)) rfl ?_
  refine AOps.cons (op_assign (A := rd ku64 ((q3 &&& (3689348814741910323 : BitVec 64)) + (((q2 &&& (6148914691236517205 : BitVec 64)) + (x1 &&& (6148914691236517205 : BitVec 64))) &&& (3689348814741910323 : BitVec 64)))) rfl rfl (vt rfl)) rfl ?_
  refine AOps.nil ?_
  refine AW.seq ?_
  obtain ⟨q4, hq4, h⟩ := bsome h
  refine AW.region ?_
  refine AOps.cons (op_move (A := rd ku64 ((q3 &&& (3689348814741910323 : BitVec 64)) + (((q2 &&& (6148914691236517205 : BitVec 64)) + (x1 &&& (6148914691236517205 : BitVec 64))) &&& (3689348814741910323 : BitVec 64)))) rfl rfl (vt rfl)) rfl ?_
  refine AOps.cons (op_ushr rfl rfl (vt rfl) (vu64 (vku (4 : BitVec 64) rfl)) hq4) rfl ?_
  refine AOps.cons (op_move (A := rd ku64 ((q3 &&& (3689348814741910323 : BitVec 64)) + (((q2 &&& (6148914691236517205 : BitVec 64)) + (x1 &&& (6148914691236517205 : BitVec 64))) &&& (3689348814741910323 : BitVec 64)))) rfl rfl (vt rfl)) rfl ?_
  refine AOps.cons (op_uadd rfl rfl (vt rfl) (vt rfl)) rfl ?_
  refine AOps.cons (op_and rfl rfl (vt rfl) (vku (1085102592571150095 : BitVec 64) rfl)) rfl ?_
  refine AOps.cons (op_assign (A := rd ku64 ((q4 + ((q3 &&& (3689348814741910323 : BitVec 64)) + (((q2 &&& (6148914691236517205 : BitVec 64)) + (x1 &&& (6148914691236517205 : BitVec 64))) &&& (3689348814741910323 : BitVec 64)))) &&& (1085102592571150095 : BitVec 64))) rfl rfl (vt rfl)) rfl ?_
  refine AOps.nil ?_
  refine AW.seq ?_
  obtain ⟨q5, hq5, h⟩ := bsome h
  refine AW.region ?_
  refine AOps.cons (op_move (A := rd ku64 ((q4 + ((q3 &&& (3689348814741910323 : BitVec 64)) + (((q2 &&& (6148914691236517205 : BitVec 64)) + (x1 &&& (6148914691236517205 : BitVec 64))) &&& (3689348814741910323 : BitVec 64)))) &&& (1085102592571150095 : BitVec 64))) rfl rfl (vt rfl)) rfl ?_
  refine AOps.cons (op_move (A := rd ku64 ((q4 + ((q3 &&& (3689348814741910323 : BitVec 64)) + (((q2 &&& (6148914691236517205 : BitVec 64)) + (x1 &&& (6148914691236517205 : BitVec 64))) &&& (3689348814741910323 : BitVec 64)))) &&& (1085102592571150095 : BitVec 64))) rfl rfl (vt rfl)) rfl ?_
  refine AOps.cons (op_ushr rfl rfl (vt rfl) (vu64 (vku (8 : BitVec 64) rfl)) hq5) rfl ?_
  refine AOps.cons (op_uadd rfl rfl (vt rfl) (vt rfl)) rfl ?_
  refine AOps.cons (op_assign (A := rd ku64 (((q4 + ((q3 &&& (3689348814741910323 : BitVec 64)) + (((q2 &&& (6148914691236517205 : BitVec 64)) + (x1 &&& (6148914691236517205 : BitVec 64))) &&& (3689348814741910323 : BitVec 64)))) &&& (1085102592571150095 : BitVec 64)) + q5)) rfl rfl (vt rfl)) rfl ?_
  refine AOps.nil ?_
  refine AW.seq ?_
  obtain ⟨q6, hq6, h⟩ := bsome h
  refine AW.region ?_
  refine AOps.cons (op_move (A := rd ku64 (((q4 + ((q3 &&& (3689348814741910323 : BitVec 64)) + (((q2 &&& (6148914691236517205 : BitVec 64)) + (x1 &&& (6148914691236517205 : BitVec 64))) &&& (3689348814741910323 : BitVec 64)))) &&& (1085102592571150095 : BitVec 64)) + q5)) rfl rfl (vt rfl)) rfl ?_
  refine AOps.cons (op_move (A := rd ku64 (((q4 + ((q3 &&& (3689348814741910323 : BitVec 64)) + (((q2 &&& (6148914691236517205 : BitVec 64)) + (x1 &&& (6148914691236517205 : BitVec 64))) &&& (3689348814741910323 : BitVec 64)))) &&& (1085102592571150095 : BitVec 64)) + q5)) rfl rfl (vt rfl)) rfl ?_
  refine AOps.cons (op_ushr rfl rfl (vt rfl) (vu64 (vku (16 : BitVec 64) rfl)) hq6) rfl ?_
  refine AOps.cons (op_uadd rfl rfl (vt rfl) (vt rfl)) rfl ?_
  refine AOps.cons (op_assign (A := rd ku64 ((((q4 + ((q3 &&& (3689348814741910323 : BitVec 64)) + (((q2 &&& (6148914691236517205 : BitVec 64)) + (x1 &&& (6148914691236517205 : BitVec 64))) &&& (3689348814741910323 : BitVec 64)))) &&& (1085102592571150095 : BitVec 64)) + q5) + q6)) rfl rfl (vt rfl)) rfl ?_
  refine AOps.nil ?_
  refine AW.seq ?_
  obtain ⟨q7, hq7, h⟩ := bsome h
  refine AW.region ?_
  refine AOps.cons (op_move (A := rd ku64 ((((q4 + ((q3 &&& (3689348814741910323 : BitVec 64)) + (((q2 &&& (6148914691236517205 : BitVec 64)) + (x1 &&& (6148914691236517205 : BitVec 64))) &&& (3689348814741910323 : BitVec 64)))) &&& (1085102592571150095 : BitVec 64)) + q5) + q6)) rfl rfl (vt rfl)) rfl ?_
  refine AOps.cons (op_move (A := rd ku64 ((((q4 + ((q3 &&& (3689348814741910323 : BitVec 64)) + (((q2 &&& (6148914691236517205 : BitVec 64)) + (x1 &&& (6148914691236517205 : BitVec 64))) &&& (3689348814741910323 : BitVec 64)))) &&& (1085102592571150095 : BitVec 64)) + q5) + q6)) rfl rfl (vt rfl)) rfl ?_
  refine AOps.cons (op_ushr rfl rfl (vt rfl) (vu64 (vku (32 : BitVec 64) rfl)) hq7) rfl ?_
  refine AOps.cons (op_uadd rfl rfl (vt rfl) (vt rfl)) rfl ?_
  refine AOps.cons (op_assign (A := rd ku64 (((((q4 + ((q3 &&& (3689348814741910323 : BitVec 64)) + (((q2 &&& (6148914691236517205 : BitVec 64)) + (x1 &&& (6148914691236517205 : BitVec 64))) &&& (3689348814741910323 : BitVec 64)))) &&& (1085102592571150095 : BitVec 64)) + q5) + q6) + q7)) rfl rfl (vt rfl)) rfl ?_
  refine AOps.nil ?_
  refine AW.seq ?_
  refine AW.region ?_
  refine AOps.cons (op_move (A := rd ku64 (((((q4 + ((q3 &&& (3689348814741910323 : BitVec 64)) + (((q2 &&& (6148914691236517205 : BitVec 64)) + (x1 &&& (6148914691236517205 : BitVec 64))) &&& (3689348814741910323 : BitVec 64)))) &&& (1085102592571150095 : BitVec 64)) + q5) + q6) + q7)) rfl rfl (vt rfl)) rfl ?_
  refine AOps.cons (op_uconv rfl rfl us26 un3 (vt rfl)) rfl ?_
  refine AOps.cons (op_iand rfl rfl (vt rfl) (vk rfl)) rfl ?_
  refine AOps.cons (op_assign (A := rd (kint .i64) (ibits .and .i64 (IntKind.i64.wrap ((((((q4 + ((q3 &&& (3689348814741910323 : BitVec 64)) + (((q2 &&& (6148914691236517205 : BitVec 64)) + (x1 &&& (6148914691236517205 : BitVec 64))) &&& (3689348814741910323 : BitVec 64)))) &&& (1085102592571150095 : BitVec 64)) + q5) + q6) + q7).toNat : Int)) 127)) rfl rfl (vt rfl)) rfl ?_
  refine AOps.nil ?_
  refine AW.ret ?_
  obtain rfl := Option.some.inj h
  exact ret1 Try.results137 rfl (out_tmp rfl)
def F_wide_Many (a1 : Wide) : Option Int :=
  (F_math_bits_OnesCount64 a1.Hi).bind fun x3 => (F_math_bits_OnesCount64 a1.Lo).bind fun x4 => some (IntKind.i64.wrap (x3 + x4))
theorem c_wide_Many (a1 : Wide) (r : Int) (h : F_wide_Many a1 = some r) : PCon Try.prog 127 [rd kWide a1] (rd (kint .i64) r) := by
  refine PCon.of (Con.intro0 Try.func127 rfl Try.ntmps127 rfl fun w H => ?_)
  unfold F_wide_Many at h
  refine AW.seq ?_
  refine AW.region ?_
  refine AOps.consT rfl (op_box 2 rfl rfl (vt rfl)) ?_
  rintro _ ⟨g2, rfl⟩
  refine AOps.cons (op_assign (A := rd (kint .i64) 0) rfl rfl (vk rfl)) rfl ?_
  refine AOps.nil ?_
  refine AW.seq ?_
  obtain ⟨x3, hx3, h⟩ := bsome h
  obtain ⟨x4, hx4, h⟩ := bsome h
  refine AW.regionAny [⟨[1], [3], [], []⟩, ⟨[3], [4], [2], []⟩, ⟨[4], [5], [], []⟩, ⟨[1], [6], [], []⟩, ⟨[6], [7], [2], []⟩, ⟨[7], [8], [], []⟩, ⟨[5, 8], [9], [], []⟩, ⟨[9], [2], [], []⟩] mixed (by kernel_rfl) ?_
  refine SeqA.cons (loc [1] [] rfl rfl fun S hs hr => op_field lWide_0 rfl rfl fl28_0 (vt ((hs 1 rfl).trans rfl))) ⟨rfl, rfl, rfl, rfl⟩ ?_
  refine SeqA.cons (loc [3] [2] rfl rfl fun S hs hr => op_load rfl rfl ty26 (vt ((hs 3 rfl).trans rfl)) (i := 2) ((hr 2 rfl).trans rfl)) ⟨rfl, rfl, rfl, rfl⟩ ?_
  refine SeqA.cons (loc [4] [] rfl rfl fun S hs hr => op_call (xs := [.tmp 4]) (c_math_bits_OnesCount64 _ _ hx3) (Ent.mk Try.func137 rfl rfl) rfl rfl ⟨vt ((hs 4 rfl).trans rfl), trivial⟩) ⟨rfl, rfl, rfl, rfl⟩ ?_
  refine SeqA.cons (loc [1] [] rfl rfl fun S hs hr => op_field lWide_1 rfl rfl fl28_1 (vt ((hs 1 rfl).trans rfl))) ⟨rfl, rfl, rfl, rfl⟩ ?_
  refine SeqA.cons (loc [6] [2] rfl rfl fun S hs hr => op_load rfl rfl ty26 (vt ((hs 6 rfl).trans rfl)) (i := 2) ((hr 2 rfl).trans rfl)) ⟨rfl, rfl, rfl, rfl⟩ ?_
  refine SeqA.cons (loc [7] [] rfl rfl fun S hs hr => op_call (xs := [.tmp 7]) (c_math_bits_OnesCount64 _ _ hx4) (Ent.mk Try.func137 rfl rfl) rfl rfl ⟨vt ((hs 7 rfl).trans rfl), trivial⟩) ⟨rfl, rfl, rfl, rfl⟩ ?_
  refine SeqA.cons (loc [5, 8] [] rfl rfl fun S hs hr => op_add rfl rfl (vt ((hs 5 rfl).trans rfl)) (vt ((hs 8 rfl).trans rfl))) ⟨rfl, rfl, rfl, rfl⟩ ?_
  refine SeqA.cons (loc [9] [] rfl rfl fun S hs hr => op_assign (A := rd (kint .i64) (IntKind.i64.wrap (x3 + x4))) rfl rfl (vt ((hs 9 rfl).trans rfl))) ⟨rfl, rfl, rfl, rfl⟩ ?_
  refine AW.ret ?_
  obtain rfl := Option.some.inj h
  exact ret1 Try.results127 rfl (out_tmp rfl)
end Go.Proofs.Ytknpgojdkobgjaa.W
