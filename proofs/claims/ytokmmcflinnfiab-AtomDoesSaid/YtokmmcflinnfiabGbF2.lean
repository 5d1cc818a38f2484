/- GbF2: a part of the proof. -/
import Derived.Test.YtokmmcflinnfiabGbF1
set_option linter.unusedVariables false
set_option maxRecDepth 4000
set_option linter.unusedSimpArgs false
namespace Go.Proofs.Ytokmmcflinnfiab.W
open Go Go.Wb
-- weirbox/aset.Rewrite
def F41 (a1 : Action) : Option (Vector Tern 24) :=
  (F17).bind fun x4 => (bif (decide (a1.Kind = 25)) then (F57 a1.Oxm).bind fun x6 => (F58 x4 a1.Oxm.Field x6.Value x6.Mask).bind fun x8 => some x8 else (bif (decide (a1.Kind = 17)) then (F59 12).bind fun x9 => (F59 12).bind fun x10 => (F58 x4 5 x9 x10).bind fun x11 => some x11 else (bif (decide (a1.Kind = 18)) then (F60 13).bind fun x12 => (F58 x4 5 (⟨0, 0⟩ : Wide) x12).bind fun x13 => (F60 3).bind fun x14 => (F58 x13 6 (⟨0, 0⟩ : Wide) x14).bind fun x15 => some x15 else some x4)))
theorem c41 (a1 : Action) (r : (Vector Tern 24)) (h : F41 a1 = some r) : PCon Try.prog 41 [rd kAction a1] (rd (karr 24 kTern) r) := by
  refine PCon.of (Con.intro0 Try.func41 rfl Try.ntmps41 rfl fun w H => ?_)
  unfold F41 at h
  refine AW.seq ?_
  refine AW.region ?_
  refine AOps.consT rfl (op_box 2 rfl rfl (vt rfl)) ?_
  rintro _ ⟨g2, rfl⟩
  refine AOps.consT rfl (op_alloc 3 rfl rfl zr29) ?_
  rintro _ ⟨g3, rfl⟩
  refine AOps.nil ?_
  refine AW.seq ?_
  obtain ⟨x4, hx4, h⟩ := bsome h
  refine AW.region ?_
  refine AOps.cons (op_call (xs := []) (c17 _ hx4) (Ent.mk Try.func17 rfl rfl) rfl rfl trivial) rfl ?_
  refine AOps.consT rfl (op_alloc 4 rfl rfl zr29) ?_
  rintro _ ⟨g5, rfl⟩
  refine AOps.cons (op_store rfl rfl ty29 (vt rfl) (i := 4) rfl (vt rfl)) rfl ?_
  refine AOps.nil ?_
  refine AW.seq ?_
  refine AW.seq ?_
  refine AW.region ?_
  refine AOps.cons (op_field lAction_0 rfl rfl fl56_0 (vt rfl)) rfl ?_
  refine AOps.cons (op_load rfl rfl ty3 (vt rfl) (i := 2) rfl) rfl ?_
  refine AOps.nil ?_
  refine AW.block ?_
  refine AW.seq ?_
  refine AW.region ?_
  refine AOps.cons (op_eql rfl rfl (vt rfl) (vk rfl)) rfl ?_
  refine AOps.cons (op_assign (A := rd kbool (decide (a1.Kind = 25))) rfl rfl (vt rfl)) rfl ?_
  refine AOps.nil ?_
  refine AW.cond (vt rfl) (fun hc => ?_) (fun hc => ?_)
  · have h := cond_t hc h
    refine AW.seq ?_
    obtain ⟨x6, hx6, h⟩ := bsome h
    refine AW.region ?_
    refine AOps.cons (op_field lAction_5 rfl rfl fl56_5 (vt rfl)) rfl ?_
    refine AOps.cons (op_load rfl rfl ty54 (vt rfl) (i := 2) rfl) rfl ?_
    refine AOps.cons (op_call (xs := [.tmp 11]) (c57 _ _ hx6) (Ent.mk Try.func57 rfl rfl) rfl rfl ⟨vt rfl, trivial⟩) rfl ?_
    refine AOps.consT rfl (op_alloc 5 rfl rfl zr27) ?_
    rintro _ ⟨g7, rfl⟩
    refine AOps.cons (op_store rfl rfl ty27 (vt rfl) (i := 5) rfl (vt rfl)) rfl ?_
    refine AOps.nil ?_
    obtain ⟨x8, hx8, h⟩ := bsome h
    refine AW.region ?_
    refine AOps.cons (op_load rfl rfl ty29 (vt rfl) (i := 4) rfl) rfl ?_
    refine AOps.cons (op_field lAction_5 rfl rfl fl56_5 (vt rfl)) rfl ?_
    refine AOps.cons (op_field lOxm_0 rfl rfl fl54_0 (vt rfl)) rfl ?_
    refine AOps.cons (op_load rfl rfl ty3 (vt rfl) (i := 2) rfl) rfl ?_
    refine AOps.cons (op_field lTern_0 rfl rfl fl27_0 (vt rfl)) rfl ?_
    refine AOps.cons (op_load rfl rfl ty25 (vt rfl) (i := 5) rfl) rfl ?_
    refine AOps.cons (op_field lTern_1 rfl rfl fl27_1 (vt rfl)) rfl ?_
    refine AOps.cons (op_load rfl rfl ty25 (vt rfl) (i := 5) rfl) rfl ?_
    refine AOps.cons (op_call (xs := [.tmp 13, .tmp 16, .tmp 18, .tmp 20]) (c58 _ _ _ _ _ hx8) (Ent.mk Try.func58 rfl rfl) rfl rfl ⟨vt rfl, vt rfl, vt rfl, vt rfl, trivial⟩) rfl ?_
    refine AOps.cons (op_store rfl rfl ty29 (vt rfl) (i := 4) rfl (vt rfl)) rfl ?_
    refine AOps.nil ?_
    refine AW.seq ?_
    refine AW.region ?_
    refine AOps.cons (op_load rfl rfl ty29 (vt rfl) (i := 4) rfl) rfl ?_
    refine AOps.cons (op_store rfl rfl ty29 (vt rfl) (i := 3) rfl (vt rfl)) rfl ?_
    refine AOps.nil ?_
    refine AW.ret ?_
    obtain rfl := Option.some.inj h
    exact ret1 Try.results41 rfl (out_cell rfl (i := 3) rfl ty29)
  · have h := cond_f hc h
    refine AW.seq ?_
    refine AW.region ?_
    refine AOps.cons (op_eql rfl rfl (vt rfl) (vk rfl)) rfl ?_
    refine AOps.cons (op_assign (A := rd kbool (decide (a1.Kind = 17))) rfl rfl (vt rfl)) rfl ?_
    refine AOps.nil ?_
    refine AW.cond (vt rfl) (fun hc => ?_) (fun hc => ?_)
    · have h := cond_t hc h
      obtain ⟨x9, hx9, h⟩ := bsome h
      obtain ⟨x10, hx10, h⟩ := bsome h
      obtain ⟨x11, hx11, h⟩ := bsome h
      refine AW.regionAny [⟨[3], [24], [4], []⟩, ⟨[], [25], [], []⟩, ⟨[], [26], [], []⟩, ⟨[24, 25, 26], [27], [], []⟩, ⟨[3, 27], [], [4], [4]⟩] mixed (by kernel_rfl) ?_
      refine SeqA.cons (loc [3] [4] rfl rfl fun S hs hr => op_load rfl rfl ty29 (vt ((hs 3 rfl).trans rfl)) (i := 4) ((hr 4 rfl).trans rfl)) ⟨rfl, rfl, rfl, rfl⟩ ?_
      refine SeqA.cons (loc [] [] rfl rfl fun S hs hr => op_call (xs := [.const (Value.int IntKind.i64 12)]) (c59 _ _ hx9) (Ent.mk Try.func59 rfl rfl) rfl rfl ⟨vk rfl, trivial⟩) ⟨rfl, rfl, rfl, rfl⟩ ?_
      refine SeqA.cons (loc [] [] rfl rfl fun S hs hr => op_call (xs := [.const (Value.int IntKind.i64 12)]) (c59 _ _ hx10) (Ent.mk Try.func59 rfl rfl) rfl rfl ⟨vk rfl, trivial⟩) ⟨rfl, rfl, rfl, rfl⟩ ?_
      refine SeqA.cons (loc [24, 25, 26] [] rfl rfl fun S hs hr => op_call (xs := [.tmp 24, .const (Value.int IntKind.i64 5), .tmp 25, .tmp 26]) (c58 _ _ _ _ _ hx11) (Ent.mk Try.func58 rfl rfl) rfl rfl ⟨vt ((hs 24 rfl).trans rfl), vk rfl, vt ((hs 25 rfl).trans rfl), vt ((hs 26 rfl).trans rfl), trivial⟩) ⟨rfl, rfl, rfl, rfl⟩ ?_
      refine SeqA.cons (locr [3, 27] [4] rfl fun S hs hr => op_store rfl rfl ty29 (vt ((hs 3 rfl).trans rfl)) (i := 4) ((hr 4 rfl).trans rfl) (vt ((hs 27 rfl).trans rfl))) ⟨rfl, rfl, rfl, rfl⟩ ?_
      refine AW.seq ?_
      refine AW.region ?_
      refine AOps.cons (op_load rfl rfl ty29 (vt rfl) (i := 4) rfl) rfl ?_
      refine AOps.cons (op_store rfl rfl ty29 (vt rfl) (i := 3) rfl (vt rfl)) rfl ?_
      refine AOps.nil ?_
      refine AW.ret ?_
      obtain rfl := Option.some.inj h
      exact ret1 Try.results41 rfl (out_cell rfl (i := 3) rfl ty29)
    · have h := cond_f hc h
      refine AW.seq ?_
      refine AW.region ?_
      refine AOps.cons (op_eql rfl rfl (vt rfl) (vk rfl)) rfl ?_
      refine AOps.cons (op_assign (A := rd kbool (decide (a1.Kind = 18))) rfl rfl (vt rfl)) rfl ?_
      refine AOps.nil ?_
      refine AW.cond (vt rfl) (fun hc => ?_) (fun hc => ?_)
      · have h := cond_t hc h
        refine AW.seq ?_
        obtain ⟨x12, hx12, h⟩ := bsome h
        obtain ⟨x13, hx13, h⟩ := bsome h
        refine AW.regionAny [⟨[3], [30], [4], []⟩, ⟨[], [31], [], []⟩, ⟨[], [32], [], []⟩, ⟨[30, 31, 32], [33], [], []⟩, ⟨[3, 33], [], [4], [4]⟩] mixed (by kernel_rfl) ?_
        refine SeqA.cons (loc [3] [4] rfl rfl fun S hs hr => op_load rfl rfl ty29 (vt ((hs 3 rfl).trans rfl)) (i := 4) ((hr 4 rfl).trans rfl)) ⟨rfl, rfl, rfl, rfl⟩ ?_
        refine SeqA.cons (loc [] [] rfl rfl fun S hs hr => op_build (ps := []) (x := (⟨0, 0⟩ : Wide)) rfl rfl rfl (by kernel_rfl) zr25 rfl) ⟨rfl, rfl, rfl, rfl⟩ ?_
        refine SeqA.cons (loc [] [] rfl rfl fun S hs hr => op_call (xs := [.const (Value.int IntKind.i64 13)]) (c60 _ _ hx12) (Ent.mk Try.func60 rfl rfl) rfl rfl ⟨vk rfl, trivial⟩) ⟨rfl, rfl, rfl, rfl⟩ ?_
        refine SeqA.cons (loc [30, 31, 32] [] rfl rfl fun S hs hr => op_call (xs := [.tmp 30, .const (Value.int IntKind.i64 5), .tmp 31, .tmp 32]) (c58 _ _ _ _ _ hx13) (Ent.mk Try.func58 rfl rfl) rfl rfl ⟨vt ((hs 30 rfl).trans rfl), vk rfl, vt ((hs 31 rfl).trans rfl), vt ((hs 32 rfl).trans rfl), trivial⟩) ⟨rfl, rfl, rfl, rfl⟩ ?_
        refine SeqA.cons (locr [3, 33] [4] rfl fun S hs hr => op_store rfl rfl ty29 (vt ((hs 3 rfl).trans rfl)) (i := 4) ((hr 4 rfl).trans rfl) (vt ((hs 33 rfl).trans rfl))) ⟨rfl, rfl, rfl, rfl⟩ ?_
        obtain ⟨x14, hx14, h⟩ := bsome h
        obtain ⟨x15, hx15, h⟩ := bsome h
        refine AW.regionAny [⟨[3], [34], [4], []⟩, ⟨[], [35], [], []⟩, ⟨[], [36], [], []⟩, ⟨[34, 35, 36], [37], [], []⟩, ⟨[3, 37], [], [4], [4]⟩] mixed (by kernel_rfl) ?_
        refine SeqA.cons (loc [3] [4] rfl rfl fun S hs hr => op_load rfl rfl ty29 (vt ((hs 3 rfl).trans rfl)) (i := 4) ((hr 4 rfl).trans rfl)) ⟨rfl, rfl, rfl, rfl⟩ ?_
        refine SeqA.cons (loc [] [] rfl rfl fun S hs hr => op_build (ps := []) (x := (⟨0, 0⟩ : Wide)) rfl rfl rfl (by kernel_rfl) zr25 rfl) ⟨rfl, rfl, rfl, rfl⟩ ?_
        refine SeqA.cons (loc [] [] rfl rfl fun S hs hr => op_call (xs := [.const (Value.int IntKind.i64 3)]) (c60 _ _ hx14) (Ent.mk Try.func60 rfl rfl) rfl rfl ⟨vk rfl, trivial⟩) ⟨rfl, rfl, rfl, rfl⟩ ?_
        refine SeqA.cons (loc [34, 35, 36] [] rfl rfl fun S hs hr => op_call (xs := [.tmp 34, .const (Value.int IntKind.i64 6), .tmp 35, .tmp 36]) (c58 _ _ _ _ _ hx15) (Ent.mk Try.func58 rfl rfl) rfl rfl ⟨vt ((hs 34 rfl).trans rfl), vk rfl, vt ((hs 35 rfl).trans rfl), vt ((hs 36 rfl).trans rfl), trivial⟩) ⟨rfl, rfl, rfl, rfl⟩ ?_
        refine SeqA.cons (locr [3, 37] [4] rfl fun S hs hr => op_store rfl rfl ty29 (vt ((hs 3 rfl).trans rfl)) (i := 4) ((hr 4 rfl).trans rfl) (vt ((hs 37 rfl).trans rfl))) ⟨rfl, rfl, rfl, rfl⟩ ?_
        refine AW.seq ?_
        refine AW.region ?_
        refine AOps.cons (op_load rfl rfl ty29 (vt rfl) (i := 4) rfl) rfl ?_
        refine AOps.cons (op_store rfl rfl ty29 (vt rfl) (i := 3) rfl (vt rfl)) rfl ?_
        refine AOps.nil ?_
        refine AW.ret ?_
        obtain rfl := Option.some.inj h
        exact ret1 Try.results41 rfl (out_cell rfl (i := 3) rfl ty29)
      · have h := cond_f hc h
        refine AW.skip ?_
        refine AW.seq ?_
        refine AW.region ?_
        refine AOps.cons (op_load rfl rfl ty29 (vt rfl) (i := 4) rfl) rfl ?_
        refine AOps.cons (op_store rfl rfl ty29 (vt rfl) (i := 3) rfl (vt rfl)) rfl ?_
        refine AOps.nil ?_
        refine AW.ret ?_
        obtain rfl := Option.some.inj h
        exact ret1 Try.results41 rfl (out_cell rfl (i := 3) rfl ty29)
-- weirbox/rewrite.Then$1
def F55 (i1 : Int) (c2 : (Vector Tern 24)) (c3 : (Vector Tern 24)) : Option Tern :=
  (chk 24 i1).bind fun j5 => (chk 24 i1).bind fun j6 => (F56 (Vector.get c2 j5) (Vector.get c3 j6)).bind fun x7 => some x7
theorem c55 (i1 : Int) (c2 : (Vector Tern 24)) (c3 : (Vector Tern 24)) (r : Tern) (h : F55 i1 c2 c3 = some r) : PCon Try.prog 55 [rd (kint .i64) i1, rp (karr 24 kTern) c2, rp (karr 24 kTern) c3] (rd kTern r) := by
  refine PCon.of (Con.intro0 Try.func55 rfl Try.ntmps55 rfl fun w H => ?_)
  unfold F55 at h
  refine AW.seq ?_
  refine AW.region ?_
  refine AOps.consT rfl (op_alloc 5 rfl rfl zr27) ?_
  rintro _ ⟨g4, rfl⟩
  refine AOps.nil ?_
  refine AW.seq ?_
  obtain ⟨j5, hj5, h⟩ := bsome h
  obtain ⟨j6, hj6, h⟩ := bsome h
  obtain ⟨x7, hx7, h⟩ := bsome h
  refine AW.regionAny [⟨[0], [5], [], []⟩, ⟨[1, 5], [6], [], []⟩, ⟨[6], [7], [], []⟩, ⟨[0], [8], [], []⟩, ⟨[2, 8], [9], [], []⟩, ⟨[9], [10], [], []⟩, ⟨[7, 10], [11], [], []⟩, ⟨[4, 11], [], [5], [5]⟩] mixed (by kernel_rfl) ?_
  refine SeqA.cons (loc [0] [] rfl rfl fun S hs hr => op_move (A := rd (kint .i64) i1) rfl rfl (vt ((hs 0 rfl).trans rfl))) ⟨rfl, rfl, rfl, rfl⟩ ?_
  refine SeqA.cons (loc [1, 5] [] rfl rfl fun S hs hr => op_indexp' rfl rfl ar29 (vt ((hs 1 rfl).trans rfl)) (vt ((hs 5 rfl).trans rfl)) hj5) ⟨rfl, rfl, rfl, rfl⟩ ?_
  refine SeqA.cons (loc [6] [] rfl rfl fun S hs hr => op_loadp rfl rfl ty27 (vt ((hs 6 rfl).trans rfl))) ⟨rfl, rfl, rfl, rfl⟩ ?_
  refine SeqA.cons (loc [0] [] rfl rfl fun S hs hr => op_move (A := rd (kint .i64) i1) rfl rfl (vt ((hs 0 rfl).trans rfl))) ⟨rfl, rfl, rfl, rfl⟩ ?_
  refine SeqA.cons (loc [2, 8] [] rfl rfl fun S hs hr => op_indexp' rfl rfl ar29 (vt ((hs 2 rfl).trans rfl)) (vt ((hs 8 rfl).trans rfl)) hj6) ⟨rfl, rfl, rfl, rfl⟩ ?_
  refine SeqA.cons (loc [9] [] rfl rfl fun S hs hr => op_loadp rfl rfl ty27 (vt ((hs 9 rfl).trans rfl))) ⟨rfl, rfl, rfl, rfl⟩ ?_
  refine SeqA.cons (loc [7, 10] [] rfl rfl fun S hs hr => op_call (xs := [.tmp 7, .tmp 10]) (c56 _ _ _ hx7) (Ent.mk Try.func56 rfl rfl) rfl rfl ⟨vt ((hs 7 rfl).trans rfl), vt ((hs 10 rfl).trans rfl), trivial⟩) ⟨rfl, rfl, rfl, rfl⟩ ?_
  refine SeqA.cons (locr [4, 11] [5] rfl fun S hs hr => op_store rfl rfl ty27 (vt ((hs 4 rfl).trans rfl)) (i := 5) ((hr 5 rfl).trans rfl) (vt ((hs 11 rfl).trans rfl))) ⟨rfl, rfl, rfl, rfl⟩ ?_
  refine AW.ret ?_
  obtain rfl := Option.some.inj h
  exact ret1 Try.results55 rfl (out_cell rfl (i := 5) rfl ty27)
-- weirbox/rewrite.Then
def F40 (a1 : (Vector Tern 24)) (b2 : (Vector Tern 24)) : Option (Vector Tern 24) :=
  (F37 (fun x => F55 x a1 b2)).bind fun x6 => some x6
theorem c40 (a1 : (Vector Tern 24)) (b2 : (Vector Tern 24)) (r : (Vector Tern 24)) (h : F40 a1 b2 = some r) : PCon Try.prog 40 [rd (karr 24 kTern) a1, rd (karr 24 kTern) b2] (rd (karr 24 kTern) r) := by
  refine PCon.of (Con.intro0 Try.func40 rfl Try.ntmps40 rfl fun w H => ?_)
  unfold F40 at h
  refine AW.seq ?_
  refine AW.region ?_
  refine AOps.consT rfl (op_box 3 rfl rfl (vt rfl)) ?_
  rintro _ ⟨g3, rfl⟩
  refine AOps.consT rfl (op_box 4 rfl rfl (vt rfl)) ?_
  rintro _ ⟨g4, rfl⟩
  refine AOps.consT rfl (op_alloc 5 rfl rfl zr29) ?_
  rintro _ ⟨g5, rfl⟩
  refine AOps.nil ?_
  refine AW.seq ?_
  refine AW.freezeB 2 3 rfl rfl rfl ?_
  refine AW.freezeB 3 4 rfl rfl rfl ?_
  obtain ⟨x6, hx6, h⟩ := bsome h
  refine AW.region ?_
  refine AOps.cons (op_fn1 (cs := [.tmp 2, .tmp 3]) (CAs := [rp (karr 24 kTern) a1, rp (karr 24 kTern) b2]) (fun x => F55 x a1 b2) rfl rfl (Ent.mk Try.func55 rfl rfl) ⟨vt rfl, vt rfl, trivial⟩ (fun x y h => c55 _ _ _ y h)) rfl ?_
  refine AOps.cons (op_call (xs := [.tmp 5]) (c37 _ _ hx6) (Ent.mk Try.func37 rfl rfl) rfl rfl ⟨vt rfl, trivial⟩) rfl ?_
  refine AOps.cons (op_store rfl rfl ty29 (vt rfl) (i := 5) rfl (vt rfl)) rfl ?_
  refine AOps.nil ?_
  refine AW.ret ?_
  obtain rfl := Option.some.inj h
  exact ret1 Try.results40 rfl (out_cell rfl (i := 5) rfl ty29)
-- (*weirbox/atom.trace).do
def F20_j1 (t1 : atom_trace) (b7 : Atom) : Option atom_trace :=
  (appd t1.atoms [b7]).bind fun l8 => some (⟨t1.got, l8⟩ : atom_trace)
def F20 (t1 : atom_trace) (a4 : Action) : Option atom_trace :=
  (bif (decide (a4.Kind = 0)) then (bif (decide (a4.Port = 4294967293)) then F20_j1 t1 { { (⟨t1.got, false, 0, 0⟩ : Atom) with Port := a4.Port } with Max := a4.Max } else F20_j1 t1 { (⟨t1.got, false, 0, 0⟩ : Atom) with Port := a4.Port }) else (bif (decide (a4.Kind = 22)) then F20_j1 t1 { { (⟨t1.got, false, 0, 0⟩ : Atom) with Group := true } with Port := a4.Group } else (F41 a4).bind fun x10 => (F40 t1.got x10).bind fun x11 => some (⟨x11, t1.atoms⟩ : atom_trace)))
theorem c20 (g2 : Nat) (t1 : atom_trace) (a4 : Action) (r : atom_trace) (h : F20 t1 a4 = some r) : Con Try.prog 20 [ptrL g2 (Lens.id katom_trace_o1), rd kAction a4] (BoxF g2 63 katom_trace_o1 (fun v => (⟨t1.got, v⟩ : atom_trace_o1)) 36 kAtom t1.atoms) (fun _ : Unit => top) (fun _ => BoxF g2 63 katom_trace_o1 (fun v => (⟨r.got, v⟩ : atom_trace_o1)) 36 kAtom r.atoms) := by
  refine Con.intro Try.func20 rfl Try.ntmps20 rfl fun w H X => ?_
  unfold F20 at h
  refine AW.unboxF 0 2001 (by decide) rfl rfl fun v3 => ?_
  refine AW.seq ?_
  refine AW.region ?_
  refine AOps.consT rfl (op_box 4 rfl rfl (vt rfl)) ?_
  rintro _ ⟨g5, rfl⟩
  refine AOps.nil ?_
  refine AW.seq ?_
  refine AW.region ?_
  refine AOps.cons (op_move (A := ptrL g2 (Lens.id katom_trace_o1)) rfl rfl (vt rfl)) rfl ?_
  refine AOps.cons (op_nilCheck rfl rfl (vt rfl)) rfl ?_
  refine AOps.cons (op_field latom_trace_o1_0 rfl rfl flv63_0_1 (vt rfl)) rfl ?_
  refine AOps.cons (op_load rfl rfl ty29 (vt rfl) (i := 0) rfl) rfl ?_
  refine AOps.cons (op_build (ps := [(0, .tmp 8)]) (x := (⟨t1.got, false, 0, 0⟩ : Atom)) rfl rfl rfl (by kernel_rfl) zr36 ⟨_, _, lAtom_0, _, by kernel_rfl, (vt rfl), rfl⟩) rfl ?_
  refine AOps.consT rfl (op_alloc 5 rfl rfl zr36) ?_
  rintro _ ⟨g6, rfl⟩
  refine AOps.cons (op_store rfl rfl ty36 (vt rfl) (i := 5) rfl (vt rfl)) rfl ?_
  refine AOps.nil ?_
  refine AW.join (d := []) (ν := Atom) (fun n => F20_j1 t1 n = some r) (fun n => [(0, ptrL g2 (Lens.id katom_trace_o1)), (4, ptrL g6 (Lens.id kAtom))]) (fun n => [(0, Blk g2 63 katom_trace_o1 (⟨t1.got, v3⟩ : atom_trace_o1)), (5, Blk g6 36 kAtom n), (2001, Row v3 36 kAtom t1.atoms)]) ?hx ?hy
  case hy =>
    intro b7 h
    unfold F20_j1 at h
    change AW _ _ _ ⟨slots [(0, ptrL g2 (Lens.id katom_trace_o1)), (4, ptrL g6 (Lens.id kAtom))], ress [(0, Blk g2 63 katom_trace_o1 (⟨t1.got, v3⟩ : atom_trace_o1)), (5, Blk g6 36 kAtom b7), (2001, Row v3 36 kAtom t1.atoms)], _⟩
    obtain ⟨l8, hl8, h⟩ := bsome h
    refine AW.endT ?_
    refine AW.regionAny [⟨[0], [39], [], []⟩, ⟨[0], [40], [], []⟩, ⟨[40], [41], [], []⟩, ⟨[41], [42], [], []⟩, ⟨[42], [43], [0], []⟩, ⟨[4], [44], [5], []⟩, ⟨[44], [45], [], []⟩, ⟨[43, 45], [46], [2001], [2001]⟩, ⟨[39], [47], [], []⟩, ⟨[47], [48], [], []⟩, ⟨[48, 46], [46], [0], [0]⟩] mixed (by kernel_rfl) ?_
    refine SeqA.cons (loc [0] [] rfl rfl fun S hs hr => op_move (A := ptrL g2 (Lens.id katom_trace_o1)) rfl rfl (vt ((hs 0 rfl).trans rfl))) ⟨rfl, rfl, rfl, rfl⟩ ?_
    refine SeqA.cons (loc [0] [] rfl rfl fun S hs hr => op_move (A := ptrL g2 (Lens.id katom_trace_o1)) rfl rfl (vt ((hs 0 rfl).trans rfl))) ⟨rfl, rfl, rfl, rfl⟩ ?_
    refine SeqA.cons (loc [40] [] rfl rfl fun S hs hr => op_nilCheck rfl rfl (vt ((hs 40 rfl).trans rfl))) ⟨rfl, rfl, rfl, rfl⟩ ?_
    refine SeqA.cons (loc [41] [] rfl rfl fun S hs hr => op_field latom_trace_o1_1 rfl rfl flv63_1_1 (vt ((hs 41 rfl).trans rfl))) ⟨rfl, rfl, rfl, rfl⟩ ?_
    refine SeqA.cons (loc [42] [0] rfl rfl fun S hs hr => op_loadv v3 rfl rfl tyr30 (vt ((hs 42 rfl).trans rfl)) (i := 0) ((hr 0 rfl).trans rfl) rfl) ⟨rfl, rfl, rfl, rfl⟩ ?_
    refine SeqA.cons (loc [4] [5] rfl rfl fun S hs hr => op_load rfl rfl ty36 (vt ((hs 4 rfl).trans rfl)) (i := 5) ((hr 5 rfl).trans rfl)) ⟨rfl, rfl, rfl, rfl⟩ ?_
    refine SeqA.cons (loc [44] [] rfl rfl fun S hs hr => op_buildSliceR (ps := [(0, .tmp 44)]) (l := [b7]) rfl rfl sl30 zr36 rfl rfl ⟨_, _, Lens.idx 1 kAtom 0 (by decide), _, rfl, (vt ((hs 44 rfl).trans rfl)), rfl⟩ rfl) ⟨rfl, rfl, rfl, rfl⟩ ?_
    refine SeqA.cons (locs (us := [(46, ownR 36 kAtom l8)]) (ur := [(2001, emp)]) [43, 45] [2001] rfl fun S hs hr => op_appendO 2001 hl8 rfl rfl rfl el30 (vt ((hs 43 rfl).trans rfl)) ((hr 2001 rfl).trans rfl) (vt ((hs 45 rfl).trans rfl))) ⟨rfl, rfl, rfl, rfl⟩ ?_
    refine SeqA.cons (loc [39] [] rfl rfl fun S hs hr => op_nilCheck rfl rfl (vt ((hs 39 rfl).trans rfl))) ⟨rfl, rfl, rfl, rfl⟩ ?_
    refine SeqA.cons (loc [47] [] rfl rfl fun S hs hr => op_field latom_trace_o1_1 rfl rfl flv63_1_1 (vt ((hs 47 rfl).trans rfl))) ⟨rfl, rfl, rfl, rfl⟩ ?_
    refine SeqA.cons (locs (us := [(46, top)]) (ur := [(0, BoxF g2 63 katom_trace_o1 (fun v => ((Lens.comp (Lens.id katom_trace_o1) latom_trace_o1_1)).set (⟨t1.got, v3⟩ : atom_trace_o1) v) 36 kAtom l8)]) [48, 46] [0] rfl fun S hs hr => op_storeR rfl rfl tyr30 (vt ((hs 48 rfl).trans rfl)) ((hr 0 rfl).trans rfl) ((hs 46 rfl).trans rfl)) ⟨rfl, rfl, rfl, rfl⟩ ?_
    refine EndT.unboxF 0 2001 (by decide) rfl rfl fun v9 => ?_
    refine EndT.done ?_
    obtain rfl := Option.some.inj h
    exact RetOK.turn (Turn.packF 0 2001 (fun v => (⟨t1.got, v⟩ : atom_trace_o1)) (by decide) rfl rfl) (ret0Y (i := 0) Try.results20 rfl rfl)
  case hx =>
    refine AW.seq ?_
    refine AW.region ?_
    refine AOps.cons (op_field lAction_0 rfl rfl fl56_0 (vt rfl)) rfl ?_
    refine AOps.cons (op_load rfl rfl ty3 (vt rfl) (i := 4) rfl) rfl ?_
    refine AOps.nil ?_
    refine AW.block ?_
    refine AW.seq ?_
    refine AW.region ?_
    refine AOps.cons (op_eql rfl rfl (vt rfl) (vk rfl)) rfl ?_
    refine AOps.cons (op_assign (A := rd kbool (decide (a4.Kind = 0))) rfl rfl (vt rfl)) rfl ?_
    refine AOps.nil ?_
    refine AW.cond (vt rfl) (fun hc => ?_) (fun hc => ?_)
    · have h := cond_t hc h
      refine AW.seq ?_
      refine AW.region ?_
      refine AOps.cons (op_field lAction_1 rfl rfl fl56_1 (vt rfl)) rfl ?_
      refine AOps.cons (op_load rfl rfl ty3 (vt rfl) (i := 4) rfl) rfl ?_
      refine AOps.cons (op_field lAtom_2 rfl rfl fl36_2 (vt rfl)) rfl ?_
      refine AOps.cons (op_store rfl rfl ty3 (vt rfl) (i := 5) rfl (vt rfl)) rfl ?_
      refine AOps.nil ?_
      refine AW.seq ?_
      refine AW.region ?_
      refine AOps.cons (op_field lAction_1 rfl rfl fl56_1 (vt rfl)) rfl ?_
      refine AOps.cons (op_load rfl rfl ty3 (vt rfl) (i := 4) rfl) rfl ?_
      refine AOps.cons (op_eql rfl rfl (vt rfl) (vk rfl)) rfl ?_
      refine AOps.nil ?_
      refine AW.cond (vt rfl) (fun hc => ?_) (fun hc => ?_)
      · have h := cond_t hc h
        refine AW.region ?_
        refine AOps.cons (op_field lAction_2 rfl rfl fl56_2 (vt rfl)) rfl ?_
        refine AOps.cons (op_load rfl rfl ty3 (vt rfl) (i := 4) rfl) rfl ?_
        refine AOps.cons (op_field lAtom_3 rfl rfl fl36_3 (vt rfl)) rfl ?_
        refine AOps.cons (op_store rfl rfl ty3 (vt rfl) (i := 5) rfl (vt rfl)) rfl ?_
        refine AOps.nil ?_
        exact ⟨{ { (⟨t1.got, false, 0, 0⟩ : Atom) with Port := a4.Port } with Max := a4.Max }, h, ⟨rfl, ⟨rfl, rfl, trivial⟩, ⟨rfl, rfl, rfl, trivial⟩⟩⟩
      · have h := cond_f hc h
        refine AW.skip ?_
        exact ⟨{ (⟨t1.got, false, 0, 0⟩ : Atom) with Port := a4.Port }, h, ⟨rfl, ⟨rfl, rfl, trivial⟩, ⟨rfl, rfl, rfl, trivial⟩⟩⟩
    · have h := cond_f hc h
      refine AW.seq ?_
      refine AW.region ?_
      refine AOps.cons (op_eql rfl rfl (vt rfl) (vk rfl)) rfl ?_
      refine AOps.cons (op_assign (A := rd kbool (decide (a4.Kind = 22))) rfl rfl (vt rfl)) rfl ?_
      refine AOps.nil ?_
      refine AW.cond (vt rfl) (fun hc => ?_) (fun hc => ?_)
      · have h := cond_t hc h
        refine AW.regionAny [⟨[3], [35], [], []⟩, ⟨[35], [36], [4], []⟩, ⟨[4], [37], [], []⟩, ⟨[37], [], [5], [5]⟩, ⟨[4], [38], [], []⟩, ⟨[38, 36], [], [5], [5]⟩] mixed (by kernel_rfl) ?_
        refine SeqA.cons (loc [3] [] rfl rfl fun S hs hr => op_field lAction_3 rfl rfl fl56_3 (vt ((hs 3 rfl).trans rfl))) ⟨rfl, rfl, rfl, rfl⟩ ?_
        refine SeqA.cons (loc [35] [4] rfl rfl fun S hs hr => op_load rfl rfl ty3 (vt ((hs 35 rfl).trans rfl)) (i := 4) ((hr 4 rfl).trans rfl)) ⟨rfl, rfl, rfl, rfl⟩ ?_
        refine SeqA.cons (loc [4] [] rfl rfl fun S hs hr => op_field lAtom_1 rfl rfl fl36_1 (vt ((hs 4 rfl).trans rfl))) ⟨rfl, rfl, rfl, rfl⟩ ?_
        refine SeqA.cons (locr [37] [5] rfl fun S hs hr => op_store rfl rfl ty4 (vt ((hs 37 rfl).trans rfl)) (i := 5) ((hr 5 rfl).trans rfl) vb) ⟨rfl, rfl, rfl, rfl⟩ ?_
        refine SeqA.cons (loc [4] [] rfl rfl fun S hs hr => op_field lAtom_2 rfl rfl fl36_2 (vt ((hs 4 rfl).trans rfl))) ⟨rfl, rfl, rfl, rfl⟩ ?_
        refine SeqA.cons (locr [38, 36] [5] rfl fun S hs hr => op_store rfl rfl ty3 (vt ((hs 38 rfl).trans rfl)) (i := 5) ((hr 5 rfl).trans rfl) (vt ((hs 36 rfl).trans rfl))) ⟨rfl, rfl, rfl, rfl⟩ ?_
        exact ⟨{ { (⟨t1.got, false, 0, 0⟩ : Atom) with Group := true } with Port := a4.Group }, h, ⟨rfl, ⟨rfl, rfl, trivial⟩, ⟨rfl, rfl, rfl, trivial⟩⟩⟩
      · have h := cond_f hc h
        refine AW.seq ?_
        obtain ⟨x10, hx10, h⟩ := bsome h
        obtain ⟨x11, hx11, h⟩ := bsome h
        refine AW.regionAny [⟨[0], [12], [], []⟩, ⟨[0], [13], [], []⟩, ⟨[13], [14], [], []⟩, ⟨[14], [15], [], []⟩, ⟨[15], [16], [0], []⟩, ⟨[3], [17], [4], []⟩, ⟨[17], [18], [], []⟩, ⟨[16, 18], [19], [], []⟩, ⟨[12], [20], [], []⟩, ⟨[20], [21], [], []⟩, ⟨[21, 19], [], [0], [0]⟩] mixed (by kernel_rfl) ?_
        refine SeqA.cons (loc [0] [] rfl rfl fun S hs hr => op_move (A := ptrL g2 (Lens.id katom_trace_o1)) rfl rfl (vt ((hs 0 rfl).trans rfl))) ⟨rfl, rfl, rfl, rfl⟩ ?_
        refine SeqA.cons (loc [0] [] rfl rfl fun S hs hr => op_move (A := ptrL g2 (Lens.id katom_trace_o1)) rfl rfl (vt ((hs 0 rfl).trans rfl))) ⟨rfl, rfl, rfl, rfl⟩ ?_
        refine SeqA.cons (loc [13] [] rfl rfl fun S hs hr => op_nilCheck rfl rfl (vt ((hs 13 rfl).trans rfl))) ⟨rfl, rfl, rfl, rfl⟩ ?_
        refine SeqA.cons (loc [14] [] rfl rfl fun S hs hr => op_field latom_trace_o1_0 rfl rfl flv63_0_1 (vt ((hs 14 rfl).trans rfl))) ⟨rfl, rfl, rfl, rfl⟩ ?_
        refine SeqA.cons (loc [15] [0] rfl rfl fun S hs hr => op_load rfl rfl ty29 (vt ((hs 15 rfl).trans rfl)) (i := 0) ((hr 0 rfl).trans rfl)) ⟨rfl, rfl, rfl, rfl⟩ ?_
        refine SeqA.cons (loc [3] [4] rfl rfl fun S hs hr => op_load rfl rfl ty56 (vt ((hs 3 rfl).trans rfl)) (i := 4) ((hr 4 rfl).trans rfl)) ⟨rfl, rfl, rfl, rfl⟩ ?_
        refine SeqA.cons (loc [17] [] rfl rfl fun S hs hr => op_call (xs := [.tmp 17]) (c41 _ _ hx10) (Ent.mk Try.func41 rfl rfl) rfl rfl ⟨vt ((hs 17 rfl).trans rfl), trivial⟩) ⟨rfl, rfl, rfl, rfl⟩ ?_
        refine SeqA.cons (loc [16, 18] [] rfl rfl fun S hs hr => op_call (xs := [.tmp 16, .tmp 18]) (c40 _ _ _ hx11) (Ent.mk Try.func40 rfl rfl) rfl rfl ⟨vt ((hs 16 rfl).trans rfl), vt ((hs 18 rfl).trans rfl), trivial⟩) ⟨rfl, rfl, rfl, rfl⟩ ?_
        refine SeqA.cons (loc [12] [] rfl rfl fun S hs hr => op_nilCheck rfl rfl (vt ((hs 12 rfl).trans rfl))) ⟨rfl, rfl, rfl, rfl⟩ ?_
        refine SeqA.cons (loc [20] [] rfl rfl fun S hs hr => op_field latom_trace_o1_0 rfl rfl flv63_0_1 (vt ((hs 20 rfl).trans rfl))) ⟨rfl, rfl, rfl, rfl⟩ ?_
        refine SeqA.cons (locr [21, 19] [0] rfl fun S hs hr => op_store rfl rfl ty29 (vt ((hs 21 rfl).trans rfl)) (i := 0) ((hr 0 rfl).trans rfl) (vt ((hs 19 rfl).trans rfl))) ⟨rfl, rfl, rfl, rfl⟩ ?_
        refine AW.ret ?_
        obtain rfl := Option.some.inj h
        exact RetOK.turn (Turn.packF 0 2001 (fun v => (⟨x11, v⟩ : atom_trace_o1)) (by decide) rfl rfl) (ret0Y (i := 0) Try.results20 rfl rfl)
-- weirbox/atom.each[weirbox/api.Action]
def F19_l1 (sg : Type) (do2 : (sg → Action → Option sg)) : (List Action) → Nat → sg → Option sg
  | [], i6, s5 => some s5
  | x8 :: l7, i6, s5 => (do2 s5 x8).bind fun s10 => (F19_l1 sg do2 l7) (i6 + 1) s10
def F19 (l1 : (List Action)) (sg : Type) (do2 : (sg → Action → Option sg)) (s3 : sg) : Option sg :=
  F19_l1 sg do2 l1 0 s3
theorem c19 (l1 : (List Action)) (sg : Type) (do2 : (sg → Action → Option sg)) (L : sg → Res) (s3 : sg) (r : sg) (h : F19 l1 sg do2 s3 = some r) : Con Try.prog 19 [rd (ksl kAction) l1, stA Try.prog kAction do2 L] (L s3) (fun _ : Unit => top) (fun _ => L r) := by
  refine Con.intro Try.func19 rfl Try.ntmps19 rfl fun w H X => ?_
  unfold F19 at h
  refine AW.seq ?_
  refine AW.region ?_
  refine AOps.cons (op_move (A := rd (ksl kAction) l1) rfl rfl (vt rfl)) rfl ?_
  refine AOps.cons (op_len' rfl rfl sl22 (vt rfl)) rfl ?_
  refine AOps.cons (op_move (A := rd (kint .i64) 0) rfl rfl (vk rfl)) rfl ?_
  refine AOps.nil ?_
  refine AW.block ?_
  refine AW.loopG (d := []) (ν := (List Action) × Nat × sg) (fun n => Sfx l1 n.2.1 n.1 ∧ F19_l1 sg do2 n.1 n.2.1 n.2.2 = some r) (fun n => n.1.length) (fun n => [(1, stA Try.prog kAction do2 L), (6, rd (ksl kAction) l1), (7, rd (kint .i64) (l1.length : Int)), (8, rd (kint .i64) (n.2.1 : Int))]) (fun n => [(0, L n.2.2)]) (l1, 0, s3) ⟨Sfx.start _, h⟩ ⟨rfl, ⟨rfl, rfl, rfl, rfl, trivial⟩, ⟨rfl, trivial⟩⟩ ?_
  rintro ⟨l7, i6, s5⟩ ⟨hsf1, h⟩
  change Sfx l1 i6 l7 at hsf1
  change F19_l1 sg do2 l7 i6 s5 = some r at h
  change AW _ _ _ ⟨slots [(1, stA Try.prog kAction do2 L), (6, rd (ksl kAction) l1), (7, rd (kint .i64) (l1.length : Int)), (8, rd (kint .i64) (i6 : Int))], ress [(0, L s5)], _⟩
  cases l7 with
  | nil =>
    unfold F19_l1 at h
    refine AW.seq ?_
    refine AW.region ?_
    refine AOps.cons (op_lss rfl rfl (vt rfl) (vt rfl)) rfl ?_
    refine AOps.nil ?_
    refine AW.seq ?_
    refine AW.cond (vt rfl) (fun hc => absurd (of_decide_eq_true hc) hsf1.nil) (fun hc => ?_)
    refine AW.exit ?_
    obtain rfl := Option.some.inj h
    exact ret0Y (i := 0) Try.results19 rfl rfl
  | cons x8 l7 =>
    unfold F19_l1 at h
    generalize hgo1 : F19_l1 sg do2 l7 = go1 at h
    refine AW.seq ?_
    refine AW.region ?_
    refine AOps.cons (op_lss rfl rfl (vt rfl) (vt rfl)) rfl ?_
    refine AOps.nil ?_
    refine AW.seq ?_
    refine AW.cond (vt rfl) (fun hc => ?_) (fun hc => absurd hsf1.cons (of_decide_eq_false hc))
    have hlti6 := of_decide_eq_true hc
    refine AW.skip ?_
    refine AW.seq ?_
    refine AW.block ?_
    refine AW.seq ?_
    refine AW.region ?_
    refine AOps.cons (op_indexs' rfl rfl sl22 (vt rfl) (vt rfl) hsf1.lget) rfl ?_
    refine AOps.cons (op_loadp rfl rfl ty56 (vt rfl)) rfl ?_
    refine AOps.consT rfl (op_alloc 6 rfl rfl zr56) ?_
    rintro _ ⟨g9, rfl⟩
    refine AOps.cons (op_store rfl rfl ty56 (vt rfl) (i := 6) rfl (vt rfl)) rfl ?_
    refine AOps.nil ?_
    obtain ⟨s10, hs10, h⟩ := bsome h
    refine AW.region ?_
    refine AOps.cons (op_move (A := stA Try.prog kAction do2 L) rfl rfl (vt rfl)) rfl ?_
    refine AOps.cons (op_load rfl rfl ty56 (vt rfl) (i := 6) rfl) rfl ?_
    refine AOps.cons (op_callst 0 hs10 rfl rfl (vt rfl) (vt rfl) rfl) rfl ?_
    refine AOps.nil ?_
    refine AW.region ?_
    refine AOps.cons (op_incr (t := 7) rfl rfl (vt rfl) (vk rfl) (vt rfl) hlti6) rfl ?_
    refine AOps.cons (op_move (A := rd (kint .i64) ((i6 + 1 : Nat) : Int)) rfl rfl (vt rfl)) rfl ?_
    refine AOps.nil ?_
    subst hgo1
    exact ⟨(l7, i6 + 1, s10), Nat.lt_succ_self _, ⟨hsf1.next, h⟩, ⟨rfl, ⟨rfl, rfl, rfl, rfl, trivial⟩, ⟨rfl, trivial⟩⟩⟩
-- weirbox/atom.Do
def F6 (acts1 : (List Action)) (r2 : (Vector Tern 24)) : Option ((List Atom) × (Vector Tern 24)) :=
  (F18 r2).bind fun x5 => (F19 acts1 atom_trace (fun s x => F20 s x) (⟨x5, []⟩ : atom_trace)).bind fun b7 => some (b7.atoms, b7.got)
theorem c6 (acts1 : (List Action)) (r2 : (Vector Tern 24)) (r : ((List Atom) × (Vector Tern 24))) (h : F6 acts1 r2 = some r) : PCon Try.prog 6 [rd (ksl kAction) acts1, rd (karr 24 kTern) r2] (tup2 (rd (ksl kAtom) r.1) (rd (karr 24 kTern) r.2)) := by
  refine PCon.of (Con.intro0 Try.func6 rfl Try.ntmps6 rfl fun w H => ?_)
  unfold F6 at h
  refine AW.seq ?_
  refine AW.region ?_
  refine AOps.consT rfl (op_box 4 rfl rfl (vt rfl)) ?_
  rintro _ ⟨g3, rfl⟩
  refine AOps.cons (op_assign (A := rd (ksl kAtom) []) rfl rfl vnil) rfl ?_
  refine AOps.consT rfl (op_alloc 6 rfl rfl zr29) ?_
  rintro _ ⟨g4, rfl⟩
  refine AOps.nil ?_
  refine AW.seq ?_
  refine AW.newnil 2221 36 kAtom ?_
  obtain ⟨x5, hx5, h⟩ := bsome h
  refine AW.region ?_
  refine AOps.cons (op_load rfl rfl ty29 (vt rfl) (i := 4) rfl) rfl ?_
  refine AOps.cons (op_call (xs := [.tmp 7]) (c18 _ _ hx5) (Ent.mk Try.func18 rfl rfl) rfl rfl ⟨vt rfl, trivial⟩) rfl ?_
  refine AOps.cons (op_build (ps := [(0, .tmp 8)]) (x := (⟨x5, (.slice none 0 0)⟩ : atom_trace_o1)) rfl rfl rfl (by kernel_rfl) zrv63_1 ⟨_, _, latom_trace_o1_0, _, by kernel_rfl, (vt rfl), rfl⟩) rfl ?_
  refine AOps.consT rfl (op_box 11 rfl rfl (vt rfl)) ?_
  rintro _ ⟨g6, rfl⟩
  refine AOps.cons (op_assign (A := ptrL g6 (Lens.id katom_trace_o1)) rfl rfl (vt rfl)) rfl ?_
  refine AOps.nil ?_
  refine AW.seq ?_
  obtain ⟨b7, hb7, h⟩ := bsome h
  refine AW.region ?_
  refine AOps.cons (op_move (A := rd (ksl kAction) acts1) rfl rfl (vt rfl)) rfl ?_
  refine AOps.cons (op_move (A := ptrL g6 (Lens.id katom_trace_o1)) rfl rfl (vt rfl)) rfl ?_
  refine AOps.cons (op_st (fs := [.tmp 12]) (cs := []) (FAs := [ptrL g6 (Lens.id katom_trace_o1)]) (CAs := []) (k := kAction) (fun s x => F20 s x) (fun (s : atom_trace) => BoxF g6 63 katom_trace_o1 (fun v => (⟨s.got, v⟩ : atom_trace_o1)) 36 kAtom s.atoms) rfl rfl (Ent.mk Try.func20 rfl rfl) ⟨vt rfl, trivial⟩ trivial (fun s x s2 h => c20  _ s x s2 h)) rfl ?_
  refine AOps.packF 11 2221 (fun v => (⟨x5, v⟩ : atom_trace_o1)) (by decide) rfl rfl ?_
  refine AOps.consT rfl (op_callR 11 (xs := [.tmp 11, .tmp 13]) (c19 _ atom_trace _ (fun (s : atom_trace) => BoxF g6 63 katom_trace_o1 (fun v => (⟨s.got, v⟩ : atom_trace_o1)) 36 kAtom s.atoms) _ _ hb7) (Ent.mk Try.func19 rfl rfl) rfl rfl ⟨vt rfl, vt rfl, trivial⟩ rfl) ?_
  rintro _ ⟨_u, rfl⟩
  refine AOps.unboxF 11 2221 (by decide) rfl rfl fun v8 => ?_
  refine AOps.nil ?_
  refine AW.seq ?_
  refine AW.regionAny [⟨[6], [15], [], []⟩, ⟨[15], [16], [], []⟩, ⟨[16], [17], [], []⟩, ⟨[17], [18], [11], []⟩, ⟨[6], [19], [], []⟩, ⟨[19], [20], [], []⟩, ⟨[20], [21], [], []⟩, ⟨[21], [22], [11], []⟩, ⟨[18], [4], [], []⟩, ⟨[5, 22], [], [6], [6]⟩] mixed (by kernel_rfl) ?_
  refine SeqA.cons (loc [6] [] rfl rfl fun S hs hr => op_move (A := ptrL g6 (Lens.id katom_trace_o1)) rfl rfl (vt ((hs 6 rfl).trans rfl))) ⟨rfl, rfl, rfl, rfl⟩ ?_
  refine SeqA.cons (loc [15] [] rfl rfl fun S hs hr => op_nilCheck rfl rfl (vt ((hs 15 rfl).trans rfl))) ⟨rfl, rfl, rfl, rfl⟩ ?_
  refine SeqA.cons (loc [16] [] rfl rfl fun S hs hr => op_field latom_trace_o1_1 rfl rfl flv63_1_1 (vt ((hs 16 rfl).trans rfl))) ⟨rfl, rfl, rfl, rfl⟩ ?_
  refine SeqA.cons (loc [17] [11] rfl rfl fun S hs hr => op_loadv v8 rfl rfl tyr30 (vt ((hs 17 rfl).trans rfl)) (i := 11) ((hr 11 rfl).trans rfl) rfl) ⟨rfl, rfl, rfl, rfl⟩ ?_
  refine SeqA.cons (loc [6] [] rfl rfl fun S hs hr => op_move (A := ptrL g6 (Lens.id katom_trace_o1)) rfl rfl (vt ((hs 6 rfl).trans rfl))) ⟨rfl, rfl, rfl, rfl⟩ ?_
  refine SeqA.cons (loc [19] [] rfl rfl fun S hs hr => op_nilCheck rfl rfl (vt ((hs 19 rfl).trans rfl))) ⟨rfl, rfl, rfl, rfl⟩ ?_
  refine SeqA.cons (loc [20] [] rfl rfl fun S hs hr => op_field latom_trace_o1_0 rfl rfl flv63_0_1 (vt ((hs 20 rfl).trans rfl))) ⟨rfl, rfl, rfl, rfl⟩ ?_
  refine SeqA.cons (loc [21] [11] rfl rfl fun S hs hr => op_load rfl rfl ty29 (vt ((hs 21 rfl).trans rfl)) (i := 11) ((hr 11 rfl).trans rfl)) ⟨rfl, rfl, rfl, rfl⟩ ?_
  refine SeqA.cons (loc [18] [] rfl rfl fun S hs hr => op_assign (A := raw v8) rfl rfl (vt ((hs 18 rfl).trans rfl))) ⟨rfl, rfl, rfl, rfl⟩ ?_
  refine SeqA.cons (locr [5, 22] [6] rfl fun S hs hr => op_store rfl rfl ty29 (vt ((hs 5 rfl).trans rfl)) (i := 6) ((hr 6 rfl).trans rfl) (vt ((hs 22 rfl).trans rfl))) ⟨rfl, rfl, rfl, rfl⟩ ?_
  refine AW.freezes [4, 18] 2221 rfl ⟨rfl, rfl, trivial⟩ rfl ?_
  refine AW.ret ?_
  obtain rfl := Option.some.inj h
  exact ret2 Try.results6 rfl (out_tmp rfl) (out_cell rfl (i := 6) rfl ty29)
-- weirbox/rewrite.Apply
def F14_l1 : (List Tern) → Nat → (Vector Wide 24) → Option (Vector Wide 24)
  | [], i8, b7 => some b7
  | x10 :: l9, i8, b7 => (chk 24 (i8 : Int)).bind fun j12 => (F31 (Vector.get b7 j12) x10.Mask).bind fun x13 => (F32 x10.Value x10.Mask).bind fun x14 => (F30 x13 x14).bind fun x15 => (chk 24 (i8 : Int)).bind fun j16 => (F14_l1 l9) (i8 + 1) (Vector.set b7 j16.1 x15 j16.2)
def F14 (r1 : (Vector Tern 24)) (h2 : (Vector Wide 24)) : Option (Vector Wide 24) :=
  F14_l1 (Vector.toList r1) 0 h2
theorem c14 (r1 : (Vector Tern 24)) (h2 : (Vector Wide 24)) (r : (Vector Wide 24)) (h : F14 r1 h2 = some r) : PCon Try.prog 14 [rd (karr 24 kTern) r1, rd (karr 24 kWide) h2] (rd (karr 24 kWide) r) := by
  refine PCon.of (Con.intro0 Try.func14 rfl Try.ntmps14 rfl fun w H => ?_)
  unfold F14 at h
  refine AW.seq ?_
  refine AW.region ?_
  refine AOps.consT rfl (op_box 3 rfl rfl (vt rfl)) ?_
  rintro _ ⟨g3, rfl⟩
  refine AOps.consT rfl (op_box 4 rfl rfl (vt rfl)) ?_
  rintro _ ⟨g4, rfl⟩
  refine AOps.consT rfl (op_alloc 5 rfl rfl zr43) ?_
  rintro _ ⟨g5, rfl⟩
  refine AOps.nil ?_
  refine AW.seq ?_
  refine AW.seq ?_
  refine AW.region ?_
  refine AOps.cons (op_load rfl rfl ty29 (vt rfl) (i := 3) rfl) rfl ?_
  refine AOps.cons (op_move (A := rd (kint .i64) 0) rfl rfl (vk rfl)) rfl ?_
  refine AOps.nil ?_
  refine AW.block ?_
  refine AW.loopG (d := []) (ν := (List Tern) × Nat × (Vector Wide 24)) (fun n => Sfx (Vector.toList r1) n.2.1 n.1 ∧ F14_l1 n.1 n.2.1 n.2.2 = some r) (fun n => n.1.length) (fun n => [(3, ptrL g4 (Lens.id (karr 24 kWide))), (4, ptrL g5 (Lens.id (karr 24 kWide))), (7, rd (karr 24 kTern) r1), (8, rd (kint .i64) (n.2.1 : Int))]) (fun n => [(4, Blk g4 43 (karr 24 kWide) n.2.2), (5, Blk g5 43 (karr 24 kWide) (Vector.replicate 24 zWide))]) ((Vector.toList r1), 0, h2) ⟨Sfx.start _, h⟩ ⟨rfl, ⟨rfl, rfl, rfl, rfl, trivial⟩, ⟨rfl, rfl, trivial⟩⟩ ?_
  rintro ⟨l9, i8, b7⟩ ⟨hsf1, h⟩
  change Sfx (Vector.toList r1) i8 l9 at hsf1
  change F14_l1 l9 i8 b7 = some r at h
  change AW _ _ _ ⟨slots [(3, ptrL g4 (Lens.id (karr 24 kWide))), (4, ptrL g5 (Lens.id (karr 24 kWide))), (7, rd (karr 24 kTern) r1), (8, rd (kint .i64) (i8 : Int))], ress [(4, Blk g4 43 (karr 24 kWide) b7), (5, Blk g5 43 (karr 24 kWide) (Vector.replicate 24 zWide))], _⟩
  cases l9 with
  | nil =>
    unfold F14_l1 at h
    refine AW.seq ?_
    refine AW.region ?_
    refine AOps.cons (op_lss rfl rfl (vt rfl) (vk rfl)) rfl ?_
    refine AOps.nil ?_
    refine AW.seq ?_
    refine AW.cond (vt rfl) (fun hc => absurd (of_decide_eq_true hc) (hsf1.niln (by simp))) (fun hc => ?_)
    refine AW.exit ?_
    refine AW.seq ?_
    refine AW.region ?_
    refine AOps.cons (op_load rfl rfl ty43 (vt rfl) (i := 4) rfl) rfl ?_
    refine AOps.cons (op_store rfl rfl ty43 (vt rfl) (i := 5) rfl (vt rfl)) rfl ?_
    refine AOps.nil ?_
    refine AW.ret ?_
    obtain rfl := Option.some.inj h
    exact ret1 Try.results14 rfl (out_cell rfl (i := 5) rfl ty43)
  | cons x10 l9 =>
    unfold F14_l1 at h
    generalize hgo1 : F14_l1 l9 = go1 at h
    refine AW.seq ?_
    refine AW.region ?_
    refine AOps.cons (op_lss rfl rfl (vt rfl) (vk rfl)) rfl ?_
    refine AOps.nil ?_
    refine AW.seq ?_
    refine AW.cond (vt rfl) (fun hc => ?_) (fun hc => absurd (hsf1.consn (by simp)) (of_decide_eq_false hc))
    have hlti8 := of_decide_eq_true hc
    refine AW.skip ?_
    refine AW.seq ?_
    refine AW.block ?_
    refine AW.seq ?_
    refine AW.region ?_
    refine AOps.cons (op_move (A := rd (kint .i64) (i8 : Int)) rfl rfl (vt rfl)) rfl ?_
    refine AOps.cons (op_indexv rfl rfl ar29 ty27 (vt rfl) (vt rfl) hsf1.lget) rfl ?_
    refine AOps.consT rfl (op_alloc 7 rfl rfl zr27) ?_
    rintro _ ⟨g11, rfl⟩
    refine AOps.cons (op_assign (A := rd (kint .i64) (i8 : Int)) rfl rfl (vt rfl)) rfl ?_
    refine AOps.cons (op_store rfl rfl ty27 (vt rfl) (i := 7) rfl (vt rfl)) rfl ?_
    refine AOps.nil ?_
    obtain ⟨j12, hj12, h⟩ := bsome h
    obtain ⟨x13, hx13, h⟩ := bsome h
    obtain ⟨x14, hx14, h⟩ := bsome h
    obtain ⟨x15, hx15, h⟩ := bsome h
    obtain ⟨j16, hj16, h⟩ := bsome h
    refine AW.regionAny [⟨[5], [12], [], []⟩, ⟨[5], [13], [], []⟩, ⟨[3, 13], [14], [], []⟩, ⟨[14], [15], [4], []⟩, ⟨[6], [16], [], []⟩, ⟨[16], [17], [7], []⟩, ⟨[15, 17], [18], [], []⟩, ⟨[6], [19], [], []⟩, ⟨[19], [20], [7], []⟩, ⟨[6], [21], [], []⟩, ⟨[21], [22], [7], []⟩, ⟨[20, 22], [23], [], []⟩, ⟨[18, 23], [24], [], []⟩, ⟨[3, 12], [25], [], []⟩, ⟨[25, 24], [], [4], [4]⟩] mixed (by kernel_rfl) ?_
    refine SeqA.cons (loc [5] [] rfl rfl fun S hs hr => op_move (A := rd (kint .i64) (i8 : Int)) rfl rfl (vt ((hs 5 rfl).trans rfl))) ⟨rfl, rfl, rfl, rfl⟩ ?_
    refine SeqA.cons (loc [5] [] rfl rfl fun S hs hr => op_move (A := rd (kint .i64) (i8 : Int)) rfl rfl (vt ((hs 5 rfl).trans rfl))) ⟨rfl, rfl, rfl, rfl⟩ ?_
    refine SeqA.cons (loc [3, 13] [] rfl rfl fun S hs hr => op_index' rfl rfl ar43 (vt ((hs 3 rfl).trans rfl)) (vt ((hs 13 rfl).trans rfl)) hj12) ⟨rfl, rfl, rfl, rfl⟩ ?_
    refine SeqA.cons (loc [14] [4] rfl rfl fun S hs hr => op_load rfl rfl ty25 (vt ((hs 14 rfl).trans rfl)) (i := 4) ((hr 4 rfl).trans rfl)) ⟨rfl, rfl, rfl, rfl⟩ ?_
    refine SeqA.cons (loc [6] [] rfl rfl fun S hs hr => op_field lTern_1 rfl rfl fl27_1 (vt ((hs 6 rfl).trans rfl))) ⟨rfl, rfl, rfl, rfl⟩ ?_
    refine SeqA.cons (loc [16] [7] rfl rfl fun S hs hr => op_load rfl rfl ty25 (vt ((hs 16 rfl).trans rfl)) (i := 7) ((hr 7 rfl).trans rfl)) ⟨rfl, rfl, rfl, rfl⟩ ?_
    refine SeqA.cons (loc [15, 17] [] rfl rfl fun S hs hr => op_call (xs := [.tmp 15, .tmp 17]) (c31 _ _ _ hx13) (Ent.mk Try.func31 rfl rfl) rfl rfl ⟨vt ((hs 15 rfl).trans rfl), vt ((hs 17 rfl).trans rfl), trivial⟩) ⟨rfl, rfl, rfl, rfl⟩ ?_
    refine SeqA.cons (loc [6] [] rfl rfl fun S hs hr => op_field lTern_0 rfl rfl fl27_0 (vt ((hs 6 rfl).trans rfl))) ⟨rfl, rfl, rfl, rfl⟩ ?_
    refine SeqA.cons (loc [19] [7] rfl rfl fun S hs hr => op_load rfl rfl ty25 (vt ((hs 19 rfl).trans rfl)) (i := 7) ((hr 7 rfl).trans rfl)) ⟨rfl, rfl, rfl, rfl⟩ ?_
    refine SeqA.cons (loc [6] [] rfl rfl fun S hs hr => op_field lTern_1 rfl rfl fl27_1 (vt ((hs 6 rfl).trans rfl))) ⟨rfl, rfl, rfl, rfl⟩ ?_
    refine SeqA.cons (loc [21] [7] rfl rfl fun S hs hr => op_load rfl rfl ty25 (vt ((hs 21 rfl).trans rfl)) (i := 7) ((hr 7 rfl).trans rfl)) ⟨rfl, rfl, rfl, rfl⟩ ?_
    refine SeqA.cons (loc [20, 22] [] rfl rfl fun S hs hr => op_call (xs := [.tmp 20, .tmp 22]) (c32 _ _ _ hx14) (Ent.mk Try.func32 rfl rfl) rfl rfl ⟨vt ((hs 20 rfl).trans rfl), vt ((hs 22 rfl).trans rfl), trivial⟩) ⟨rfl, rfl, rfl, rfl⟩ ?_
    refine SeqA.cons (loc [18, 23] [] rfl rfl fun S hs hr => op_call (xs := [.tmp 18, .tmp 23]) (c30 _ _ _ hx15) (Ent.mk Try.func30 rfl rfl) rfl rfl ⟨vt ((hs 18 rfl).trans rfl), vt ((hs 23 rfl).trans rfl), trivial⟩) ⟨rfl, rfl, rfl, rfl⟩ ?_
    refine SeqA.cons (loc [3, 12] [] rfl rfl fun S hs hr => op_index' rfl rfl ar43 (vt ((hs 3 rfl).trans rfl)) (vt ((hs 12 rfl).trans rfl)) hj16) ⟨rfl, rfl, rfl, rfl⟩ ?_
    refine SeqA.cons (locr [25, 24] [4] rfl fun S hs hr => op_store rfl rfl ty25 (vt ((hs 25 rfl).trans rfl)) (i := 4) ((hr 4 rfl).trans rfl) (vt ((hs 24 rfl).trans rfl))) ⟨rfl, rfl, rfl, rfl⟩ ?_
    refine AW.region ?_
    refine AOps.cons (op_incrc rfl rfl (vt rfl) (vk rfl) rfl hlti8) rfl ?_
    refine AOps.cons (op_move (A := rd (kint .i64) ((i8 + 1 : Nat) : Int)) rfl rfl (vt rfl)) rfl ?_
    refine AOps.nil ?_
    subst hgo1
    exact ⟨(l9, i8 + 1, (Vector.set b7 j16.1 x15 j16.2)), Nat.lt_succ_self _, ⟨hsf1.next, h⟩, ⟨rfl, ⟨rfl, rfl, rfl, rfl, trivial⟩, ⟨rfl, rfl, trivial⟩⟩⟩
-- weirbox/group.place$1
def F90 (g1 : Group) (c2 : Int) : Option Bool :=
  some (decide (g1.ID = c2))
theorem c90 (g1 : Group) (c2 : Int) (r : Bool) (h : F90 g1 c2 = some r) : PCon Try.prog 90 [rd kGroup g1, rp (kint .i64) c2] (rd kbool r) := by
  refine PCon.of (Con.intro0 Try.func90 rfl Try.ntmps90 rfl fun w H => ?_)
  unfold F90 at h
  refine AW.seq ?_
  refine AW.region ?_
  refine AOps.consT rfl (op_box 3 rfl rfl (vt rfl)) ?_
  rintro _ ⟨g3, rfl⟩
  refine AOps.cons (op_assign (A := rd kbool false) rfl rfl vb) rfl ?_
  refine AOps.nil ?_
  refine AW.seq ?_
  refine AW.region ?_
  refine AOps.cons (op_field lGroup_0 rfl rfl fl73_0 (vt rfl)) rfl ?_
  refine AOps.cons (op_load rfl rfl ty3 (vt rfl) (i := 3) rfl) rfl ?_
  refine AOps.cons (op_loadp rfl rfl ty3 (vt rfl)) rfl ?_
  refine AOps.cons (op_eql rfl rfl (vt rfl) (vt rfl)) rfl ?_
  refine AOps.cons (op_assign (A := rd kbool (decide (g1.ID = c2))) rfl rfl (vt rfl)) rfl ?_
  refine AOps.nil ?_
  refine AW.ret ?_
  obtain rfl := Option.some.inj h
  exact ret1 Try.results90 rfl (out_tmp rfl)
-- slices.IndexFunc[[]weirbox/api.Group,weirbox/api.Group]
def F50_l1 (s1 : (List Group)) (f2 : (Group → Option Bool)) : Nat → Nat → Option Int
  | 0, i3 => some (-1)
  | m4 + 1, i3 => (lget s1 (i3 : Int)).bind fun e5 => (f2 e5).bind fun x6 => (bif x6 then some (i3 : Int) else (F50_l1 s1 f2 m4) (i3 + 1))
def F50 (s1 : (List Group)) (f2 : (Group → Option Bool)) : Option Int :=
  F50_l1 s1 f2 ((s1.length : Int) : Int).toNat 0
theorem c50 (s1 : (List Group)) (f2 : (Group → Option Bool)) (r : Int) (h : F50 s1 f2 = some r) : PCon Try.prog 50 [rd (ksl kGroup) s1, fn1 Try.prog kGroup kbool f2] (rd (kint .i64) r) := by
  refine PCon.of (Con.intro0 Try.func50 rfl Try.ntmps50 rfl fun w H => ?_)
  unfold F50 at h
  refine AW.seq ?_
  refine AW.region ?_
  refine AOps.cons (op_assign (A := rd (kint .i64) 0) rfl rfl (vk rfl)) rfl ?_
  refine AOps.nil ?_
  refine AW.seq ?_
  refine AW.seq ?_
  refine AW.region ?_
  refine AOps.cons (op_move (A := rd (ksl kGroup) s1) rfl rfl (vt rfl)) rfl ?_
  refine AOps.cons (op_len' rfl rfl sl38 (vt rfl)) rfl ?_
  refine AOps.cons (op_move (A := rd (kint .i64) 0) rfl rfl (vk rfl)) rfl ?_
  refine AOps.nil ?_
  refine AW.block ?_
  refine AW.loopG (d := []) (ν := Nat × Nat) (fun n => Cnt (s1.length : Int) n.2 n.1 ∧ F50_l1 s1 f2 n.1 n.2 = some r) (fun n => n.1) (fun n => [(0, rd (ksl kGroup) s1), (1, fn1 Try.prog kGroup kbool f2), (7, rd (kint .i64) (s1.length : Int)), (8, rd (kint .i64) (n.2 : Int))]) (fun n => []) (((s1.length : Int) : Int).toNat, 0) ⟨Cnt.start _, h⟩ ⟨rfl, ⟨rfl, rfl, rfl, rfl, trivial⟩, trivial⟩ ?_
  rintro ⟨m4, i3⟩ ⟨hsf1, h⟩
  change Cnt (s1.length : Int) i3 m4 at hsf1
  change F50_l1 s1 f2 m4 i3 = some r at h
  change AW _ _ _ ⟨slots [(0, rd (ksl kGroup) s1), (1, fn1 Try.prog kGroup kbool f2), (7, rd (kint .i64) (s1.length : Int)), (8, rd (kint .i64) (i3 : Int))], ress [], _⟩
  cases m4 with
  | zero =>
    unfold F50_l1 at h
    refine AW.seq ?_
    refine AW.region ?_
    refine AOps.cons (op_lss rfl rfl (vt rfl) (vt rfl)) rfl ?_
    refine AOps.nil ?_
    refine AW.seq ?_
    refine AW.cond (vt rfl) (fun hc => absurd (of_decide_eq_true hc) hsf1.zero) (fun hc => ?_)
    refine AW.exit ?_
    refine AW.seq ?_
    refine AW.region ?_
    refine AOps.cons (op_assign (A := rd (kint .i64) (-1)) rfl rfl (vk rfl)) rfl ?_
    refine AOps.nil ?_
    refine AW.ret ?_
    obtain rfl := Option.some.inj h
    exact ret1 Try.results50 rfl (out_tmp rfl)
  | succ m4 =>
    unfold F50_l1 at h
    generalize hgo1 : F50_l1 s1 f2 m4 = go1 at h
    refine AW.seq ?_
    refine AW.region ?_
    refine AOps.cons (op_lss rfl rfl (vt rfl) (vt rfl)) rfl ?_
    refine AOps.nil ?_
    refine AW.seq ?_
    refine AW.cond (vt rfl) (fun hc => ?_) (fun hc => absurd hsf1.succ (of_decide_eq_false hc))
    have hlti3 := of_decide_eq_true hc
    refine AW.skip ?_
    refine AW.seq ?_
    refine AW.block ?_
    refine AW.seq ?_
    refine AW.region ?_
    refine AOps.cons (op_move (A := rd (kint .i64) (i3 : Int)) rfl rfl (vt rfl)) rfl ?_
    refine AOps.cons (op_assign (A := rd (kint .i64) (i3 : Int)) rfl rfl (vt rfl)) rfl ?_
    refine AOps.nil ?_
    refine AW.seq ?_
    obtain ⟨e5, he5, h⟩ := bsome h
    obtain ⟨x6, hx6, h⟩ := bsome h
    refine AW.region ?_
    refine AOps.cons (op_move (A := fn1 Try.prog kGroup kbool f2) rfl rfl (vt rfl)) rfl ?_
    refine AOps.cons (op_move (A := rd (ksl kGroup) s1) rfl rfl (vt rfl)) rfl ?_
    refine AOps.cons (op_move (A := rd (kint .i64) (i3 : Int)) rfl rfl (vt rfl)) rfl ?_
    refine AOps.cons (op_indexs' rfl rfl sl38 (vt rfl) (vt rfl) he5) rfl ?_
    refine AOps.cons (op_loadp rfl rfl ty73 (vt rfl)) rfl ?_
    refine AOps.cons (op_call1 hx6 rfl rfl (vt rfl) (vt rfl)) rfl ?_
    refine AOps.nil ?_
    refine AW.cond (vt rfl) (fun hc => ?_) (fun hc => ?_)
    · have h := cond_t hc h
      refine AW.seq ?_
      refine AW.region ?_
      refine AOps.cons (op_move (A := rd (kint .i64) (i3 : Int)) rfl rfl (vt rfl)) rfl ?_
      refine AOps.cons (op_assign (A := rd (kint .i64) (i3 : Int)) rfl rfl (vt rfl)) rfl ?_
      refine AOps.nil ?_
      refine AW.ret ?_
      obtain rfl := Option.some.inj h
      exact ret1 Try.results50 rfl (out_tmp rfl)
    · have h := cond_f hc h
      refine AW.skip ?_
      refine AW.region ?_
      refine AOps.cons (op_incr (t := 7) rfl rfl (vt rfl) (vk rfl) (vt rfl) hlti3) rfl ?_
      refine AOps.cons (op_move (A := rd (kint .i64) ((i3 + 1 : Nat) : Int)) rfl rfl (vt rfl)) rfl ?_
      refine AOps.nil ?_
      subst hgo1
      exact ⟨(m4, i3 + 1), Nat.lt_succ_self _, ⟨hsf1.next, h⟩, ⟨rfl, ⟨rfl, rfl, rfl, rfl, trivial⟩, trivial⟩⟩
end Go.Proofs.Ytokmmcflinnfiab.W
