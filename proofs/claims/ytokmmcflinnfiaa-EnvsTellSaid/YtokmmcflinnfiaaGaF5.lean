/- GaF5: a part of the proof. -/
import Derived.Test.YtokmmcflinnfiaaGaF4
set_option linter.unusedVariables false
set_option linter.unusedSimpArgs false
namespace Go.Proofs.Ytokmmcflinnfiaa.W
open Go Go.Wb
-- weirbox/weirboxlaw40.all
def F31_b1 (l4 : (List Env)) (x5 : Env) : Option (Lp (List Env)) :=
  (appd l4 [x5]).bind fun l9 => some (.go l9)
def F31 (l1 : (List Group)) : Option (List Env) :=
  (F22 l1).bind fun x3 => ((Itr.run x3 (List Env) (F31_b1) (.go [])).bind lpGo).bind fun l6 => some l6
theorem c31 (l1 : (List Group)) (r : (List Env)) (h : F31 l1 = some r) : PCon Try.prog 31 [rd (ksl kGroup) l1] (rd (ksl kEnv) r) := by
  refine PCon.of (Con.intro0 Try.func31 rfl Try.ntmps31 rfl fun w H => ?_)
  unfold F31 at h
  refine AW.seq ?_
  refine AW.region ?_
  refine AOps.cons (op_assign (A := rd (ksl kEnv) []) rfl rfl vnil) rfl ?_
  refine AOps.nil ?_
  refine AW.seq ?_
  refine AW.newnil 2099 31 kEnv ?_
  refine AW.region ?_
  refine AOps.consT rfl (op_alloc 4 rfl rfl zrr26) ?_
  rintro _ ⟨g2, rfl⟩
  refine AOps.nil ?_
  refine AW.seq ?_
  refine AW.seq ?_
  obtain ⟨x3, hx3, h⟩ := bsome h
  refine AW.region ?_
  refine AOps.cons (op_move (A := rd (ksl kGroup) l1) rfl rfl (vt rfl)) rfl ?_
  refine AOps.cons (op_call (xs := [.tmp 5]) (c22 _ _ hx3) (Ent.mk Try.func22 rfl rfl) rfl rfl ⟨vt rfl, trivial⟩) rfl ?_
  refine AOps.nil ?_
  refine AW.block ?_
  obtain ⟨l6, hl6, h⟩ := bsome h
  have hl6 := lpgo_of hl6
  refine AW.packF 4 2099 (fun v => v) (by decide) rfl rfl ?_
  refine AW.fit (d := []) (L := [(3, ptrL g2 (Lens.id kraw)), (6, seqA Try.prog kEnv x3)]) (M := (4, BoxF g2 26 kraw (fun v => v) 31 kEnv []) :: []) ⟨rfl, ⟨rfl, rfl, trivial⟩, ⟨rfl, trivial⟩⟩ ?_
  refine AW.rangeFunc (fun x => [rd kEnv x]) (F31_b1) (fun s => ress ((4, BoxF g2 26 kraw (fun v => v) 31 kEnv s) :: [])) (fun _ _ => ress []) [(3, ptrL g2 (Lens.id kraw))] (fun l4 x5 S1 => ∃ (g7 : Nat), Fit S1 [] [(3, ptrL g2 (Lens.id kraw)), (4, ptrL g7 (Lens.id kEnv))] [(4, BoxF g2 26 kraw (fun v => v) 31 kEnv l4), (5, Blk g7 31 kEnv x5)]) 3001 (s0 := []) (sE := .go l6) rfl (vt rfl) ⟨rfl, inferInstance, trivial⟩ rfl (fun _ => rfl) (by intro p hp; have hp : p ∈ [7] := hp; rw [List.mem_singleton.1 hp]; show 7 < 13; decide) ?ha ?hb (fun Lf => ⟨top, _, _, Lf, _, _, hl6, rfl, rfl, rfl, rfl⟩) ?he
  case ha =>
    intro l4 x5 r hF l w H X
    refine AW.region ?_
    refine AOps.consT rfl (op_alloc 5 rfl rfl zr31) ?_
    rintro _ ⟨g7, rfl⟩
    refine AOps.cons (op_store rfl rfl ty31 (vt rfl) (i := 5) rfl (vt rfl)) rfl ?_
    refine AOps.nil ?_
    exact ⟨rfl, g7, rfl, ⟨rfl, rfl, trivial⟩, ⟨rfl, rfl, trivial⟩⟩
  case hb =>
    rintro l4 x5 r h S1 ⟨g7, hfit⟩ l w H X
    refine AW.fit hfit ?_
    refine AW.bodyP (i := 4) (j := 2099) (M := []) (by decide) rfl ?_
    unfold F31_b1 at h
    refine AW.unboxF 4 2099 (by decide) rfl rfl fun v8 => ?_
    refine AW.block ?_
    obtain ⟨l9, hl9, h⟩ := bsome h
    refine AW.region ?_
    refine AOps.cons (op_loadv v8 rfl rfl tyr26 (vt rfl) (i := 4) rfl rfl) rfl ?_
    refine AOps.cons (op_load rfl rfl ty31 (vt rfl) (i := 5) rfl) rfl ?_
    refine AOps.cons (op_buildSliceR (ps := [(0, .tmp 9)]) (l := [x5]) rfl rfl sl26 zr31 rfl rfl ⟨_, _, Lens.idx 1 kEnv 0 (by decide), _, rfl, (vt rfl), rfl⟩ rfl) rfl ?_
    refine AOps.consT rfl (op_append' 2099 hl9 rfl rfl el26 (vt rfl) rfl (vt rfl)) ?_
    rintro _ ⟨v10, rfl⟩
    refine AOps.cons (op_store rfl rfl tyr26 (vt rfl) (i := 4) rfl (vrow (i := 2099) rfl rfl)) rfl ?_
    refine AOps.nil ?_
    obtain rfl := Option.some.inj h
    exact ⟨_, _, rfl, rfl, rfl, trivial⟩
  case he =>
    intro D
    refine AW.unboxF 4 2099 (by decide) rfl rfl fun v11 => ?_
    refine AW.seq ?_
    refine AW.region ?_
    refine AOps.cons (op_loadv v11 rfl rfl tyr26 (vt rfl) (i := 4) rfl rfl) rfl ?_
    refine AOps.cons (op_assign (A := raw v11) rfl rfl (vt rfl)) rfl ?_
    refine AOps.nil ?_
    refine AW.freezes [2, 12] 2099 rfl ⟨rfl, rfl, trivial⟩ rfl ?_
    refine AW.ret ?_
    obtain rfl := Option.some.inj h
    exact ⟨rfl, 3001, rfl, ret1 Try.results31 rfl (out_tmp rfl)⟩
-- weirbox/weirboxlaw40.EnvsTell
def F4 (l1 : (List Group)) (e2 : Env) : Option Bool :=
  (F13).bind fun x4 => (opt (!(((!x4) || (decide ((l1.length : Int) > 40))) || (decide ((e2.Down.length : Int) > 40)))) (F20 l1 F21)).bind fun x5 => (opt (!((((!x4) || (decide ((l1.length : Int) > 40))) || (decide ((e2.Down.length : Int) > 40))) || x5)) (F22 l1)).bind fun x6 => (bif (((((!x4) || (decide ((l1.length : Int) > 40))) || (decide ((e2.Down.length : Int) > 40))) || x5) || false) then (F13).bind fun x7 => (opt x7 (F22 l1)).bind fun x8 => some (x7 && true) else (F23 l1).bind fun x9 => (F25 l1).bind fun x10 => (F26 l1).bind fun x11 => (F24 x10 x11).bind fun x12 => (opt (!(!x12)) (F27 l1)).bind fun x13 => (opt (!(!x12)) (F28 l1)).bind fun x14 => (opt (!((!x12) || (decide (x13 ≠ x14)))) (F16 e2 l1)).bind fun x15 => (opt (!((!x12) || (decide (x13 ≠ x14)))) (F29 e2 l1)).bind fun x16 => (opt (!((!x12) || (decide (x13 ≠ x14)))) (F15 x15 x16)).bind fun x17 => (bif (((!x12) || (decide (x13 ≠ x14))) || (!x17)) then some false else (F14 l1).bind fun x18 => (F30 x18 x9 F15).bind fun x19 => (opt x19 (F31 l1)).bind fun x20 => (opt x19 (F30 x20 x9 F15)).bind fun x21 => some (x19 && x21)))
theorem c4 (l1 : (List Group)) (e2 : Env) (r : Bool) (h : F4 l1 e2 = some r) : PCon Try.prog 4 [rd (ksl kGroup) l1, rd kEnv e2] (rd kbool r) := by
  refine PCon.of (Con.intro0 Try.func4 rfl Try.ntmps4 rfl fun w H => ?_)
  unfold F4 at h
  refine AW.seq ?_
  refine AW.region ?_
  refine AOps.consT rfl (op_box 4 rfl rfl (vt rfl)) ?_
  rintro _ ⟨g3, rfl⟩
  refine AOps.cons (op_assign (A := rd kbool false) rfl rfl vb) rfl ?_
  refine AOps.nil ?_
  refine AW.seq ?_
  refine AW.seq ?_
  obtain ⟨x4, hx4, h⟩ := bsome h
  obtain ⟨x5, hx5, h⟩ := bsome h
  obtain ⟨x6, hx6, h⟩ := bsome h
  refine AW.region ?_
  refine AOps.cons (op_call (xs := []) (c13 _ hx4) (Ent.mk Try.func13 rfl rfl) rfl rfl trivial) rfl ?_
  refine AOps.cons (op_not rfl rfl (vt rfl)) rfl ?_
  refine AOps.cons (op_move (A := rd kbool (!x4)) rfl rfl (vt rfl)) rfl ?_
  refine AOps.consG (OpG.guard rfl rfl rfl rfl rfl fun hq => op_move (A := rd (ksl kGroup) l1) rfl rfl (vt rfl)) ?_
  refine AOps.consG (OpG.guard rfl rfl rfl rfl rfl fun hq => op_len' rfl rfl sl22 (vgt rfl hq)) ?_
  refine AOps.consG (OpG.guard rfl rfl rfl rfl rfl fun hq => op_gtr rfl rfl (vgt rfl hq) (vk rfl)) ?_
  refine AOps.cons (op_any rfl rfl (vt rfl) (vt rfl)) rfl ?_
  refine AOps.cons (op_move (A := rd kbool ((!x4) || (decide ((l1.length : Int) > 40)))) rfl rfl (vt rfl)) rfl ?_
  refine AOps.consG (OpG.guard rfl rfl rfl rfl rfl fun hq => op_field lEnv_1 rfl rfl fl31_1 (vt rfl)) ?_
  refine AOps.consG (OpG.guard rfl rfl rfl rfl rfl fun hq => op_load rfl rfl ty29 (vgt rfl hq) (i := 4) rfl) ?_
  refine AOps.consG (OpG.guard rfl rfl rfl rfl rfl fun hq => op_len' rfl rfl sl29 (vgt rfl hq)) ?_
  refine AOps.consG (OpG.guard rfl rfl rfl rfl rfl fun hq => op_gtr rfl rfl (vgt rfl hq) (vk rfl)) ?_
  refine AOps.cons (op_any rfl rfl (vt rfl) (vt rfl)) rfl ?_
  refine AOps.cons (op_move (A := rd kbool (((!x4) || (decide ((l1.length : Int) > 40))) || (decide ((e2.Down.length : Int) > 40)))) rfl rfl (vt rfl)) rfl ?_
  refine AOps.consG (OpG.guard rfl rfl rfl rfl rfl fun hq => op_move (A := rd (ksl kGroup) l1) rfl rfl (vt rfl)) ?_
  refine AOps.consG (OpG.guard rfl rfl rfl rfl rfl fun hq => op_call (xs := [.tmp 20, .func 21]) (c20 _ _ _ (opt_f hx5 hq)) (Ent.mk Try.func20 rfl rfl) rfl rfl ⟨vgt rfl hq, vf1 (Ent.mk Try.func21 rfl rfl) c21, trivial⟩) ?_
  refine AOps.cons (op_any rfl rfl (vt rfl) (vt rfl)) rfl ?_
  refine AOps.cons (op_move (A := rd kbool ((((!x4) || (decide ((l1.length : Int) > 40))) || (decide ((e2.Down.length : Int) > 40))) || x5)) rfl rfl (vt rfl)) rfl ?_
  refine AOps.consG (OpG.guard rfl rfl rfl rfl rfl fun hq => op_move (A := rd (ksl kGroup) l1) rfl rfl (vt rfl)) ?_
  refine AOps.consG (OpG.guard rfl rfl rfl rfl rfl fun hq => op_call (xs := [.tmp 24]) (c22 _ _ (opt_f hx6 hq)) (Ent.mk Try.func22 rfl rfl) rfl rfl ⟨vgt rfl hq, trivial⟩) ?_
  refine AOps.consG (OpG.guard rfl rfl rfl rfl rfl fun hq => op_eqlseq rfl rfl uf43 (vgt rfl hq)) ?_
  refine AOps.cons (op_any rfl rfl (vt rfl) (vt rfl)) rfl ?_
  refine AOps.nil ?_
  refine AW.cond (vt rfl) (fun hc => ?_) (fun hc => ?_)
  · have h := cond_t hc h
    refine AW.seq ?_
    obtain ⟨x7, hx7, h⟩ := bsome h
    obtain ⟨x8, hx8, h⟩ := bsome h
    refine AW.region ?_
    refine AOps.cons (op_call (xs := []) (c13 _ hx7) (Ent.mk Try.func13 rfl rfl) rfl rfl trivial) rfl ?_
    refine AOps.cons (op_move (A := rd kbool x7) rfl rfl (vt rfl)) rfl ?_
    refine AOps.consG (OpG.guard rfl rfl rfl rfl rfl fun hq => op_move (A := rd (ksl kGroup) l1) rfl rfl (vt rfl)) ?_
    refine AOps.consG (OpG.guard rfl rfl rfl rfl rfl fun hq => op_call (xs := [.tmp 30]) (c22 _ _ (opt_t hx8 hq)) (Ent.mk Try.func22 rfl rfl) rfl rfl ⟨vgt rfl hq, trivial⟩) ?_
    refine AOps.consG (OpG.guard rfl rfl rfl rfl rfl fun hq => op_neqseq rfl rfl uf43 (vgt rfl hq)) ?_
    refine AOps.cons (op_all rfl rfl (vt rfl) (vt rfl)) rfl ?_
    refine AOps.cons (op_assign (A := rd kbool (x7 && true)) rfl rfl (vt rfl)) rfl ?_
    refine AOps.nil ?_
    refine AW.ret ?_
    obtain rfl := Option.some.inj h
    exact ret1 Try.results4 rfl (out_tmp rfl)
  · have h := cond_f hc h
    refine AW.skip ?_
    refine AW.seq ?_
    obtain ⟨x9, hx9, h⟩ := bsome h
    refine AW.region ?_
    refine AOps.cons (op_move (A := rd (ksl kGroup) l1) rfl rfl (vt rfl)) rfl ?_
    refine AOps.cons (op_call (xs := [.tmp 34]) (c23 _ _ hx9) (Ent.mk Try.func23 rfl rfl) rfl rfl ⟨vt rfl, trivial⟩) rfl ?_
    refine AOps.cons (op_assign (A := rd (ksl kEnv) x9) rfl rfl (vt rfl)) rfl ?_
    refine AOps.nil ?_
    refine AW.seq ?_
    refine AW.seq ?_
    obtain ⟨x10, hx10, h⟩ := bsome h
    obtain ⟨x11, hx11, h⟩ := bsome h
    obtain ⟨x12, hx12, h⟩ := bsome h
    obtain ⟨x13, hx13, h⟩ := bsome h
    obtain ⟨x14, hx14, h⟩ := bsome h
    obtain ⟨x15, hx15, h⟩ := bsome h
    obtain ⟨x16, hx16, h⟩ := bsome h
    obtain ⟨x17, hx17, h⟩ := bsome h
    refine AW.regionAny [⟨[0], [36], [], []⟩, ⟨[36], [37], [], []⟩, ⟨[0], [38], [], []⟩, ⟨[38], [39], [], []⟩, ⟨[37, 39], [40], [], []⟩, ⟨[40], [41], [], []⟩, ⟨[41], [42], [], []⟩, ⟨[0, 42], [43], [], []⟩, ⟨[43, 42], [44], [], []⟩, ⟨[0, 42], [45], [], []⟩, ⟨[45, 42], [46], [], []⟩, ⟨[44, 46, 42], [47], [], []⟩, ⟨[47, 42], [48], [], []⟩, ⟨[48], [49], [], []⟩, ⟨[3, 49], [50], [4], []⟩, ⟨[0, 49], [51], [], []⟩, ⟨[50, 51, 49], [52], [], []⟩, ⟨[3, 49], [53], [4], []⟩, ⟨[0, 49], [54], [], []⟩, ⟨[53, 54, 49], [55], [], []⟩, ⟨[52, 55, 49], [56], [], []⟩, ⟨[56, 49], [57], [], []⟩, ⟨[57, 49], [58], [], []⟩] mixed (by kernel_rfl) ?_
    refine SeqA.cons (loc [0] [] rfl rfl fun S hs hr => op_move (A := rd (ksl kGroup) l1) rfl rfl (vt ((hs 0 rfl).trans rfl))) ⟨rfl, rfl, rfl, rfl⟩ ?_
    refine SeqA.cons (loc [36] [] rfl rfl fun S hs hr => op_call (xs := [.tmp 36]) (c25 _ _ hx10) (Ent.mk Try.func25 rfl rfl) rfl rfl ⟨vt ((hs 36 rfl).trans rfl), trivial⟩) ⟨rfl, rfl, rfl, rfl⟩ ?_
    refine SeqA.cons (loc [0] [] rfl rfl fun S hs hr => op_move (A := rd (ksl kGroup) l1) rfl rfl (vt ((hs 0 rfl).trans rfl))) ⟨rfl, rfl, rfl, rfl⟩ ?_
    refine SeqA.cons (loc [38] [] rfl rfl fun S hs hr => op_call (xs := [.tmp 38]) (c26 _ _ hx11) (Ent.mk Try.func26 rfl rfl) rfl rfl ⟨vt ((hs 38 rfl).trans rfl), trivial⟩) ⟨rfl, rfl, rfl, rfl⟩ ?_
    refine SeqA.cons (loc [37, 39] [] rfl rfl fun S hs hr => op_call (xs := [.tmp 37, .tmp 39]) (c24 _ _ _ hx12) (Ent.mk Try.func24 rfl rfl) rfl rfl ⟨vt ((hs 37 rfl).trans rfl), vt ((hs 39 rfl).trans rfl), trivial⟩) ⟨rfl, rfl, rfl, rfl⟩ ?_
    refine SeqA.cons (loc [40] [] rfl rfl fun S hs hr => op_not rfl rfl (vt ((hs 40 rfl).trans rfl))) ⟨rfl, rfl, rfl, rfl⟩ ?_
    refine SeqA.cons (loc [41] [] rfl rfl fun S hs hr => op_move (A := rd kbool (!x12)) rfl rfl (vt ((hs 41 rfl).trans rfl))) ⟨rfl, rfl, rfl, rfl⟩ ?_
    refine SeqA.cons (locg [0, 42] [] rfl rfl rfl rfl rfl rfl rfl fun hq S hs hr => op_move (A := rd (ksl kGroup) l1) rfl rfl (vt ((hs 0 rfl).trans rfl))) ⟨rfl, rfl, rfl, rfl⟩ ?_
    refine SeqA.cons (locg [43, 42] [] rfl rfl rfl rfl rfl rfl rfl fun hq S hs hr => op_call (xs := [.tmp 43]) (c27 _ _ (opt_f hx13 hq)) (Ent.mk Try.func27 rfl rfl) rfl rfl ⟨vgt ((hs 43 rfl).trans rfl) hq, trivial⟩) ⟨rfl, rfl, rfl, rfl⟩ ?_
    refine SeqA.cons (locg [0, 42] [] rfl rfl rfl rfl rfl rfl rfl fun hq S hs hr => op_move (A := rd (ksl kGroup) l1) rfl rfl (vt ((hs 0 rfl).trans rfl))) ⟨rfl, rfl, rfl, rfl⟩ ?_
    refine SeqA.cons (locg [45, 42] [] rfl rfl rfl rfl rfl rfl rfl fun hq S hs hr => op_call (xs := [.tmp 45]) (c28 _ _ (opt_f hx14 hq)) (Ent.mk Try.func28 rfl rfl) rfl rfl ⟨vgt ((hs 45 rfl).trans rfl) hq, trivial⟩) ⟨rfl, rfl, rfl, rfl⟩ ?_
    refine SeqA.cons (locg [44, 46, 42] [] rfl rfl rfl rfl rfl rfl rfl fun hq S hs hr => op_neq rfl rfl (vgt ((hs 44 rfl).trans rfl) hq) (vgt ((hs 46 rfl).trans rfl) hq)) ⟨rfl, rfl, rfl, rfl⟩ ?_
    refine SeqA.cons (loc [47, 42] [] rfl rfl fun S hs hr => op_any rfl rfl (vt ((hs 42 rfl).trans rfl)) (vt ((hs 47 rfl).trans rfl))) ⟨rfl, rfl, rfl, rfl⟩ ?_
    refine SeqA.cons (loc [48] [] rfl rfl fun S hs hr => op_move (A := rd kbool ((!x12) || (decide (x13 ≠ x14)))) rfl rfl (vt ((hs 48 rfl).trans rfl))) ⟨rfl, rfl, rfl, rfl⟩ ?_
    refine SeqA.cons (locg [3, 49] [4] rfl rfl rfl rfl rfl rfl rfl fun hq S hs hr => op_load rfl rfl ty31 (vt ((hs 3 rfl).trans rfl)) (i := 4) ((hr 4 rfl).trans rfl)) ⟨rfl, rfl, rfl, rfl⟩ ?_
    refine SeqA.cons (locg [0, 49] [] rfl rfl rfl rfl rfl rfl rfl fun hq S hs hr => op_move (A := rd (ksl kGroup) l1) rfl rfl (vt ((hs 0 rfl).trans rfl))) ⟨rfl, rfl, rfl, rfl⟩ ?_
    refine SeqA.cons (locg [50, 51, 49] [] rfl rfl rfl rfl rfl rfl rfl fun hq S hs hr => op_call (xs := [.tmp 50, .tmp 51]) (c16 _ _ _ (opt_f hx15 hq)) (Ent.mk Try.func16 rfl rfl) rfl rfl ⟨vgt ((hs 50 rfl).trans rfl) hq, vgt ((hs 51 rfl).trans rfl) hq, trivial⟩) ⟨rfl, rfl, rfl, rfl⟩ ?_
    refine SeqA.cons (locg [3, 49] [4] rfl rfl rfl rfl rfl rfl rfl fun hq S hs hr => op_load rfl rfl ty31 (vt ((hs 3 rfl).trans rfl)) (i := 4) ((hr 4 rfl).trans rfl)) ⟨rfl, rfl, rfl, rfl⟩ ?_
    refine SeqA.cons (locg [0, 49] [] rfl rfl rfl rfl rfl rfl rfl fun hq S hs hr => op_move (A := rd (ksl kGroup) l1) rfl rfl (vt ((hs 0 rfl).trans rfl))) ⟨rfl, rfl, rfl, rfl⟩ ?_
    refine SeqA.cons (locg [53, 54, 49] [] rfl rfl rfl rfl rfl rfl rfl fun hq S hs hr => op_call (xs := [.tmp 53, .tmp 54]) (c29 _ _ _ (opt_f hx16 hq)) (Ent.mk Try.func29 rfl rfl) rfl rfl ⟨vgt ((hs 53 rfl).trans rfl) hq, vgt ((hs 54 rfl).trans rfl) hq, trivial⟩) ⟨rfl, rfl, rfl, rfl⟩ ?_
    refine SeqA.cons (locg [52, 55, 49] [] rfl rfl rfl rfl rfl rfl rfl fun hq S hs hr => op_call (xs := [.tmp 52, .tmp 55]) (c15 _ _ _ (opt_f hx17 hq)) (Ent.mk Try.func15 rfl rfl) rfl rfl ⟨vgt ((hs 52 rfl).trans rfl) hq, vgt ((hs 55 rfl).trans rfl) hq, trivial⟩) ⟨rfl, rfl, rfl, rfl⟩ ?_
    refine SeqA.cons (locg [56, 49] [] rfl rfl rfl rfl rfl rfl rfl fun hq S hs hr => op_not rfl rfl (vgt ((hs 56 rfl).trans rfl) hq)) ⟨rfl, rfl, rfl, rfl⟩ ?_
    refine SeqA.cons (loc [57, 49] [] rfl rfl fun S hs hr => op_any rfl rfl (vt ((hs 49 rfl).trans rfl)) (vt ((hs 57 rfl).trans rfl))) ⟨rfl, rfl, rfl, rfl⟩ ?_
    refine AW.cond (vt rfl) (fun hc => ?_) (fun hc => ?_)
    · have h := cond_t hc h
      refine AW.seq ?_
      refine AW.region ?_
      refine AOps.cons (op_assign (A := rd kbool false) rfl rfl vb) rfl ?_
      refine AOps.nil ?_
      refine AW.ret ?_
      obtain rfl := Option.some.inj h
      exact ret1 Try.results4 rfl (out_tmp rfl)
    · have h := cond_f hc h
      refine AW.skip ?_
      refine AW.seq ?_
      obtain ⟨x18, hx18, h⟩ := bsome h
      obtain ⟨x19, hx19, h⟩ := bsome h
      obtain ⟨x20, hx20, h⟩ := bsome h
      obtain ⟨x21, hx21, h⟩ := bsome h
      refine AW.region ?_
      refine AOps.cons (op_move (A := rd (ksl kGroup) l1) rfl rfl (vt rfl)) rfl ?_
      refine AOps.cons (op_call (xs := [.tmp 59]) (c14 _ _ hx18) (Ent.mk Try.func14 rfl rfl) rfl rfl ⟨vt rfl, trivial⟩) rfl ?_
      refine AOps.cons (op_move (A := rd (ksl kEnv) x9) rfl rfl (vt rfl)) rfl ?_
      refine AOps.cons (op_call (xs := [.tmp 60, .tmp 61, .func 15]) (c30 _ _ _ _ hx19) (Ent.mk Try.func30 rfl rfl) rfl rfl ⟨vt rfl, vt rfl, vf2 (Ent.mk Try.func15 rfl rfl) c15, trivial⟩) rfl ?_
      refine AOps.cons (op_move (A := rd kbool x19) rfl rfl (vt rfl)) rfl ?_
      refine AOps.consG (OpG.guard rfl rfl rfl rfl rfl fun hq => op_move (A := rd (ksl kGroup) l1) rfl rfl (vt rfl)) ?_
      refine AOps.consG (OpG.guard rfl rfl rfl rfl rfl fun hq => op_call (xs := [.tmp 64]) (c31 _ _ (opt_t hx20 hq)) (Ent.mk Try.func31 rfl rfl) rfl rfl ⟨vgt rfl hq, trivial⟩) ?_
      refine AOps.consG (OpG.guard rfl rfl rfl rfl rfl fun hq => op_move (A := rd (ksl kEnv) x9) rfl rfl (vt rfl)) ?_
      refine AOps.consG (OpG.guard rfl rfl rfl rfl rfl fun hq => op_call (xs := [.tmp 65, .tmp 66, .func 15]) (c30 _ _ _ _ (opt_t hx21 hq)) (Ent.mk Try.func30 rfl rfl) rfl rfl ⟨vgt rfl hq, vgt rfl hq, vf2 (Ent.mk Try.func15 rfl rfl) c15, trivial⟩) ?_
      refine AOps.cons (op_all rfl rfl (vt rfl) (vt rfl)) rfl ?_
      refine AOps.cons (op_assign (A := rd kbool (x19 && x21)) rfl rfl (vt rfl)) rfl ?_
      refine AOps.nil ?_
      refine AW.ret ?_
      obtain rfl := Option.some.inj h
      exact ret1 Try.results4 rfl (out_tmp rfl)
end Go.Proofs.Ytokmmcflinnfiaa.W
