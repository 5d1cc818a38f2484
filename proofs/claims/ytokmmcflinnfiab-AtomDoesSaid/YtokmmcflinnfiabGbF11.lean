/- GbF11: a part of the proof. -/
import Derived.Test.YtokmmcflinnfiabGbF10
set_option linter.unusedVariables false
set_option maxRecDepth 4000
set_option linter.unusedSimpArgs false
namespace Go.Proofs.Ytokmmcflinnfiab.W
open Go Go.Wb
-- weirbox/exec.Same
def F15 (a1 : (List Out)) (b2 : (List Out)) : Option Bool :=
  (F33 a1 b2).bind fun x3 => some x3
theorem c15 (a1 : (List Out)) (b2 : (List Out)) (r : Bool) (h : F15 a1 b2 = some r) : PCon Try.prog 15 [rd (ksl kOut) a1, rd (ksl kOut) b2] (rd kbool r) := by
  refine PCon.of (Con.intro0 Try.func15 rfl Try.ntmps15 rfl fun w H => ?_)
  unfold F15 at h
  refine AW.seq ?_
  refine AW.region ?_
  refine AOps.cons (op_assign (A := rd kbool false) rfl rfl vb) rfl ?_
  refine AOps.nil ?_
  refine AW.seq ?_
  obtain ⟨x3, hx3, h⟩ := bsome h
  refine AW.region ?_
  refine AOps.cons (op_move (A := rd (ksl kOut) a1) rfl rfl (vt rfl)) rfl ?_
  refine AOps.cons (op_move (A := rd (ksl kOut) b2) rfl rfl (vt rfl)) rfl ?_
  refine AOps.cons (op_call (xs := [.tmp 5, .tmp 6]) (c33 _ _ _ hx3) (Ent.mk Try.func33 rfl rfl) rfl rfl ⟨vt rfl, vt rfl, trivial⟩) rfl ?_
  refine AOps.cons (op_assign (A := rd kbool x3) rfl rfl (vt rfl)) rfl ?_
  refine AOps.nil ?_
  refine AW.ret ?_
  obtain rfl := Option.some.inj h
  exact ret1 Try.results15 rfl (out_tmp rfl)
-- weirbox/weirboxlaw32.AtomExec
def F4 (l1 : (List Group)) (e2 : Env) (acts3 : (List Action)) (r4 : (Vector Tern 24)) (h5 : (Vector Wide 24)) : Option Bool :=
  (F11 l1 9 3).bind fun x9 => (opt (!(!x9)) (F12 acts3)).bind fun x10 => (bif (((!x9) || (!x10)) || (decide ((e2.Down.length : Int) > 20))) then (F5).bind fun x11 => some x11 else (F6 acts3 r4).bind fun x12 => (F14 r4 h5).bind fun x14 => (F13 l1 e2 acts3 x14).bind fun x15 => (F16 l1 e2 x12.1 h5).bind fun x17 => (F15 x17 x15.1).bind fun x18 => (opt x18 (F14 x12.2 h5)).bind fun x19 => (opt (x18 && (decide (x19 = x15.2))) (F5)).bind fun x20 => some ((x18 && (decide (x19 = x15.2))) && x20))
theorem c4 (l1 : (List Group)) (e2 : Env) (acts3 : (List Action)) (r4 : (Vector Tern 24)) (h5 : (Vector Wide 24)) (r : Bool) (h : F4 l1 e2 acts3 r4 h5 = some r) : PCon Try.prog 4 [rd (ksl kGroup) l1, rd kEnv e2, rd (ksl kAction) acts3, rd (karr 24 kTern) r4, rd (karr 24 kWide) h5] (rd kbool r) := by
  refine PCon.of (Con.intro0 Try.func4 rfl Try.ntmps4 rfl fun w H => ?_)
  unfold F4 at h
  refine AW.seq ?_
  refine AW.region ?_
  refine AOps.consT rfl (op_box 7 rfl rfl (vt rfl)) ?_
  rintro _ ⟨g6, rfl⟩
  refine AOps.consT rfl (op_box 9 rfl rfl (vt rfl)) ?_
  rintro _ ⟨g7, rfl⟩
  refine AOps.consT rfl (op_box 10 rfl rfl (vt rfl)) ?_
  rintro _ ⟨g8, rfl⟩
  refine AOps.cons (op_assign (A := rd kbool false) rfl rfl vb) rfl ?_
  refine AOps.nil ?_
  refine AW.seq ?_
  refine AW.seq ?_
  obtain ⟨x9, hx9, h⟩ := bsome h
  obtain ⟨x10, hx10, h⟩ := bsome h
  refine AW.region ?_
  refine AOps.cons (op_move (A := rd (ksl kGroup) l1) rfl rfl (vt rfl)) rfl ?_
  refine AOps.cons (op_call (xs := [.tmp 15, .const (Value.int IntKind.i64 9), .const (Value.int IntKind.i64 3)]) (c11 _ _ _ _ hx9) (Ent.mk Try.func11 rfl rfl) rfl rfl ⟨vt rfl, vk rfl, vk rfl, trivial⟩) rfl ?_
  refine AOps.cons (op_not rfl rfl (vt rfl)) rfl ?_
  refine AOps.cons (op_move (A := rd kbool (!x9)) rfl rfl (vt rfl)) rfl ?_
  refine AOps.consG (OpG.guard rfl rfl rfl rfl rfl fun hq => op_move (A := rd (ksl kAction) acts3) rfl rfl (vt rfl)) ?_
  refine AOps.consG (OpG.guard rfl rfl rfl rfl rfl fun hq => op_call (xs := [.tmp 19]) (c12 _ _ (opt_f hx10 hq)) (Ent.mk Try.func12 rfl rfl) rfl rfl ⟨vgt rfl hq, trivial⟩) ?_
  refine AOps.consG (OpG.guard rfl rfl rfl rfl rfl fun hq => op_not rfl rfl (vgt rfl hq)) ?_
  refine AOps.cons (op_any rfl rfl (vt rfl) (vt rfl)) rfl ?_
  refine AOps.cons (op_move (A := rd kbool ((!x9) || (!x10))) rfl rfl (vt rfl)) rfl ?_
  refine AOps.consG (OpG.guard rfl rfl rfl rfl rfl fun hq => op_field lEnv_1 rfl rfl fl41_1 (vt rfl)) ?_
  refine AOps.consG (OpG.guard rfl rfl rfl rfl rfl fun hq => op_load rfl rfl ty39 (vgt rfl hq) (i := 7) rfl) ?_
  refine AOps.consG (OpG.guard rfl rfl rfl rfl rfl fun hq => op_len' rfl rfl sl39 (vgt rfl hq)) ?_
  refine AOps.consG (OpG.guard rfl rfl rfl rfl rfl fun hq => op_gtr rfl rfl (vgt rfl hq) (vk rfl)) ?_
  refine AOps.cons (op_any rfl rfl (vt rfl) (vt rfl)) rfl ?_
  refine AOps.nil ?_
  refine AW.cond (vt rfl) (fun hc => ?_) (fun hc => ?_)
  · have h := cond_t hc h
    refine AW.seq ?_
    obtain ⟨x11, hx11, h⟩ := bsome h
    refine AW.region ?_
    refine AOps.cons (op_call (xs := []) (c5 _ hx11) (Ent.mk Try.func5 rfl rfl) rfl rfl trivial) rfl ?_
    refine AOps.cons (op_assign (A := rd kbool x11) rfl rfl (vt rfl)) rfl ?_
    refine AOps.nil ?_
    refine AW.ret ?_
    obtain rfl := Option.some.inj h
    exact ret1 Try.results4 rfl (out_tmp rfl)
  · have h := cond_f hc h
    refine AW.skip ?_
    refine AW.seq ?_
    obtain ⟨x12, hx12, h⟩ := bsome h
    refine AW.region ?_
    refine AOps.cons (op_move (A := rd (ksl kAction) acts3) rfl rfl (vt rfl)) rfl ?_
    refine AOps.cons (op_load rfl rfl ty29 (vt rfl) (i := 9) rfl) rfl ?_
    refine AOps.cons (op_call (xs := [.tmp 31, .tmp 32]) (c6 _ _ _ hx12) (Ent.mk Try.func6 rfl rfl) rfl rfl ⟨vt rfl, vt rfl, trivial⟩) rfl ?_
    refine AOps.cons (op_move (A := tup2 (rd (ksl kAtom) x12.1) (rd (karr 24 kTern) x12.2)) rfl rfl (vt rfl)) rfl ?_
    refine AOps.cons (op_fst rfl rfl (vt rfl)) rfl ?_
    refine AOps.cons (op_snd rfl rfl (vt rfl)) rfl ?_
    refine AOps.consT rfl (op_alloc 13 rfl rfl zr29) ?_
    rintro _ ⟨g13, rfl⟩
    refine AOps.cons (op_assign (A := rd (ksl kAtom) x12.1) rfl rfl (vt rfl)) rfl ?_
    refine AOps.cons (op_store rfl rfl ty29 (vt rfl) (i := 13) rfl (vt rfl)) rfl ?_
    refine AOps.nil ?_
    refine AW.seq ?_
    obtain ⟨x14, hx14, h⟩ := bsome h
    obtain ⟨x15, hx15, h⟩ := bsome h
    refine AW.regionAny [⟨[0], [37], [], []⟩, ⟨[6], [38], [7], []⟩, ⟨[2], [39], [], []⟩, ⟨[8], [40], [9], []⟩, ⟨[9], [41], [10], []⟩, ⟨[40, 41], [42], [], []⟩, ⟨[37, 38, 39, 42], [43], [], []⟩, ⟨[43], [36], [], []⟩, ⟨[36], [44], [], []⟩, ⟨[36], [45], [], []⟩, ⟨[], [14], [], []⟩, ⟨[44], [13], [], []⟩, ⟨[14, 45], [14], [], []⟩] mixed (by kernel_rfl) ?_
    refine SeqA.cons (loc [0] [] rfl rfl fun S hs hr => op_move (A := rd (ksl kGroup) l1) rfl rfl (vt ((hs 0 rfl).trans rfl))) ⟨rfl, rfl, rfl, rfl⟩ ?_
    refine SeqA.cons (loc [6] [7] rfl rfl fun S hs hr => op_load rfl rfl ty41 (vt ((hs 6 rfl).trans rfl)) (i := 7) ((hr 7 rfl).trans rfl)) ⟨rfl, rfl, rfl, rfl⟩ ?_
    refine SeqA.cons (loc [2] [] rfl rfl fun S hs hr => op_move (A := rd (ksl kAction) acts3) rfl rfl (vt ((hs 2 rfl).trans rfl))) ⟨rfl, rfl, rfl, rfl⟩ ?_
    refine SeqA.cons (loc [8] [9] rfl rfl fun S hs hr => op_load rfl rfl ty29 (vt ((hs 8 rfl).trans rfl)) (i := 9) ((hr 9 rfl).trans rfl)) ⟨rfl, rfl, rfl, rfl⟩ ?_
    refine SeqA.cons (loc [9] [10] rfl rfl fun S hs hr => op_load rfl rfl ty43 (vt ((hs 9 rfl).trans rfl)) (i := 10) ((hr 10 rfl).trans rfl)) ⟨rfl, rfl, rfl, rfl⟩ ?_
    refine SeqA.cons (loc [40, 41] [] rfl rfl fun S hs hr => op_call (xs := [.tmp 40, .tmp 41]) (c14 _ _ _ hx14) (Ent.mk Try.func14 rfl rfl) rfl rfl ⟨vt ((hs 40 rfl).trans rfl), vt ((hs 41 rfl).trans rfl), trivial⟩) ⟨rfl, rfl, rfl, rfl⟩ ?_
    refine SeqA.cons (loc [37, 38, 39, 42] [] rfl rfl fun S hs hr => op_call (xs := [.tmp 37, .tmp 38, .tmp 39, .tmp 42]) (c13 _ _ _ _ _ hx15) (Ent.mk Try.func13 rfl rfl) rfl rfl ⟨vt ((hs 37 rfl).trans rfl), vt ((hs 38 rfl).trans rfl), vt ((hs 39 rfl).trans rfl), vt ((hs 42 rfl).trans rfl), trivial⟩) ⟨rfl, rfl, rfl, rfl⟩ ?_
    refine SeqA.cons (loc [43] [] rfl rfl fun S hs hr => op_move (A := tup2 (rd (ksl kOut) x15.1) (rd (karr 24 kWide) x15.2)) rfl rfl (vt ((hs 43 rfl).trans rfl))) ⟨rfl, rfl, rfl, rfl⟩ ?_
    refine SeqA.cons (loc [36] [] rfl rfl fun S hs hr => op_fst rfl rfl (vt ((hs 36 rfl).trans rfl))) ⟨rfl, rfl, rfl, rfl⟩ ?_
    refine SeqA.cons (loc [36] [] rfl rfl fun S hs hr => op_snd rfl rfl (vt ((hs 36 rfl).trans rfl))) ⟨rfl, rfl, rfl, rfl⟩ ?_
    refine SeqA.cons (locs (us := [(14, ownP 43 (karr 24 kWide) (Vector.replicate 24 zWide))]) (ur := []) [] [] rfl fun S hs hr => op_allocO rfl rfl rfl zr43) ⟨rfl, rfl, rfl, rfl⟩ ?_
    refine SeqA.cons (loc [44] [] rfl rfl fun S hs hr => op_assign (A := rd (ksl kOut) x15.1) rfl rfl (vt ((hs 44 rfl).trans rfl))) ⟨rfl, rfl, rfl, rfl⟩ ?_
    refine SeqA.cons (locs (us := [(14, ownP 43 (karr 24 kWide) x15.2)]) (ur := []) [14, 45] [] rfl fun S hs hr => op_storeO rfl rfl ty43 ((hs 14 rfl).trans rfl) (vt ((hs 45 rfl).trans rfl))) ⟨rfl, rfl, rfl, rfl⟩ ?_
    refine AW.unpackP 14 15 rfl rfl fun g16 => ?_
    refine AW.seq ?_
    obtain ⟨x17, hx17, h⟩ := bsome h
    obtain ⟨x18, hx18, h⟩ := bsome h
    obtain ⟨x19, hx19, h⟩ := bsome h
    obtain ⟨x20, hx20, h⟩ := bsome h
    refine AW.regionAny [⟨[0], [46], [], []⟩, ⟨[6], [47], [7], []⟩, ⟨[11], [48], [], []⟩, ⟨[9], [49], [10], []⟩, ⟨[46, 47, 48, 49], [50], [], []⟩, ⟨[13], [51], [], []⟩, ⟨[50, 51], [52], [], []⟩, ⟨[52], [53], [], []⟩, ⟨[12, 53], [54], [13], []⟩, ⟨[9, 53], [55], [10], []⟩, ⟨[54, 55, 53], [56], [], []⟩, ⟨[14, 53], [57], [15], []⟩, ⟨[56, 57, 53], [58], [], []⟩, ⟨[58, 53], [59], [], []⟩, ⟨[59], [60], [], []⟩, ⟨[60], [61], [], []⟩, ⟨[61, 60], [62], [], []⟩, ⟨[62], [10], [], []⟩] mixed (by kernel_rfl) ?_
    refine SeqA.cons (loc [0] [] rfl rfl fun S hs hr => op_move (A := rd (ksl kGroup) l1) rfl rfl (vt ((hs 0 rfl).trans rfl))) ⟨rfl, rfl, rfl, rfl⟩ ?_
    refine SeqA.cons (loc [6] [7] rfl rfl fun S hs hr => op_load rfl rfl ty41 (vt ((hs 6 rfl).trans rfl)) (i := 7) ((hr 7 rfl).trans rfl)) ⟨rfl, rfl, rfl, rfl⟩ ?_
    refine SeqA.cons (loc [11] [] rfl rfl fun S hs hr => op_move (A := rd (ksl kAtom) x12.1) rfl rfl (vt ((hs 11 rfl).trans rfl))) ⟨rfl, rfl, rfl, rfl⟩ ?_
    refine SeqA.cons (loc [9] [10] rfl rfl fun S hs hr => op_load rfl rfl ty43 (vt ((hs 9 rfl).trans rfl)) (i := 10) ((hr 10 rfl).trans rfl)) ⟨rfl, rfl, rfl, rfl⟩ ?_
    refine SeqA.cons (loc [46, 47, 48, 49] [] rfl rfl fun S hs hr => op_call (xs := [.tmp 46, .tmp 47, .tmp 48, .tmp 49]) (c16 _ _ _ _ _ hx17) (Ent.mk Try.func16 rfl rfl) rfl rfl ⟨vt ((hs 46 rfl).trans rfl), vt ((hs 47 rfl).trans rfl), vt ((hs 48 rfl).trans rfl), vt ((hs 49 rfl).trans rfl), trivial⟩) ⟨rfl, rfl, rfl, rfl⟩ ?_
    refine SeqA.cons (loc [13] [] rfl rfl fun S hs hr => op_move (A := rd (ksl kOut) x15.1) rfl rfl (vt ((hs 13 rfl).trans rfl))) ⟨rfl, rfl, rfl, rfl⟩ ?_
    refine SeqA.cons (loc [50, 51] [] rfl rfl fun S hs hr => op_call (xs := [.tmp 50, .tmp 51]) (c15 _ _ _ hx18) (Ent.mk Try.func15 rfl rfl) rfl rfl ⟨vt ((hs 50 rfl).trans rfl), vt ((hs 51 rfl).trans rfl), trivial⟩) ⟨rfl, rfl, rfl, rfl⟩ ?_
    refine SeqA.cons (loc [52] [] rfl rfl fun S hs hr => op_move (A := rd kbool x18) rfl rfl (vt ((hs 52 rfl).trans rfl))) ⟨rfl, rfl, rfl, rfl⟩ ?_
    refine SeqA.cons (locg [12, 53] [13] rfl rfl rfl rfl rfl rfl rfl fun hq S hs hr => op_load rfl rfl ty29 (vt ((hs 12 rfl).trans rfl)) (i := 13) ((hr 13 rfl).trans rfl)) ⟨rfl, rfl, rfl, rfl⟩ ?_
    refine SeqA.cons (locg [9, 53] [10] rfl rfl rfl rfl rfl rfl rfl fun hq S hs hr => op_load rfl rfl ty43 (vt ((hs 9 rfl).trans rfl)) (i := 10) ((hr 10 rfl).trans rfl)) ⟨rfl, rfl, rfl, rfl⟩ ?_
    refine SeqA.cons (locg [54, 55, 53] [] rfl rfl rfl rfl rfl rfl rfl fun hq S hs hr => op_call (xs := [.tmp 54, .tmp 55]) (c14 _ _ _ (opt_t hx19 hq)) (Ent.mk Try.func14 rfl rfl) rfl rfl ⟨vgt ((hs 54 rfl).trans rfl) hq, vgt ((hs 55 rfl).trans rfl) hq, trivial⟩) ⟨rfl, rfl, rfl, rfl⟩ ?_
    refine SeqA.cons (locg [14, 53] [15] rfl rfl rfl rfl rfl rfl rfl fun hq S hs hr => op_load rfl rfl ty43 (vt ((hs 14 rfl).trans rfl)) (i := 15) ((hr 15 rfl).trans rfl)) ⟨rfl, rfl, rfl, rfl⟩ ?_
    refine SeqA.cons (locg [56, 57, 53] [] rfl rfl rfl rfl rfl rfl rfl fun hq S hs hr => op_eqlk rfl rfl eqk43 (by decide) rfl eg43 (vgt ((hs 56 rfl).trans rfl) hq) (vgt ((hs 57 rfl).trans rfl) hq)) ⟨rfl, rfl, rfl, rfl⟩ ?_
    refine SeqA.cons (loc [58, 53] [] rfl rfl fun S hs hr => op_all rfl rfl (vt ((hs 53 rfl).trans rfl)) (vt ((hs 58 rfl).trans rfl))) ⟨rfl, rfl, rfl, rfl⟩ ?_
    refine SeqA.cons (loc [59] [] rfl rfl fun S hs hr => op_move (A := rd kbool (x18 && (decide (x19 = x15.2)))) rfl rfl (vt ((hs 59 rfl).trans rfl))) ⟨rfl, rfl, rfl, rfl⟩ ?_
    refine SeqA.cons (locg [60] [] rfl rfl rfl rfl rfl rfl rfl fun hq S hs hr => op_call (xs := []) (c5 _ (opt_t hx20 hq)) (Ent.mk Try.func5 rfl rfl) rfl rfl trivial) ⟨rfl, rfl, rfl, rfl⟩ ?_
    refine SeqA.cons (loc [61, 60] [] rfl rfl fun S hs hr => op_all rfl rfl (vt ((hs 60 rfl).trans rfl)) (vt ((hs 61 rfl).trans rfl))) ⟨rfl, rfl, rfl, rfl⟩ ?_
    refine SeqA.cons (loc [62] [] rfl rfl fun S hs hr => op_assign (A := rd kbool ((x18 && (decide (x19 = x15.2))) && x20)) rfl rfl (vt ((hs 62 rfl).trans rfl))) ⟨rfl, rfl, rfl, rfl⟩ ?_
    refine AW.ret ?_
    obtain rfl := Option.some.inj h
    exact ret1 Try.results4 rfl (out_tmp rfl)
end Go.Proofs.Ytokmmcflinnfiab.W
