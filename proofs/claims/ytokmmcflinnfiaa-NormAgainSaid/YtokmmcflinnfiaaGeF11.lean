/- GeF11: a part of the proof. -/
import Derived.Test.YtokmmcflinnfiaaGeF10
set_option linter.unusedVariables false
set_option maxRecDepth 4000
set_option linter.unusedSimpArgs false
namespace Go.Proofs.Ytokmmcflinnfiaa.W
open Go Go.Wb
-- weirbox/weirboxlaw32.AtomJoins
def F11 (p1 : (List Action)) (q2 : (List Action)) (r3 : (Vector Tern 24)) : Option Bool :=
  (bif ((decide ((p1.length : Int) > 60)) || (decide ((q2.length : Int) > 60))) then (F59).bind fun x5 => some x5 else (F60 p1 r3).bind fun x6 => (F60 q2 x6.2).bind fun x8 => (F49 p1).bind fun x10 => (appd x10 q2).bind fun l12 => (F60 l12 r3).bind fun x13 => (F57 x6.1).bind fun x15 => (appd x15 x8.1).bind fun l17 => (F58 l17 x13.1).bind fun x19 => (opt (x19 && (decide (x8.2 = x13.2))) (F59)).bind fun x20 => some ((x19 && (decide (x8.2 = x13.2))) && x20))
theorem c11 (p1 : (List Action)) (q2 : (List Action)) (r3 : (Vector Tern 24)) (r : Bool) (h : F11 p1 q2 r3 = some r) : PCon Try.prog 11 [rd (ksl kAction) p1, rd (ksl kAction) q2, rd (karr 24 kTern) r3] (rd kbool r) := by
  refine PCon.of (Con.intro0 Try.func11 rfl Try.ntmps11 rfl fun w H => ?_)
  unfold F11 at h
  refine AW.seq ?_
  refine AW.region ?_
  refine AOps.consT rfl (op_box 6 rfl rfl (vt rfl)) ?_
  rintro _ ⟨g4, rfl⟩
  refine AOps.cons (op_assign (A := rd kbool false) rfl rfl vb) rfl ?_
  refine AOps.nil ?_
  refine AW.seq ?_
  refine AW.seq ?_
  refine AW.region ?_
  refine AOps.cons (op_move (A := rd (ksl kAction) p1) rfl rfl (vt rfl)) rfl ?_
  refine AOps.cons (op_len' rfl rfl sl73 (vt rfl)) rfl ?_
  refine AOps.cons (op_gtr rfl rfl (vt rfl) (vk rfl)) rfl ?_
  refine AOps.cons (op_move (A := rd kbool (decide ((p1.length : Int) > 60))) rfl rfl (vt rfl)) rfl ?_
  refine AOps.consG (OpG.guard rfl rfl rfl rfl rfl fun hq => op_move (A := rd (ksl kAction) q2) rfl rfl (vt rfl)) ?_
  refine AOps.consG (OpG.guard rfl rfl rfl rfl rfl fun hq => op_len' rfl rfl sl73 (vgt rfl hq)) ?_
  refine AOps.consG (OpG.guard rfl rfl rfl rfl rfl fun hq => op_gtr rfl rfl (vgt rfl hq) (vk rfl)) ?_
  refine AOps.cons (op_any rfl rfl (vt rfl) (vt rfl)) rfl ?_
  refine AOps.nil ?_
  refine AW.cond (vt rfl) (fun hc => ?_) (fun hc => ?_)
  · have h := cond_t hc h
    refine AW.seq ?_
    obtain ⟨x5, hx5, h⟩ := bsome h
    refine AW.region ?_
    refine AOps.cons (op_call (xs := []) (c59 _ hx5) (Ent.mk Try.func59 rfl rfl) rfl rfl trivial) rfl ?_
    refine AOps.cons (op_assign (A := rd kbool x5) rfl rfl (vt rfl)) rfl ?_
    refine AOps.nil ?_
    refine AW.ret ?_
    obtain rfl := Option.some.inj h
    exact ret1 Try.results11 rfl (out_tmp rfl)
  · have h := cond_f hc h
    refine AW.skip ?_
    refine AW.seq ?_
    obtain ⟨x6, hx6, h⟩ := bsome h
    refine AW.region ?_
    refine AOps.cons (op_move (A := rd (ksl kAction) p1) rfl rfl (vt rfl)) rfl ?_
    refine AOps.cons (op_load rfl rfl ty95 (vt rfl) (i := 6) rfl) rfl ?_
    refine AOps.cons (op_call (xs := [.tmp 23, .tmp 24]) (c60 _ _ _ hx6) (Ent.mk Try.func60 rfl rfl) rfl rfl ⟨vt rfl, vt rfl, trivial⟩) rfl ?_
    refine AOps.cons (op_move (A := tup2 (rd (ksl kAtom) x6.1) (rd (karr 24 kTern) x6.2)) rfl rfl (vt rfl)) rfl ?_
    refine AOps.cons (op_fst rfl rfl (vt rfl)) rfl ?_
    refine AOps.cons (op_snd rfl rfl (vt rfl)) rfl ?_
    refine AOps.consT rfl (op_alloc 9 rfl rfl zr95) ?_
    rintro _ ⟨g7, rfl⟩
    refine AOps.cons (op_assign (A := rd (ksl kAtom) x6.1) rfl rfl (vt rfl)) rfl ?_
    refine AOps.cons (op_store rfl rfl ty95 (vt rfl) (i := 9) rfl (vt rfl)) rfl ?_
    refine AOps.nil ?_
    refine AW.seq ?_
    obtain ⟨x8, hx8, h⟩ := bsome h
    refine AW.region ?_
    refine AOps.cons (op_move (A := rd (ksl kAction) q2) rfl rfl (vt rfl)) rfl ?_
    refine AOps.cons (op_load rfl rfl ty95 (vt rfl) (i := 9) rfl) rfl ?_
    refine AOps.cons (op_call (xs := [.tmp 29, .tmp 30]) (c60 _ _ _ hx8) (Ent.mk Try.func60 rfl rfl) rfl rfl ⟨vt rfl, vt rfl, trivial⟩) rfl ?_
    refine AOps.cons (op_move (A := tup2 (rd (ksl kAtom) x8.1) (rd (karr 24 kTern) x8.2)) rfl rfl (vt rfl)) rfl ?_
    refine AOps.cons (op_fst rfl rfl (vt rfl)) rfl ?_
    refine AOps.cons (op_snd rfl rfl (vt rfl)) rfl ?_
    refine AOps.consT rfl (op_alloc 11 rfl rfl zr95) ?_
    rintro _ ⟨g9, rfl⟩
    refine AOps.cons (op_assign (A := rd (ksl kAtom) x8.1) rfl rfl (vt rfl)) rfl ?_
    refine AOps.cons (op_store rfl rfl ty95 (vt rfl) (i := 11) rfl (vt rfl)) rfl ?_
    refine AOps.nil ?_
    refine AW.seq ?_
    obtain ⟨x10, hx10, h⟩ := bsome h
    obtain ⟨l12, hl12, h⟩ := bsome h
    obtain ⟨x13, hx13, h⟩ := bsome h
    refine AW.regionAny [⟨[0], [35], [], []⟩, ⟨[35], [36], [], []⟩, ⟨[1], [37], [], []⟩, ⟨[36, 37], [36, 38], [1002], []⟩, ⟨[5], [39], [6], []⟩, ⟨[38, 39], [40], [], []⟩, ⟨[40], [34], [], []⟩, ⟨[34], [41], [], []⟩, ⟨[34], [42], [], []⟩, ⟨[], [12], [], []⟩, ⟨[41], [11], [], []⟩, ⟨[12, 42], [12], [], []⟩] mixed (by kernel_rfl) ?_
    refine SeqA.cons (loc [0] [] rfl rfl fun S hs hr => op_move (A := rd (ksl kAction) p1) rfl rfl (vt ((hs 0 rfl).trans rfl))) ⟨rfl, rfl, rfl, rfl⟩ ?_
    refine SeqA.cons (locs (us := [(36, ownR 82 kAction x10)]) (ur := []) [35] [] rfl fun S hs hr => op_callO (xs := [.tmp 35]) (c49o _ _ hx10) (Ent.mk Try.func49 rfl rfl) rfl rfl rfl ⟨vt ((hs 35 rfl).trans rfl), trivial⟩) ⟨rfl, rfl, rfl, rfl⟩ ?_
    refine SeqA.cons (loc [1] [] rfl rfl fun S hs hr => op_move (A := rd (ksl kAction) q2) rfl rfl (vt ((hs 1 rfl).trans rfl))) ⟨rfl, rfl, rfl, rfl⟩ ?_
    refine SeqA.cons (locs (us := [(36, top), (38, rd (ksl kAction) l12)]) (ur := []) [36, 37] [1002] rfl fun S hs hr => op_appendF 1002 rfl hl12 rfl rfl rfl el73 ((hs 36 rfl).trans rfl) ((hr 1002 rfl).trans rfl) (fun v => vtS rfl ((hs 37 rfl).trans rfl))) ⟨rfl, rfl, rfl, rfl⟩ ?_
    refine SeqA.cons (loc [5] [6] rfl rfl fun S hs hr => op_load rfl rfl ty95 (vt ((hs 5 rfl).trans rfl)) (i := 6) ((hr 6 rfl).trans rfl)) ⟨rfl, rfl, rfl, rfl⟩ ?_
    refine SeqA.cons (loc [38, 39] [] rfl rfl fun S hs hr => op_call (xs := [.tmp 38, .tmp 39]) (c60 _ _ _ hx13) (Ent.mk Try.func60 rfl rfl) rfl rfl ⟨vt ((hs 38 rfl).trans rfl), vt ((hs 39 rfl).trans rfl), trivial⟩) ⟨rfl, rfl, rfl, rfl⟩ ?_
    refine SeqA.cons (loc [40] [] rfl rfl fun S hs hr => op_move (A := tup2 (rd (ksl kAtom) x13.1) (rd (karr 24 kTern) x13.2)) rfl rfl (vt ((hs 40 rfl).trans rfl))) ⟨rfl, rfl, rfl, rfl⟩ ?_
    refine SeqA.cons (loc [34] [] rfl rfl fun S hs hr => op_fst rfl rfl (vt ((hs 34 rfl).trans rfl))) ⟨rfl, rfl, rfl, rfl⟩ ?_
    refine SeqA.cons (loc [34] [] rfl rfl fun S hs hr => op_snd rfl rfl (vt ((hs 34 rfl).trans rfl))) ⟨rfl, rfl, rfl, rfl⟩ ?_
    refine SeqA.cons (locs (us := [(12, ownP 95 (karr 24 kTern) (Vector.replicate 24 zTern))]) (ur := []) [] [] rfl fun S hs hr => op_allocO rfl rfl rfl zr95) ⟨rfl, rfl, rfl, rfl⟩ ?_
    refine SeqA.cons (loc [41] [] rfl rfl fun S hs hr => op_assign (A := rd (ksl kAtom) x13.1) rfl rfl (vt ((hs 41 rfl).trans rfl))) ⟨rfl, rfl, rfl, rfl⟩ ?_
    refine SeqA.cons (locs (us := [(12, ownP 95 (karr 24 kTern) x13.2)]) (ur := []) [12, 42] [] rfl fun S hs hr => op_storeO rfl rfl ty95 ((hs 12 rfl).trans rfl) (vt ((hs 42 rfl).trans rfl))) ⟨rfl, rfl, rfl, rfl⟩ ?_
    refine AW.unpackP 12 13 rfl rfl fun g14 => ?_
    refine AW.seq ?_
    obtain ⟨x15, hx15, h⟩ := bsome h
    obtain ⟨l17, hl17, h⟩ := bsome h
    obtain ⟨x19, hx19, h⟩ := bsome h
    obtain ⟨x20, hx20, h⟩ := bsome h
    refine AW.region ?_
    refine AOps.cons (op_move (A := rd (ksl kAtom) x6.1) rfl rfl (vt rfl)) rfl ?_
    refine AOps.consT rfl (op_callR 1003 (xs := [.tmp 43]) (c57o _ _ hx15) (Ent.mk Try.func57 rfl rfl) rfl rfl ⟨vt rfl, trivial⟩ rfl) ?_
    rintro _ ⟨v16, rfl⟩
    refine AOps.cons (op_move (A := rd (ksl kAtom) x8.1) rfl rfl (vt rfl)) rfl ?_
    refine AOps.consT rfl (op_append' 1003 hl17 rfl rfl el57 (vt rfl) rfl (vt rfl)) ?_
    rintro _ ⟨v18, rfl⟩
    refine AOps.cons (op_move (A := rd (ksl kAtom) x13.1) rfl rfl (vt rfl)) rfl ?_
    refine AOps.cons (op_callB (xs := [.tmp 46, .tmp 47]) 1003 (c58 _ _ _ hx19) (Ent.mk Try.func58 rfl rfl) rfl rfl ⟨vL rfl rfl, vB (vt rfl), trivial⟩) rfl ?_
    refine AOps.cons (op_move (A := rd kbool x19) rfl rfl (vt rfl)) rfl ?_
    refine AOps.consG (OpG.guard rfl rfl rfl rfl rfl fun hq => op_load rfl rfl ty95 (vt rfl) (i := 11) rfl) ?_
    refine AOps.consG (OpG.guard rfl rfl rfl rfl rfl fun hq => op_load rfl rfl ty95 (vt rfl) (i := 13) rfl) ?_
    refine AOps.consG (OpG.guard rfl rfl rfl rfl rfl fun hq => op_eqlk rfl rfl eqk95 (by decide) rfl eg95 (vgt rfl hq) (vgt rfl hq)) ?_
    refine AOps.cons (op_all rfl rfl (vt rfl) (vt rfl)) rfl ?_
    refine AOps.cons (op_move (A := rd kbool (x19 && (decide (x8.2 = x13.2)))) rfl rfl (vt rfl)) rfl ?_
    refine AOps.consG (OpG.guard rfl rfl rfl rfl rfl fun hq => op_call (xs := []) (c59 _ (opt_t hx20 hq)) (Ent.mk Try.func59 rfl rfl) rfl rfl trivial) ?_
    refine AOps.cons (op_all rfl rfl (vt rfl) (vt rfl)) rfl ?_
    refine AOps.cons (op_assign (A := rd kbool ((x19 && (decide (x8.2 = x13.2))) && x20)) rfl rfl (vt rfl)) rfl ?_
    refine AOps.nil ?_
    refine AW.ret ?_
    obtain rfl := Option.some.inj h
    exact ret1 Try.results11 rfl (out_tmp rfl)
end Go.Proofs.Ytokmmcflinnfiaa.W
