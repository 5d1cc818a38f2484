/- GdF4: a part of the proof. -/
import Derived.Test.YtokmmcflinnfiaaGdF3
set_option linter.unusedVariables false
set_option maxRecDepth 4000
set_option linter.unusedSimpArgs false
namespace Go.Proofs.Ytokmmcflinnfiaa.W
open Go Go.Wb
-- weirbox/weirboxref02.Or
def F132 (a1 : Wide) (b2 : Wide) : Option Wide :=
  some (⟨(a1.Hi ||| b2.Hi), (a1.Lo ||| b2.Lo)⟩ : Wide)
theorem c132 (a1 : Wide) (b2 : Wide) (r : Wide) (h : F132 a1 b2 = some r) : PCon Try.prog 132 [rd kWide a1, rd kWide b2] (rd kWide r) := by
  refine PCon.of (Con.intro0 Try.func132 rfl Try.ntmps132 rfl fun w H => ?_)
  unfold F132 at h
  refine AW.seq ?_
  refine AW.region ?_
  refine AOps.consT rfl (op_box 3 rfl rfl (vt rfl)) ?_
  rintro _ ⟨g3, rfl⟩
  refine AOps.consT rfl (op_box 4 rfl rfl (vt rfl)) ?_
  rintro _ ⟨g4, rfl⟩
  refine AOps.consT rfl (op_alloc 5 rfl rfl zr52) ?_
  rintro _ ⟨g5, rfl⟩
  refine AOps.nil ?_
  refine AW.seq ?_
  refine AW.region ?_
  refine AOps.cons (op_field lWide_0 rfl rfl fl52_0 (vt rfl)) rfl ?_
  refine AOps.cons (op_load rfl rfl ty50 (vt rfl) (i := 3) rfl) rfl ?_
  refine AOps.cons (op_field lWide_0 rfl rfl fl52_0 (vt rfl)) rfl ?_
  refine AOps.cons (op_load rfl rfl ty50 (vt rfl) (i := 4) rfl) rfl ?_
  refine AOps.cons (op_or rfl rfl (vt rfl) (vt rfl)) rfl ?_
  refine AOps.cons (op_field lWide_1 rfl rfl fl52_1 (vt rfl)) rfl ?_
  refine AOps.cons (op_load rfl rfl ty50 (vt rfl) (i := 3) rfl) rfl ?_
  refine AOps.cons (op_field lWide_1 rfl rfl fl52_1 (vt rfl)) rfl ?_
  refine AOps.cons (op_load rfl rfl ty50 (vt rfl) (i := 4) rfl) rfl ?_
  refine AOps.cons (op_or rfl rfl (vt rfl) (vt rfl)) rfl ?_
  refine AOps.cons (op_build (ps := [(0, .tmp 9), (1, .tmp 14)]) (x := (⟨(a1.Hi ||| b2.Hi), (a1.Lo ||| b2.Lo)⟩ : Wide)) rfl rfl rfl (by kernel_rfl) zr52 ⟨_, _, lWide_0, _, by kernel_rfl, (vt rfl), _, _, lWide_1, _, by kernel_rfl, (vt rfl), rfl⟩) rfl ?_
  refine AOps.cons (op_store rfl rfl ty52 (vt rfl) (i := 5) rfl (vt rfl)) rfl ?_
  refine AOps.nil ?_
  refine AW.ret ?_
  obtain rfl := Option.some.inj h
  exact ret1 Try.results132 rfl (out_cell rfl (i := 5) rfl ty52)
-- weirbox/weirboxref05.Meet
def F91 (a1 : Tern) (b2 : Tern) : Option (Tern × Bool) :=
  (F130 a1.Mask b2.Mask).bind fun x6 => (F136 a1.Value b2.Value).bind fun x8 => (F130 x8 x6).bind fun x9 => (F129 x9).bind fun x10 => (bif (!x10) then some ((⟨zWide, zWide⟩ : Tern), false) else (F128 a1).bind fun x11 => (F128 b2).bind fun x12 => (F132 x11.Value x12.Value).bind fun x13 => (F132 x11.Mask x12.Mask).bind fun x14 => some ((⟨x13, x14⟩ : Tern), true))
theorem c91 (a1 : Tern) (b2 : Tern) (r : (Tern × Bool)) (h : F91 a1 b2 = some r) : PCon Try.prog 91 [rd kTern a1, rd kTern b2] (tup2 (rd kTern r.1) (rd kbool r.2)) := by
  refine PCon.of (Con.intro0 Try.func91 rfl Try.ntmps91 rfl fun w H => ?_)
  unfold F91 at h
  refine AW.seq ?_
  refine AW.region ?_
  refine AOps.consT rfl (op_box 3 rfl rfl (vt rfl)) ?_
  rintro _ ⟨g3, rfl⟩
  refine AOps.consT rfl (op_box 4 rfl rfl (vt rfl)) ?_
  rintro _ ⟨g4, rfl⟩
  refine AOps.consT rfl (op_alloc 5 rfl rfl zr54) ?_
  rintro _ ⟨g5, rfl⟩
  refine AOps.cons (op_assign (A := rd kbool false) rfl rfl vb) rfl ?_
  refine AOps.nil ?_
  refine AW.seq ?_
  obtain ⟨x6, hx6, h⟩ := bsome h
  refine AW.region ?_
  refine AOps.cons (op_field lTern_1 rfl rfl fl54_1 (vt rfl)) rfl ?_
  refine AOps.cons (op_load rfl rfl ty52 (vt rfl) (i := 3) rfl) rfl ?_
  refine AOps.cons (op_field lTern_1 rfl rfl fl54_1 (vt rfl)) rfl ?_
  refine AOps.cons (op_load rfl rfl ty52 (vt rfl) (i := 4) rfl) rfl ?_
  refine AOps.cons (op_call (xs := [.tmp 8, .tmp 10]) (c130 _ _ _ hx6) (Ent.mk Try.func130 rfl rfl) rfl rfl ⟨vt rfl, vt rfl, trivial⟩) rfl ?_
  refine AOps.consT rfl (op_alloc 7 rfl rfl zr52) ?_
  rintro _ ⟨g7, rfl⟩
  refine AOps.cons (op_store rfl rfl ty52 (vt rfl) (i := 7) rfl (vt rfl)) rfl ?_
  refine AOps.nil ?_
  refine AW.seq ?_
  refine AW.seq ?_
  obtain ⟨x8, hx8, h⟩ := bsome h
  obtain ⟨x9, hx9, h⟩ := bsome h
  obtain ⟨x10, hx10, h⟩ := bsome h
  refine AW.regionAny [⟨[2], [12], [], []⟩, ⟨[12], [13], [3], []⟩, ⟨[3], [14], [], []⟩, ⟨[14], [15], [4], []⟩, ⟨[13, 15], [16], [], []⟩, ⟨[6], [17], [7], []⟩, ⟨[16, 17], [18], [], []⟩, ⟨[18], [19], [], []⟩, ⟨[19], [20], [], []⟩] mixed (by kernel_rfl) ?_
  refine SeqA.cons (loc [2] [] rfl rfl fun S hs hr => op_field lTern_0 rfl rfl fl54_0 (vt ((hs 2 rfl).trans rfl))) ⟨rfl, rfl, rfl, rfl⟩ ?_
  refine SeqA.cons (loc [12] [3] rfl rfl fun S hs hr => op_load rfl rfl ty52 (vt ((hs 12 rfl).trans rfl)) (i := 3) ((hr 3 rfl).trans rfl)) ⟨rfl, rfl, rfl, rfl⟩ ?_
  refine SeqA.cons (loc [3] [] rfl rfl fun S hs hr => op_field lTern_0 rfl rfl fl54_0 (vt ((hs 3 rfl).trans rfl))) ⟨rfl, rfl, rfl, rfl⟩ ?_
  refine SeqA.cons (loc [14] [4] rfl rfl fun S hs hr => op_load rfl rfl ty52 (vt ((hs 14 rfl).trans rfl)) (i := 4) ((hr 4 rfl).trans rfl)) ⟨rfl, rfl, rfl, rfl⟩ ?_
  refine SeqA.cons (loc [13, 15] [] rfl rfl fun S hs hr => op_call (xs := [.tmp 13, .tmp 15]) (c136 _ _ _ hx8) (Ent.mk Try.func136 rfl rfl) rfl rfl ⟨vt ((hs 13 rfl).trans rfl), vt ((hs 15 rfl).trans rfl), trivial⟩) ⟨rfl, rfl, rfl, rfl⟩ ?_
  refine SeqA.cons (loc [6] [7] rfl rfl fun S hs hr => op_load rfl rfl ty52 (vt ((hs 6 rfl).trans rfl)) (i := 7) ((hr 7 rfl).trans rfl)) ⟨rfl, rfl, rfl, rfl⟩ ?_
  refine SeqA.cons (loc [16, 17] [] rfl rfl fun S hs hr => op_call (xs := [.tmp 16, .tmp 17]) (c130 _ _ _ hx9) (Ent.mk Try.func130 rfl rfl) rfl rfl ⟨vt ((hs 16 rfl).trans rfl), vt ((hs 17 rfl).trans rfl), trivial⟩) ⟨rfl, rfl, rfl, rfl⟩ ?_
  refine SeqA.cons (loc [18] [] rfl rfl fun S hs hr => op_call (xs := [.tmp 18]) (c129 _ _ hx10) (Ent.mk Try.func129 rfl rfl) rfl rfl ⟨vt ((hs 18 rfl).trans rfl), trivial⟩) ⟨rfl, rfl, rfl, rfl⟩ ?_
  refine SeqA.cons (loc [19] [] rfl rfl fun S hs hr => op_not rfl rfl (vt ((hs 19 rfl).trans rfl))) ⟨rfl, rfl, rfl, rfl⟩ ?_
  refine AW.cond (vt rfl) (fun hc => ?_) (fun hc => ?_)
  · have h := cond_t hc h
    refine AW.seq ?_
    refine AW.region ?_
    refine AOps.cons (op_build (ps := []) (x := (⟨zWide, zWide⟩ : Tern)) rfl rfl rfl (by kernel_rfl) zr54 rfl) rfl ?_
    refine AOps.cons (op_store rfl rfl ty54 (vt rfl) (i := 5) rfl (vt rfl)) rfl ?_
    refine AOps.cons (op_assign (A := rd kbool false) rfl rfl vb) rfl ?_
    refine AOps.nil ?_
    refine AW.ret ?_
    obtain rfl := Option.some.inj h
    exact ret2 Try.results91 rfl (out_cell rfl (i := 5) rfl ty54) (out_tmp rfl)
  · have h := cond_f hc h
    refine AW.skip ?_
    refine AW.seq ?_
    obtain ⟨x11, hx11, h⟩ := bsome h
    obtain ⟨x12, hx12, h⟩ := bsome h
    refine AW.regionAny [⟨[2], [22], [3], []⟩, ⟨[22], [23], [], []⟩, ⟨[3], [24], [4], []⟩, ⟨[24], [25], [], []⟩, ⟨[2, 23], [], [3], [3]⟩, ⟨[3, 25], [], [4], [4]⟩] mixed (by kernel_rfl) ?_
    refine SeqA.cons (loc [2] [3] rfl rfl fun S hs hr => op_load rfl rfl ty54 (vt ((hs 2 rfl).trans rfl)) (i := 3) ((hr 3 rfl).trans rfl)) ⟨rfl, rfl, rfl, rfl⟩ ?_
    refine SeqA.cons (loc [22] [] rfl rfl fun S hs hr => op_call (xs := [.tmp 22]) (c128 _ _ hx11) (Ent.mk Try.func128 rfl rfl) rfl rfl ⟨vt ((hs 22 rfl).trans rfl), trivial⟩) ⟨rfl, rfl, rfl, rfl⟩ ?_
    refine SeqA.cons (loc [3] [4] rfl rfl fun S hs hr => op_load rfl rfl ty54 (vt ((hs 3 rfl).trans rfl)) (i := 4) ((hr 4 rfl).trans rfl)) ⟨rfl, rfl, rfl, rfl⟩ ?_
    refine SeqA.cons (loc [24] [] rfl rfl fun S hs hr => op_call (xs := [.tmp 24]) (c128 _ _ hx12) (Ent.mk Try.func128 rfl rfl) rfl rfl ⟨vt ((hs 24 rfl).trans rfl), trivial⟩) ⟨rfl, rfl, rfl, rfl⟩ ?_
    refine SeqA.cons (locr [2, 23] [3] rfl fun S hs hr => op_store rfl rfl ty54 (vt ((hs 2 rfl).trans rfl)) (i := 3) ((hr 3 rfl).trans rfl) (vt ((hs 23 rfl).trans rfl))) ⟨rfl, rfl, rfl, rfl⟩ ?_
    refine SeqA.cons (locr [3, 25] [4] rfl fun S hs hr => op_store rfl rfl ty54 (vt ((hs 3 rfl).trans rfl)) (i := 4) ((hr 4 rfl).trans rfl) (vt ((hs 25 rfl).trans rfl))) ⟨rfl, rfl, rfl, rfl⟩ ?_
    refine AW.seq ?_
    obtain ⟨x13, hx13, h⟩ := bsome h
    obtain ⟨x14, hx14, h⟩ := bsome h
    refine AW.regionAny [⟨[2], [26], [], []⟩, ⟨[26], [27], [3], []⟩, ⟨[3], [28], [], []⟩, ⟨[28], [29], [4], []⟩, ⟨[27, 29], [30], [], []⟩, ⟨[2], [31], [], []⟩, ⟨[31], [32], [3], []⟩, ⟨[3], [33], [], []⟩, ⟨[33], [34], [4], []⟩, ⟨[32, 34], [35], [], []⟩, ⟨[30, 35], [36], [], []⟩, ⟨[4, 36], [], [5], [5]⟩, ⟨[], [5], [], []⟩] mixed (by kernel_rfl) ?_
    refine SeqA.cons (loc [2] [] rfl rfl fun S hs hr => op_field lTern_0 rfl rfl fl54_0 (vt ((hs 2 rfl).trans rfl))) ⟨rfl, rfl, rfl, rfl⟩ ?_
    refine SeqA.cons (loc [26] [3] rfl rfl fun S hs hr => op_load rfl rfl ty52 (vt ((hs 26 rfl).trans rfl)) (i := 3) ((hr 3 rfl).trans rfl)) ⟨rfl, rfl, rfl, rfl⟩ ?_
    refine SeqA.cons (loc [3] [] rfl rfl fun S hs hr => op_field lTern_0 rfl rfl fl54_0 (vt ((hs 3 rfl).trans rfl))) ⟨rfl, rfl, rfl, rfl⟩ ?_
    refine SeqA.cons (loc [28] [4] rfl rfl fun S hs hr => op_load rfl rfl ty52 (vt ((hs 28 rfl).trans rfl)) (i := 4) ((hr 4 rfl).trans rfl)) ⟨rfl, rfl, rfl, rfl⟩ ?_
    refine SeqA.cons (loc [27, 29] [] rfl rfl fun S hs hr => op_call (xs := [.tmp 27, .tmp 29]) (c132 _ _ _ hx13) (Ent.mk Try.func132 rfl rfl) rfl rfl ⟨vt ((hs 27 rfl).trans rfl), vt ((hs 29 rfl).trans rfl), trivial⟩) ⟨rfl, rfl, rfl, rfl⟩ ?_
    refine SeqA.cons (loc [2] [] rfl rfl fun S hs hr => op_field lTern_1 rfl rfl fl54_1 (vt ((hs 2 rfl).trans rfl))) ⟨rfl, rfl, rfl, rfl⟩ ?_
    refine SeqA.cons (loc [31] [3] rfl rfl fun S hs hr => op_load rfl rfl ty52 (vt ((hs 31 rfl).trans rfl)) (i := 3) ((hr 3 rfl).trans rfl)) ⟨rfl, rfl, rfl, rfl⟩ ?_
    refine SeqA.cons (loc [3] [] rfl rfl fun S hs hr => op_field lTern_1 rfl rfl fl54_1 (vt ((hs 3 rfl).trans rfl))) ⟨rfl, rfl, rfl, rfl⟩ ?_
    refine SeqA.cons (loc [33] [4] rfl rfl fun S hs hr => op_load rfl rfl ty52 (vt ((hs 33 rfl).trans rfl)) (i := 4) ((hr 4 rfl).trans rfl)) ⟨rfl, rfl, rfl, rfl⟩ ?_
    refine SeqA.cons (loc [32, 34] [] rfl rfl fun S hs hr => op_call (xs := [.tmp 32, .tmp 34]) (c132 _ _ _ hx14) (Ent.mk Try.func132 rfl rfl) rfl rfl ⟨vt ((hs 32 rfl).trans rfl), vt ((hs 34 rfl).trans rfl), trivial⟩) ⟨rfl, rfl, rfl, rfl⟩ ?_
    refine SeqA.cons (loc [30, 35] [] rfl rfl fun S hs hr => op_build (ps := [(0, .tmp 30), (1, .tmp 35)]) (x := (⟨x13, x14⟩ : Tern)) rfl rfl rfl (by kernel_rfl) zr54 ⟨_, _, lTern_0, _, by kernel_rfl, (vt ((hs 30 rfl).trans rfl)), _, _, lTern_1, _, by kernel_rfl, (vt ((hs 35 rfl).trans rfl)), rfl⟩) ⟨rfl, rfl, rfl, rfl⟩ ?_
    refine SeqA.cons (locr [4, 36] [5] rfl fun S hs hr => op_store rfl rfl ty54 (vt ((hs 4 rfl).trans rfl)) (i := 5) ((hr 5 rfl).trans rfl) (vt ((hs 36 rfl).trans rfl))) ⟨rfl, rfl, rfl, rfl⟩ ?_
    refine SeqA.cons (loc [] [] rfl rfl fun S hs hr => op_assign (A := rd kbool true) rfl rfl vb) ⟨rfl, rfl, rfl, rfl⟩ ?_
    refine AW.ret ?_
    obtain rfl := Option.some.inj h
    exact ret2 Try.results91 rfl (out_cell rfl (i := 5) rfl ty54) (out_tmp rfl)
-- weirbox/weirboxref39.Unlike
def F40_l2 (a1 : (List Atom)) (i4 : Int) (b2 : (List Atom)) (go1 : Int → Option Bool) : Nat → Int → Option Bool
  | 0, _ => none
  | m14 + 1, f13 => (bif (decide (f13 < 24)) then (lget a1 i4).bind fun e15 => (chk 24 f13).bind fun j16 => (lget b2 i4).bind fun e17 => (chk 24 f13).bind fun j18 => (F91 (Vector.get e15.Rewrite j16) (Vector.get e17.Rewrite j18)).bind fun x19 => (bif (!x19.2) then some true else (F40_l2 a1 i4 b2 go1 m14) (IntKind.i64.wrap (f13 + 1))) else go1 (IntKind.i64.wrap (i4 + 1)))
def F40_l1 (a1 : (List Atom)) (b2 : (List Atom)) : Nat → Int → Option Bool
  | 0, _ => none
  | m5 + 1, i4 => (bif (decide (i4 < (a1.length : Int))) then (lget a1 i4).bind fun e6 => (lget b2 i4).bind fun e7 => (opt (!(!(e6.Group == e7.Group))) (lget a1 i4)).bind fun e8 => (opt (!(!(e6.Group == e7.Group))) (lget b2 i4)).bind fun e9 => (opt (!((!(e6.Group == e7.Group)) || (decide (e8.Port ≠ e9.Port)))) (lget a1 i4)).bind fun e10 => (opt (!((!(e6.Group == e7.Group)) || (decide (e8.Port ≠ e9.Port)))) (lget b2 i4)).bind fun e11 => (bif (((!(e6.Group == e7.Group)) || (decide (e8.Port ≠ e9.Port))) || (decide (e10.Max ≠ e11.Max))) then some true else F40_l2 a1 i4 b2 (F40_l1 a1 b2 m5) (((24 : Int) - 0).toNat + 1) 0) else some false)
def F40 (a1 : (List Atom)) (b2 : (List Atom)) : Option Bool :=
  (bif (decide ((a1.length : Int) ≠ (b2.length : Int))) then some true else F40_l1 a1 b2 ((((a1.length : Int) : Int) - 0).toNat + 1) 0)
theorem c40 (a1 : (List Atom)) (b2 : (List Atom)) (r : Bool) (h : F40 a1 b2 = some r) : PCon Try.prog 40 [rd (ksl kAtom) a1, rd (ksl kAtom) b2] (rd kbool r) := by
  refine PCon.of (Con.intro0 Try.func40 rfl Try.ntmps40 rfl fun w H => ?_)
  unfold F40 at h
  refine AW.seq ?_
  refine AW.region ?_
  refine AOps.cons (op_assign (A := rd kbool false) rfl rfl vb) rfl ?_
  refine AOps.nil ?_
  refine AW.seq ?_
  refine AW.seq ?_
  refine AW.region ?_
  refine AOps.cons (op_move (A := rd (ksl kAtom) a1) rfl rfl (vt rfl)) rfl ?_
  refine AOps.cons (op_len' rfl rfl sl57 (vt rfl)) rfl ?_
  refine AOps.cons (op_move (A := rd (ksl kAtom) b2) rfl rfl (vt rfl)) rfl ?_
  refine AOps.cons (op_len' rfl rfl sl57 (vt rfl)) rfl ?_
  refine AOps.cons (op_neq rfl rfl (vt rfl) (vt rfl)) rfl ?_
  refine AOps.nil ?_
  refine AW.cond (vt rfl) (fun hc => ?_) (fun hc => ?_)
  · have h := cond_t hc h
    refine AW.seq ?_
    refine AW.region ?_
    refine AOps.cons (op_assign (A := rd kbool true) rfl rfl vb) rfl ?_
    refine AOps.nil ?_
    refine AW.ret ?_
    obtain rfl := Option.some.inj h
    exact ret1 Try.results40 rfl (out_tmp rfl)
  · have h := cond_f hc h
    refine AW.skip ?_
    refine AW.seq ?_
    refine AW.seq ?_
    refine AW.region ?_
    refine AOps.cons (op_assign (A := rd (kint .i64) 0) rfl rfl (vk rfl)) rfl ?_
    refine AOps.nil ?_
    refine AW.block ?_
    refine AW.loopG (d := []) (ν := Nat × Int) (fun n => True ∧ F40_l1 a1 b2 n.1 n.2 = some r) (fun n => n.1) (fun n => [(0, rd (ksl kAtom) a1), (1, rd (ksl kAtom) b2), (5, rd (kint .i64) n.2)]) (fun n => []) (((((a1.length : Int) : Int) - 0).toNat + 1), 0) ⟨trivial, h⟩ ⟨rfl, ⟨rfl, rfl, rfl, trivial⟩, trivial⟩ ?_
    rintro ⟨m5, i4⟩ ⟨hsf1, h⟩
    change True at hsf1
    change F40_l1 a1 b2 m5 i4 = some r at h
    change AW _ _ _ ⟨slots [(0, rd (ksl kAtom) a1), (1, rd (ksl kAtom) b2), (5, rd (kint .i64) i4)], ress [], _⟩
    cases m5 with
    | zero => cases h
    | succ m5 =>
      unfold F40_l1 at h
      generalize hgo1 : F40_l1 a1 b2 m5 = go1 at h
      refine AW.seq ?_
      refine AW.seq ?_
      refine AW.region ?_
      refine AOps.cons (op_move (A := rd (kint .i64) i4) rfl rfl (vt rfl)) rfl ?_
      refine AOps.cons (op_move (A := rd (ksl kAtom) a1) rfl rfl (vt rfl)) rfl ?_
      refine AOps.cons (op_len' rfl rfl sl57 (vt rfl)) rfl ?_
      refine AOps.cons (op_lss rfl rfl (vt rfl) (vt rfl)) rfl ?_
      refine AOps.nil ?_
      refine AW.cond (vt rfl) (fun hc => ?_) (fun hc => ?_)
      · have h := cond_t hc h
        refine AW.skip ?_
        refine AW.seq ?_
        refine AW.block ?_
        refine AW.seq ?_
        refine AW.seq ?_
        obtain ⟨e6, he6, h⟩ := bsome h
        obtain ⟨e7, he7, h⟩ := bsome h
        obtain ⟨e8, he8, h⟩ := bsome h
        obtain ⟨e9, he9, h⟩ := bsome h
        obtain ⟨e10, he10, h⟩ := bsome h
        obtain ⟨e11, he11, h⟩ := bsome h
        refine AW.regionAny [⟨[0], [20], [], []⟩, ⟨[5], [21], [], []⟩, ⟨[20, 21], [22], [], []⟩, ⟨[22], [23], [], []⟩, ⟨[23], [24], [], []⟩, ⟨[1], [25], [], []⟩, ⟨[5], [26], [], []⟩, ⟨[25, 26], [27], [], []⟩, ⟨[27], [28], [], []⟩, ⟨[28], [29], [], []⟩, ⟨[24, 29], [30], [], []⟩, ⟨[30], [31], [], []⟩, ⟨[0, 31], [32], [], []⟩, ⟨[5, 31], [33], [], []⟩, ⟨[32, 33, 31], [34], [], []⟩, ⟨[34, 31], [35], [], []⟩, ⟨[35, 31], [36], [], []⟩, ⟨[1, 31], [37], [], []⟩, ⟨[5, 31], [38], [], []⟩, ⟨[37, 38, 31], [39], [], []⟩, ⟨[39, 31], [40], [], []⟩, ⟨[40, 31], [41], [], []⟩, ⟨[36, 41, 31], [42], [], []⟩, ⟨[42, 31], [43], [], []⟩, ⟨[43], [44], [], []⟩, ⟨[0, 44], [45], [], []⟩, ⟨[5, 44], [46], [], []⟩, ⟨[45, 46, 44], [47], [], []⟩, ⟨[47, 44], [48], [], []⟩, ⟨[48, 44], [49], [], []⟩, ⟨[1, 44], [50], [], []⟩, ⟨[5, 44], [51], [], []⟩, ⟨[50, 51, 44], [52], [], []⟩, ⟨[52, 44], [53], [], []⟩, ⟨[53, 44], [54], [], []⟩, ⟨[49, 54, 44], [55], [], []⟩, ⟨[55, 44], [56], [], []⟩] mixed (by kernel_rfl) ?_
        refine SeqA.cons (loc [0] [] rfl rfl fun S hs hr => op_move (A := rd (ksl kAtom) a1) rfl rfl (vt ((hs 0 rfl).trans rfl))) ⟨rfl, rfl, rfl, rfl⟩ ?_
        refine SeqA.cons (loc [5] [] rfl rfl fun S hs hr => op_move (A := rd (kint .i64) i4) rfl rfl (vt ((hs 5 rfl).trans rfl))) ⟨rfl, rfl, rfl, rfl⟩ ?_
        refine SeqA.cons (loc [20, 21] [] rfl rfl fun S hs hr => op_indexs' rfl rfl sl57 (vt ((hs 20 rfl).trans rfl)) (vt ((hs 21 rfl).trans rfl)) he6) ⟨rfl, rfl, rfl, rfl⟩ ?_
        refine SeqA.cons (loc [22] [] rfl rfl fun S hs hr => op_fieldp lAtom_1 rfl rfl fl97_1 (vt ((hs 22 rfl).trans rfl))) ⟨rfl, rfl, rfl, rfl⟩ ?_
        refine SeqA.cons (loc [23] [] rfl rfl fun S hs hr => op_loadp rfl rfl ty4 (vt ((hs 23 rfl).trans rfl))) ⟨rfl, rfl, rfl, rfl⟩ ?_
        refine SeqA.cons (loc [1] [] rfl rfl fun S hs hr => op_move (A := rd (ksl kAtom) b2) rfl rfl (vt ((hs 1 rfl).trans rfl))) ⟨rfl, rfl, rfl, rfl⟩ ?_
        refine SeqA.cons (loc [5] [] rfl rfl fun S hs hr => op_move (A := rd (kint .i64) i4) rfl rfl (vt ((hs 5 rfl).trans rfl))) ⟨rfl, rfl, rfl, rfl⟩ ?_
        refine SeqA.cons (loc [25, 26] [] rfl rfl fun S hs hr => op_indexs' rfl rfl sl57 (vt ((hs 25 rfl).trans rfl)) (vt ((hs 26 rfl).trans rfl)) he7) ⟨rfl, rfl, rfl, rfl⟩ ?_
        refine SeqA.cons (loc [27] [] rfl rfl fun S hs hr => op_fieldp lAtom_1 rfl rfl fl97_1 (vt ((hs 27 rfl).trans rfl))) ⟨rfl, rfl, rfl, rfl⟩ ?_
        refine SeqA.cons (loc [28] [] rfl rfl fun S hs hr => op_loadp rfl rfl ty4 (vt ((hs 28 rfl).trans rfl))) ⟨rfl, rfl, rfl, rfl⟩ ?_
        refine SeqA.cons (loc [24, 29] [] rfl rfl fun S hs hr => op_neqb rfl rfl un4 (vt ((hs 24 rfl).trans rfl)) (vt ((hs 29 rfl).trans rfl))) ⟨rfl, rfl, rfl, rfl⟩ ?_
        refine SeqA.cons (loc [30] [] rfl rfl fun S hs hr => op_move (A := rd kbool (!(e6.Group == e7.Group))) rfl rfl (vt ((hs 30 rfl).trans rfl))) ⟨rfl, rfl, rfl, rfl⟩ ?_
        refine SeqA.cons (locg [0, 31] [] rfl rfl rfl rfl rfl rfl rfl fun hq S hs hr => op_move (A := rd (ksl kAtom) a1) rfl rfl (vt ((hs 0 rfl).trans rfl))) ⟨rfl, rfl, rfl, rfl⟩ ?_
        refine SeqA.cons (locg [5, 31] [] rfl rfl rfl rfl rfl rfl rfl fun hq S hs hr => op_move (A := rd (kint .i64) i4) rfl rfl (vt ((hs 5 rfl).trans rfl))) ⟨rfl, rfl, rfl, rfl⟩ ?_
        refine SeqA.cons (locg [32, 33, 31] [] rfl rfl rfl rfl rfl rfl rfl fun hq S hs hr => op_indexs' rfl rfl sl57 (vgt ((hs 32 rfl).trans rfl) hq) (vgt ((hs 33 rfl).trans rfl) hq) (opt_f he8 hq)) ⟨rfl, rfl, rfl, rfl⟩ ?_
        refine SeqA.cons (locg [34, 31] [] rfl rfl rfl rfl rfl rfl rfl fun hq S hs hr => op_fieldp lAtom_2 rfl rfl fl97_2 (vgt ((hs 34 rfl).trans rfl) hq)) ⟨rfl, rfl, rfl, rfl⟩ ?_
        refine SeqA.cons (locg [35, 31] [] rfl rfl rfl rfl rfl rfl rfl fun hq S hs hr => op_loadp rfl rfl ty3 (vgt ((hs 35 rfl).trans rfl) hq)) ⟨rfl, rfl, rfl, rfl⟩ ?_
        refine SeqA.cons (locg [1, 31] [] rfl rfl rfl rfl rfl rfl rfl fun hq S hs hr => op_move (A := rd (ksl kAtom) b2) rfl rfl (vt ((hs 1 rfl).trans rfl))) ⟨rfl, rfl, rfl, rfl⟩ ?_
        refine SeqA.cons (locg [5, 31] [] rfl rfl rfl rfl rfl rfl rfl fun hq S hs hr => op_move (A := rd (kint .i64) i4) rfl rfl (vt ((hs 5 rfl).trans rfl))) ⟨rfl, rfl, rfl, rfl⟩ ?_
        refine SeqA.cons (locg [37, 38, 31] [] rfl rfl rfl rfl rfl rfl rfl fun hq S hs hr => op_indexs' rfl rfl sl57 (vgt ((hs 37 rfl).trans rfl) hq) (vgt ((hs 38 rfl).trans rfl) hq) (opt_f he9 hq)) ⟨rfl, rfl, rfl, rfl⟩ ?_
        refine SeqA.cons (locg [39, 31] [] rfl rfl rfl rfl rfl rfl rfl fun hq S hs hr => op_fieldp lAtom_2 rfl rfl fl97_2 (vgt ((hs 39 rfl).trans rfl) hq)) ⟨rfl, rfl, rfl, rfl⟩ ?_
        refine SeqA.cons (locg [40, 31] [] rfl rfl rfl rfl rfl rfl rfl fun hq S hs hr => op_loadp rfl rfl ty3 (vgt ((hs 40 rfl).trans rfl) hq)) ⟨rfl, rfl, rfl, rfl⟩ ?_
        refine SeqA.cons (locg [36, 41, 31] [] rfl rfl rfl rfl rfl rfl rfl fun hq S hs hr => op_neq rfl rfl (vgt ((hs 36 rfl).trans rfl) hq) (vgt ((hs 41 rfl).trans rfl) hq)) ⟨rfl, rfl, rfl, rfl⟩ ?_
        refine SeqA.cons (loc [42, 31] [] rfl rfl fun S hs hr => op_any rfl rfl (vt ((hs 31 rfl).trans rfl)) (vt ((hs 42 rfl).trans rfl))) ⟨rfl, rfl, rfl, rfl⟩ ?_
        refine SeqA.cons (loc [43] [] rfl rfl fun S hs hr => op_move (A := rd kbool ((!(e6.Group == e7.Group)) || (decide (e8.Port ≠ e9.Port)))) rfl rfl (vt ((hs 43 rfl).trans rfl))) ⟨rfl, rfl, rfl, rfl⟩ ?_
        refine SeqA.cons (locg [0, 44] [] rfl rfl rfl rfl rfl rfl rfl fun hq S hs hr => op_move (A := rd (ksl kAtom) a1) rfl rfl (vt ((hs 0 rfl).trans rfl))) ⟨rfl, rfl, rfl, rfl⟩ ?_
        refine SeqA.cons (locg [5, 44] [] rfl rfl rfl rfl rfl rfl rfl fun hq S hs hr => op_move (A := rd (kint .i64) i4) rfl rfl (vt ((hs 5 rfl).trans rfl))) ⟨rfl, rfl, rfl, rfl⟩ ?_
        refine SeqA.cons (locg [45, 46, 44] [] rfl rfl rfl rfl rfl rfl rfl fun hq S hs hr => op_indexs' rfl rfl sl57 (vgt ((hs 45 rfl).trans rfl) hq) (vgt ((hs 46 rfl).trans rfl) hq) (opt_f he10 hq)) ⟨rfl, rfl, rfl, rfl⟩ ?_
        refine SeqA.cons (locg [47, 44] [] rfl rfl rfl rfl rfl rfl rfl fun hq S hs hr => op_fieldp lAtom_3 rfl rfl fl97_3 (vgt ((hs 47 rfl).trans rfl) hq)) ⟨rfl, rfl, rfl, rfl⟩ ?_
        refine SeqA.cons (locg [48, 44] [] rfl rfl rfl rfl rfl rfl rfl fun hq S hs hr => op_loadp rfl rfl ty3 (vgt ((hs 48 rfl).trans rfl) hq)) ⟨rfl, rfl, rfl, rfl⟩ ?_
        refine SeqA.cons (locg [1, 44] [] rfl rfl rfl rfl rfl rfl rfl fun hq S hs hr => op_move (A := rd (ksl kAtom) b2) rfl rfl (vt ((hs 1 rfl).trans rfl))) ⟨rfl, rfl, rfl, rfl⟩ ?_
        refine SeqA.cons (locg [5, 44] [] rfl rfl rfl rfl rfl rfl rfl fun hq S hs hr => op_move (A := rd (kint .i64) i4) rfl rfl (vt ((hs 5 rfl).trans rfl))) ⟨rfl, rfl, rfl, rfl⟩ ?_
        refine SeqA.cons (locg [50, 51, 44] [] rfl rfl rfl rfl rfl rfl rfl fun hq S hs hr => op_indexs' rfl rfl sl57 (vgt ((hs 50 rfl).trans rfl) hq) (vgt ((hs 51 rfl).trans rfl) hq) (opt_f he11 hq)) ⟨rfl, rfl, rfl, rfl⟩ ?_
        refine SeqA.cons (locg [52, 44] [] rfl rfl rfl rfl rfl rfl rfl fun hq S hs hr => op_fieldp lAtom_3 rfl rfl fl97_3 (vgt ((hs 52 rfl).trans rfl) hq)) ⟨rfl, rfl, rfl, rfl⟩ ?_
        refine SeqA.cons (locg [53, 44] [] rfl rfl rfl rfl rfl rfl rfl fun hq S hs hr => op_loadp rfl rfl ty3 (vgt ((hs 53 rfl).trans rfl) hq)) ⟨rfl, rfl, rfl, rfl⟩ ?_
        refine SeqA.cons (locg [49, 54, 44] [] rfl rfl rfl rfl rfl rfl rfl fun hq S hs hr => op_neq rfl rfl (vgt ((hs 49 rfl).trans rfl) hq) (vgt ((hs 54 rfl).trans rfl) hq)) ⟨rfl, rfl, rfl, rfl⟩ ?_
        refine SeqA.cons (loc [55, 44] [] rfl rfl fun S hs hr => op_any rfl rfl (vt ((hs 44 rfl).trans rfl)) (vt ((hs 55 rfl).trans rfl))) ⟨rfl, rfl, rfl, rfl⟩ ?_
        refine AW.cond (vt rfl) (fun hc => ?_) (fun hc => ?_)
        · have h := cond_t hc h
          refine AW.seq ?_
          refine AW.region ?_
          refine AOps.cons (op_assign (A := rd kbool true) rfl rfl vb) rfl ?_
          refine AOps.nil ?_
          refine AW.ret ?_
          obtain rfl := Option.some.inj h
          exact ret1 Try.results40 rfl (out_tmp rfl)
        · have h := cond_f hc h
          refine AW.skip ?_
          refine AW.seq ?_
          refine AW.region ?_
          refine AOps.cons (op_assign (A := rd (kint .i64) 0) rfl rfl (vk rfl)) rfl ?_
          refine AOps.nil ?_
          refine AW.block ?_
          refine AW.loopG (d := []) (ν := Nat × Int) (fun n => True ∧ F40_l2 a1 i4 b2 go1 n.1 n.2 = some r) (fun n => n.1) (fun n => [(0, rd (ksl kAtom) a1), (1, rd (ksl kAtom) b2), (5, rd (kint .i64) i4), (6, rd (kint .i64) n.2)]) (fun n => []) ((((24 : Int) - 0).toNat + 1), 0) ⟨trivial, h⟩ ⟨rfl, ⟨rfl, rfl, rfl, rfl, trivial⟩, trivial⟩ ?_
          rintro ⟨m14, f13⟩ ⟨hsf2, h⟩
          change True at hsf2
          change F40_l2 a1 i4 b2 go1 m14 f13 = some r at h
          change AW _ _ _ ⟨slots [(0, rd (ksl kAtom) a1), (1, rd (ksl kAtom) b2), (5, rd (kint .i64) i4), (6, rd (kint .i64) f13)], ress [], _⟩
          cases m14 with
          | zero => cases h
          | succ m14 =>
            unfold F40_l2 at h
            generalize hgo2 : F40_l2 a1 i4 b2 go1 m14 = go2 at h
            refine AW.seq ?_
            refine AW.seq ?_
            refine AW.region ?_
            refine AOps.cons (op_move (A := rd (kint .i64) f13) rfl rfl (vt rfl)) rfl ?_
            refine AOps.cons (op_lss rfl rfl (vt rfl) (vk rfl)) rfl ?_
            refine AOps.nil ?_
            refine AW.cond (vt rfl) (fun hc => ?_) (fun hc => ?_)
            · have h := cond_t hc h
              refine AW.skip ?_
              refine AW.seq ?_
              refine AW.block ?_
              refine AW.seq ?_
              obtain ⟨e15, he15, h⟩ := bsome h
              obtain ⟨j16, hj16, h⟩ := bsome h
              obtain ⟨e17, he17, h⟩ := bsome h
              obtain ⟨j18, hj18, h⟩ := bsome h
              obtain ⟨x19, hx19, h⟩ := bsome h
              refine AW.regionAny [⟨[0], [62], [], []⟩, ⟨[5], [63], [], []⟩, ⟨[6], [64], [], []⟩, ⟨[62, 63], [65], [], []⟩, ⟨[65], [66], [], []⟩, ⟨[66, 64], [67], [], []⟩, ⟨[67], [68], [], []⟩, ⟨[1], [69], [], []⟩, ⟨[5], [70], [], []⟩, ⟨[6], [71], [], []⟩, ⟨[69, 70], [72], [], []⟩, ⟨[72], [73], [], []⟩, ⟨[73, 71], [74], [], []⟩, ⟨[74], [75], [], []⟩, ⟨[68, 75], [76], [], []⟩, ⟨[76], [61], [], []⟩, ⟨[61], [77], [], []⟩, ⟨[61], [78], [], []⟩, ⟨[], [7], [], []⟩, ⟨[7, 77], [7], [], []⟩, ⟨[78], [8], [], []⟩] mixed (by kernel_rfl) ?_
              refine SeqA.cons (loc [0] [] rfl rfl fun S hs hr => op_move (A := rd (ksl kAtom) a1) rfl rfl (vt ((hs 0 rfl).trans rfl))) ⟨rfl, rfl, rfl, rfl⟩ ?_
              refine SeqA.cons (loc [5] [] rfl rfl fun S hs hr => op_move (A := rd (kint .i64) i4) rfl rfl (vt ((hs 5 rfl).trans rfl))) ⟨rfl, rfl, rfl, rfl⟩ ?_
              refine SeqA.cons (loc [6] [] rfl rfl fun S hs hr => op_move (A := rd (kint .i64) f13) rfl rfl (vt ((hs 6 rfl).trans rfl))) ⟨rfl, rfl, rfl, rfl⟩ ?_
              refine SeqA.cons (loc [62, 63] [] rfl rfl fun S hs hr => op_indexs' rfl rfl sl57 (vt ((hs 62 rfl).trans rfl)) (vt ((hs 63 rfl).trans rfl)) he15) ⟨rfl, rfl, rfl, rfl⟩ ?_
              refine SeqA.cons (loc [65] [] rfl rfl fun S hs hr => op_fieldp lAtom_0 rfl rfl fl97_0 (vt ((hs 65 rfl).trans rfl))) ⟨rfl, rfl, rfl, rfl⟩ ?_
              refine SeqA.cons (loc [66, 64] [] rfl rfl fun S hs hr => op_indexp' rfl rfl ar95 (vt ((hs 66 rfl).trans rfl)) (vt ((hs 64 rfl).trans rfl)) hj16) ⟨rfl, rfl, rfl, rfl⟩ ?_
              refine SeqA.cons (loc [67] [] rfl rfl fun S hs hr => op_loadp rfl rfl ty54 (vt ((hs 67 rfl).trans rfl))) ⟨rfl, rfl, rfl, rfl⟩ ?_
              refine SeqA.cons (loc [1] [] rfl rfl fun S hs hr => op_move (A := rd (ksl kAtom) b2) rfl rfl (vt ((hs 1 rfl).trans rfl))) ⟨rfl, rfl, rfl, rfl⟩ ?_
              refine SeqA.cons (loc [5] [] rfl rfl fun S hs hr => op_move (A := rd (kint .i64) i4) rfl rfl (vt ((hs 5 rfl).trans rfl))) ⟨rfl, rfl, rfl, rfl⟩ ?_
              refine SeqA.cons (loc [6] [] rfl rfl fun S hs hr => op_move (A := rd (kint .i64) f13) rfl rfl (vt ((hs 6 rfl).trans rfl))) ⟨rfl, rfl, rfl, rfl⟩ ?_
              refine SeqA.cons (loc [69, 70] [] rfl rfl fun S hs hr => op_indexs' rfl rfl sl57 (vt ((hs 69 rfl).trans rfl)) (vt ((hs 70 rfl).trans rfl)) he17) ⟨rfl, rfl, rfl, rfl⟩ ?_
              refine SeqA.cons (loc [72] [] rfl rfl fun S hs hr => op_fieldp lAtom_0 rfl rfl fl97_0 (vt ((hs 72 rfl).trans rfl))) ⟨rfl, rfl, rfl, rfl⟩ ?_
              refine SeqA.cons (loc [73, 71] [] rfl rfl fun S hs hr => op_indexp' rfl rfl ar95 (vt ((hs 73 rfl).trans rfl)) (vt ((hs 71 rfl).trans rfl)) hj18) ⟨rfl, rfl, rfl, rfl⟩ ?_
              refine SeqA.cons (loc [74] [] rfl rfl fun S hs hr => op_loadp rfl rfl ty54 (vt ((hs 74 rfl).trans rfl))) ⟨rfl, rfl, rfl, rfl⟩ ?_
              refine SeqA.cons (loc [68, 75] [] rfl rfl fun S hs hr => op_call (xs := [.tmp 68, .tmp 75]) (c91 _ _ _ hx19) (Ent.mk Try.func91 rfl rfl) rfl rfl ⟨vt ((hs 68 rfl).trans rfl), vt ((hs 75 rfl).trans rfl), trivial⟩) ⟨rfl, rfl, rfl, rfl⟩ ?_
              refine SeqA.cons (loc [76] [] rfl rfl fun S hs hr => op_move (A := tup2 (rd kTern x19.1) (rd kbool x19.2)) rfl rfl (vt ((hs 76 rfl).trans rfl))) ⟨rfl, rfl, rfl, rfl⟩ ?_
              refine SeqA.cons (loc [61] [] rfl rfl fun S hs hr => op_fst rfl rfl (vt ((hs 61 rfl).trans rfl))) ⟨rfl, rfl, rfl, rfl⟩ ?_
              refine SeqA.cons (loc [61] [] rfl rfl fun S hs hr => op_snd rfl rfl (vt ((hs 61 rfl).trans rfl))) ⟨rfl, rfl, rfl, rfl⟩ ?_
              refine SeqA.cons (locs (us := [(7, ownP 54 kTern zTern)]) (ur := []) [] [] rfl fun S hs hr => op_allocO rfl rfl rfl zr54) ⟨rfl, rfl, rfl, rfl⟩ ?_
              refine SeqA.cons (locs (us := [(7, ownP 54 kTern x19.1)]) (ur := []) [7, 77] [] rfl fun S hs hr => op_storeO rfl rfl ty54 ((hs 7 rfl).trans rfl) (vt ((hs 77 rfl).trans rfl))) ⟨rfl, rfl, rfl, rfl⟩ ?_
              refine SeqA.cons (loc [78] [] rfl rfl fun S hs hr => op_assign (A := rd kbool x19.2) rfl rfl (vt ((hs 78 rfl).trans rfl))) ⟨rfl, rfl, rfl, rfl⟩ ?_
              refine AW.unpackP 7 8 rfl rfl fun g20 => ?_
              refine AW.seq ?_
              refine AW.region ?_
              refine AOps.cons (op_move (A := rd kbool x19.2) rfl rfl (vt rfl)) rfl ?_
              refine AOps.cons (op_not rfl rfl (vt rfl)) rfl ?_
              refine AOps.nil ?_
              refine AW.cond (vt rfl) (fun hc => ?_) (fun hc => ?_)
              · have h := cond_t hc h
                refine AW.seq ?_
                refine AW.region ?_
                refine AOps.cons (op_assign (A := rd kbool true) rfl rfl vb) rfl ?_
                refine AOps.nil ?_
                refine AW.ret ?_
                obtain rfl := Option.some.inj h
                exact ret1 Try.results40 rfl (out_tmp rfl)
              · have h := cond_f hc h
                refine AW.skip ?_
                refine AW.region ?_
                refine AOps.cons (op_move (A := rd (kint .i64) f13) rfl rfl (vt rfl)) rfl ?_
                refine AOps.cons (op_add rfl rfl (vt rfl) (vk rfl)) rfl ?_
                refine AOps.cons (op_assign (A := rd (kint .i64) (IntKind.i64.wrap (f13 + 1))) rfl rfl (vt rfl)) rfl ?_
                refine AOps.nil ?_
                subst hgo2
                exact ⟨(m14, (IntKind.i64.wrap (f13 + 1))), Nat.lt_succ_self _, ⟨trivial, h⟩, ⟨rfl, ⟨rfl, rfl, rfl, rfl, trivial⟩, trivial⟩⟩
            · have h := cond_f hc h
              refine AW.exit ?_
              refine AW.region ?_
              refine AOps.cons (op_move (A := rd (kint .i64) i4) rfl rfl (vt rfl)) rfl ?_
              refine AOps.cons (op_add rfl rfl (vt rfl) (vk rfl)) rfl ?_
              refine AOps.cons (op_assign (A := rd (kint .i64) (IntKind.i64.wrap (i4 + 1))) rfl rfl (vt rfl)) rfl ?_
              refine AOps.nil ?_
              subst hgo1
              exact ⟨(m5, (IntKind.i64.wrap (i4 + 1))), Nat.lt_succ_self _, ⟨trivial, h⟩, ⟨rfl, ⟨rfl, rfl, rfl, trivial⟩, trivial⟩⟩
      · have h := cond_f hc h
        refine AW.exit ?_
        refine AW.seq ?_
        refine AW.region ?_
        refine AOps.cons (op_assign (A := rd kbool false) rfl rfl vb) rfl ?_
        refine AOps.nil ?_
        refine AW.ret ?_
        obtain rfl := Option.some.inj h
        exact ret1 Try.results40 rfl (out_tmp rfl)
-- weirbox/weirboxref02.Bit
def F131 (i1 : Int) : Option Wide :=
  (bif ((decide (i1 < 0)) || (decide (i1 > 127))) then some (⟨0, 0⟩ : Wide) else (bif (decide (i1 < 64)) then (oushl (1 : BitVec 64) ((BitVec.ofInt 64 i1).toNat : Int)).bind fun q3 => some (⟨0, q3⟩ : Wide) else (oushl (1 : BitVec 64) ((BitVec.ofInt 64 (IntKind.i64.wrap (i1 - 64))).toNat : Int)).bind fun q4 => some (⟨q4, 0⟩ : Wide)))
theorem c131 (i1 : Int) (r : Wide) (h : F131 i1 = some r) : PCon Try.prog 131 [rd (kint .i64) i1] (rd kWide r) := by
  refine PCon.of (Con.intro0 Try.func131 rfl Try.ntmps131 rfl fun w H => ?_)
  unfold F131 at h
  refine AW.seq ?_
  refine AW.region ?_
  refine AOps.consT rfl (op_alloc 3 rfl rfl zr52) ?_
  rintro _ ⟨g2, rfl⟩
  refine AOps.nil ?_
  refine AW.seq ?_
  refine AW.block ?_
  refine AW.seq ?_
  refine AW.region ?_
  refine AOps.cons (op_move (A := rd (kint .i64) i1) rfl rfl (vt rfl)) rfl ?_
  refine AOps.cons (op_lss rfl rfl (vt rfl) (vk rfl)) rfl ?_
  refine AOps.cons (op_move (A := rd kbool (decide (i1 < 0))) rfl rfl (vt rfl)) rfl ?_
  refine AOps.consG (OpG.guard rfl rfl rfl rfl rfl fun hq => op_move (A := rd (kint .i64) i1) rfl rfl (vt rfl)) ?_
  refine AOps.consG (OpG.guard rfl rfl rfl rfl rfl fun hq => op_gtr rfl rfl (vgt rfl hq) (vk rfl)) ?_
  refine AOps.cons (op_any rfl rfl (vt rfl) (vt rfl)) rfl ?_
  refine AOps.cons (op_assign (A := rd kbool ((decide (i1 < 0)) || (decide (i1 > 127)))) rfl rfl (vt rfl)) rfl ?_
  refine AOps.nil ?_
  refine AW.cond (vt rfl) (fun hc => ?_) (fun hc => ?_)
  · have h := cond_t hc h
    refine AW.seq ?_
    refine AW.region ?_
    refine AOps.cons (op_build (ps := []) (x := (⟨0, 0⟩ : Wide)) rfl rfl rfl (by kernel_rfl) zr52 rfl) rfl ?_
    refine AOps.cons (op_store rfl rfl ty52 (vt rfl) (i := 3) rfl (vt rfl)) rfl ?_
    refine AOps.nil ?_
    refine AW.ret ?_
    obtain rfl := Option.some.inj h
    exact ret1 Try.results131 rfl (out_cell rfl (i := 3) rfl ty52)
  · have h := cond_f hc h
    refine AW.seq ?_
    refine AW.region ?_
    refine AOps.cons (op_move (A := rd (kint .i64) i1) rfl rfl (vt rfl)) rfl ?_
    refine AOps.cons (op_lss rfl rfl (vt rfl) (vk rfl)) rfl ?_
    refine AOps.cons (op_assign (A := rd kbool (decide (i1 < 64))) rfl rfl (vt rfl)) rfl ?_
    refine AOps.nil ?_
    refine AW.cond (vt rfl) (fun hc => ?_) (fun hc => ?_)
    · have h := cond_t hc h
      refine AW.seq ?_
      obtain ⟨q3, hq3, h⟩ := bsome h
      refine AW.region ?_
      refine AOps.cons (op_move (A := rd (kint .i64) i1) rfl rfl (vt rfl)) rfl ?_
      refine AOps.cons (op_convu rfl rfl us3 un113 (vt rfl)) rfl ?_
      refine AOps.cons (op_ushl rfl rfl (vku (1 : BitVec 64) rfl) (vu64 (vt rfl)) hq3) rfl ?_
      refine AOps.cons (op_build (ps := [(1, .tmp 16)]) (x := (⟨0, q3⟩ : Wide)) rfl rfl rfl (by kernel_rfl) zr52 ⟨_, _, lWide_1, _, by kernel_rfl, (vt rfl), rfl⟩) rfl ?_
      refine AOps.cons (op_store rfl rfl ty52 (vt rfl) (i := 3) rfl (vt rfl)) rfl ?_
      refine AOps.nil ?_
      refine AW.ret ?_
      obtain rfl := Option.some.inj h
      exact ret1 Try.results131 rfl (out_cell rfl (i := 3) rfl ty52)
    · have h := cond_f hc h
      refine AW.skip ?_
      refine AW.seq ?_
      obtain ⟨q4, hq4, h⟩ := bsome h
      refine AW.region ?_
      refine AOps.cons (op_move (A := rd (kint .i64) i1) rfl rfl (vt rfl)) rfl ?_
      refine AOps.cons (op_sub rfl rfl (vt rfl) (vk rfl)) rfl ?_
      refine AOps.cons (op_convu rfl rfl us3 un113 (vt rfl)) rfl ?_
      refine AOps.cons (op_ushl rfl rfl (vku (1 : BitVec 64) rfl) (vu64 (vt rfl)) hq4) rfl ?_
      refine AOps.cons (op_build (ps := [(0, .tmp 21)]) (x := (⟨q4, 0⟩ : Wide)) rfl rfl rfl (by kernel_rfl) zr52 ⟨_, _, lWide_0, _, by kernel_rfl, (vt rfl), rfl⟩) rfl ?_
      refine AOps.cons (op_store rfl rfl ty52 (vt rfl) (i := 3) rfl (vt rfl)) rfl ?_
      refine AOps.nil ?_
      refine AW.ret ?_
      obtain rfl := Option.some.inj h
      exact ret1 Try.results131 rfl (out_cell rfl (i := 3) rfl ty52)
-- weirbox/weirboxref02.Has
def F85 (a1 : Wide) (i2 : Int) : Option Bool :=
  (F131 i2).bind fun x4 => (F130 a1 x4).bind fun x5 => (F129 x5).bind fun x6 => some (!x6)
theorem c85 (a1 : Wide) (i2 : Int) (r : Bool) (h : F85 a1 i2 = some r) : PCon Try.prog 85 [rd kWide a1, rd (kint .i64) i2] (rd kbool r) := by
  refine PCon.of (Con.intro0 Try.func85 rfl Try.ntmps85 rfl fun w H => ?_)
  unfold F85 at h
  refine AW.seq ?_
  refine AW.region ?_
  refine AOps.consT rfl (op_box 3 rfl rfl (vt rfl)) ?_
  rintro _ ⟨g3, rfl⟩
  refine AOps.cons (op_assign (A := rd kbool false) rfl rfl vb) rfl ?_
  refine AOps.nil ?_
  refine AW.seq ?_
  obtain ⟨x4, hx4, h⟩ := bsome h
  obtain ⟨x5, hx5, h⟩ := bsome h
  obtain ⟨x6, hx6, h⟩ := bsome h
  refine AW.regionAny [⟨[2], [5], [3], []⟩, ⟨[1], [6], [], []⟩, ⟨[6], [7], [], []⟩, ⟨[5, 7], [8], [], []⟩, ⟨[8], [9], [], []⟩, ⟨[9], [10], [], []⟩, ⟨[10], [4], [], []⟩] mixed (by kernel_rfl) ?_
  refine SeqA.cons (loc [2] [3] rfl rfl fun S hs hr => op_load rfl rfl ty52 (vt ((hs 2 rfl).trans rfl)) (i := 3) ((hr 3 rfl).trans rfl)) ⟨rfl, rfl, rfl, rfl⟩ ?_
  refine SeqA.cons (loc [1] [] rfl rfl fun S hs hr => op_move (A := rd (kint .i64) i2) rfl rfl (vt ((hs 1 rfl).trans rfl))) ⟨rfl, rfl, rfl, rfl⟩ ?_
  refine SeqA.cons (loc [6] [] rfl rfl fun S hs hr => op_call (xs := [.tmp 6]) (c131 _ _ hx4) (Ent.mk Try.func131 rfl rfl) rfl rfl ⟨vt ((hs 6 rfl).trans rfl), trivial⟩) ⟨rfl, rfl, rfl, rfl⟩ ?_
  refine SeqA.cons (loc [5, 7] [] rfl rfl fun S hs hr => op_call (xs := [.tmp 5, .tmp 7]) (c130 _ _ _ hx5) (Ent.mk Try.func130 rfl rfl) rfl rfl ⟨vt ((hs 5 rfl).trans rfl), vt ((hs 7 rfl).trans rfl), trivial⟩) ⟨rfl, rfl, rfl, rfl⟩ ?_
  refine SeqA.cons (loc [8] [] rfl rfl fun S hs hr => op_call (xs := [.tmp 8]) (c129 _ _ hx6) (Ent.mk Try.func129 rfl rfl) rfl rfl ⟨vt ((hs 8 rfl).trans rfl), trivial⟩) ⟨rfl, rfl, rfl, rfl⟩ ?_
  refine SeqA.cons (loc [9] [] rfl rfl fun S hs hr => op_not rfl rfl (vt ((hs 9 rfl).trans rfl))) ⟨rfl, rfl, rfl, rfl⟩ ?_
  refine SeqA.cons (loc [10] [] rfl rfl fun S hs hr => op_assign (A := rd kbool (!x6)) rfl rfl (vt ((hs 10 rfl).trans rfl))) ⟨rfl, rfl, rfl, rfl⟩ ?_
  refine AW.ret ?_
  obtain rfl := Option.some.inj h
  exact ret1 Try.results85 rfl (out_tmp rfl)
-- weirbox/weirboxref39.single
def F84 (a1 : Tern) (b2 : Tern) (bit3 : Int) : Option (Bool × Bool) :=
  (F85 a1.Mask bit3).bind fun x6 => (F85 b2.Mask bit3).bind fun x7 => (bif (x6 == x7) then some (false, false) else (bif x6 then (F85 a1.Value bit3).bind fun x8 => some (true, x8) else (F85 b2.Value bit3).bind fun x9 => some (true, x9)))
theorem c84 (a1 : Tern) (b2 : Tern) (bit3 : Int) (r : (Bool × Bool)) (h : F84 a1 b2 bit3 = some r) : PCon Try.prog 84 [rd kTern a1, rd kTern b2, rd (kint .i64) bit3] (tup2 (rd kbool r.1) (rd kbool r.2)) := by
  refine PCon.of (Con.intro0 Try.func84 rfl Try.ntmps84 rfl fun w H => ?_)
  unfold F84 at h
  refine AW.seq ?_
  refine AW.region ?_
  refine AOps.consT rfl (op_box 4 rfl rfl (vt rfl)) ?_
  rintro _ ⟨g4, rfl⟩
  refine AOps.consT rfl (op_box 5 rfl rfl (vt rfl)) ?_
  rintro _ ⟨g5, rfl⟩
  refine AOps.cons (op_assign (A := rd kbool false) rfl rfl vb) rfl ?_
  refine AOps.cons (op_assign (A := rd kbool false) rfl rfl vb) rfl ?_
  refine AOps.nil ?_
  refine AW.seq ?_
  obtain ⟨x6, hx6, h⟩ := bsome h
  obtain ⟨x7, hx7, h⟩ := bsome h
  refine AW.regionAny [⟨[3], [10], [], []⟩, ⟨[10], [11], [4], []⟩, ⟨[2], [12], [], []⟩, ⟨[11, 12], [13], [], []⟩, ⟨[4], [14], [], []⟩, ⟨[14], [15], [5], []⟩, ⟨[2], [16], [], []⟩, ⟨[15, 16], [17], [], []⟩, ⟨[13], [8], [], []⟩, ⟨[17], [9], [], []⟩] mixed (by kernel_rfl) ?_
  refine SeqA.cons (loc [3] [] rfl rfl fun S hs hr => op_field lTern_1 rfl rfl fl54_1 (vt ((hs 3 rfl).trans rfl))) ⟨rfl, rfl, rfl, rfl⟩ ?_
  refine SeqA.cons (loc [10] [4] rfl rfl fun S hs hr => op_load rfl rfl ty52 (vt ((hs 10 rfl).trans rfl)) (i := 4) ((hr 4 rfl).trans rfl)) ⟨rfl, rfl, rfl, rfl⟩ ?_
  refine SeqA.cons (loc [2] [] rfl rfl fun S hs hr => op_move (A := rd (kint .i64) bit3) rfl rfl (vt ((hs 2 rfl).trans rfl))) ⟨rfl, rfl, rfl, rfl⟩ ?_
  refine SeqA.cons (loc [11, 12] [] rfl rfl fun S hs hr => op_call (xs := [.tmp 11, .tmp 12]) (c85 _ _ _ hx6) (Ent.mk Try.func85 rfl rfl) rfl rfl ⟨vt ((hs 11 rfl).trans rfl), vt ((hs 12 rfl).trans rfl), trivial⟩) ⟨rfl, rfl, rfl, rfl⟩ ?_
  refine SeqA.cons (loc [4] [] rfl rfl fun S hs hr => op_field lTern_1 rfl rfl fl54_1 (vt ((hs 4 rfl).trans rfl))) ⟨rfl, rfl, rfl, rfl⟩ ?_
  refine SeqA.cons (loc [14] [5] rfl rfl fun S hs hr => op_load rfl rfl ty52 (vt ((hs 14 rfl).trans rfl)) (i := 5) ((hr 5 rfl).trans rfl)) ⟨rfl, rfl, rfl, rfl⟩ ?_
  refine SeqA.cons (loc [2] [] rfl rfl fun S hs hr => op_move (A := rd (kint .i64) bit3) rfl rfl (vt ((hs 2 rfl).trans rfl))) ⟨rfl, rfl, rfl, rfl⟩ ?_
  refine SeqA.cons (loc [15, 16] [] rfl rfl fun S hs hr => op_call (xs := [.tmp 15, .tmp 16]) (c85 _ _ _ hx7) (Ent.mk Try.func85 rfl rfl) rfl rfl ⟨vt ((hs 15 rfl).trans rfl), vt ((hs 16 rfl).trans rfl), trivial⟩) ⟨rfl, rfl, rfl, rfl⟩ ?_
  refine SeqA.cons (loc [13] [] rfl rfl fun S hs hr => op_assign (A := rd kbool x6) rfl rfl (vt ((hs 13 rfl).trans rfl))) ⟨rfl, rfl, rfl, rfl⟩ ?_
  refine SeqA.cons (loc [17] [] rfl rfl fun S hs hr => op_assign (A := rd kbool x7) rfl rfl (vt ((hs 17 rfl).trans rfl))) ⟨rfl, rfl, rfl, rfl⟩ ?_
  refine AW.seq ?_
  refine AW.seq ?_
  refine AW.region ?_
  refine AOps.cons (op_move (A := rd kbool x6) rfl rfl (vt rfl)) rfl ?_
  refine AOps.cons (op_move (A := rd kbool x7) rfl rfl (vt rfl)) rfl ?_
  refine AOps.cons (op_eqlb rfl rfl un4 (vt rfl) (vt rfl)) rfl ?_
  refine AOps.nil ?_
  refine AW.cond (vt rfl) (fun hc => ?_) (fun hc => ?_)
  · have h := cond_t hc h
    refine AW.seq ?_
    refine AW.region ?_
    refine AOps.cons (op_assign (A := rd kbool false) rfl rfl vb) rfl ?_
    refine AOps.cons (op_assign (A := rd kbool false) rfl rfl vb) rfl ?_
    refine AOps.nil ?_
    refine AW.ret ?_
    obtain rfl := Option.some.inj h
    exact ret2 Try.results84 rfl (out_tmp rfl) (out_tmp rfl)
  · have h := cond_f hc h
    refine AW.skip ?_
    refine AW.seq ?_
    refine AW.seq ?_
    refine AW.region ?_
    refine AOps.cons (op_move (A := rd kbool x6) rfl rfl (vt rfl)) rfl ?_
    refine AOps.nil ?_
    refine AW.cond (vt rfl) (fun hc => ?_) (fun hc => ?_)
    · have h := cond_t hc h
      refine AW.seq ?_
      obtain ⟨x8, hx8, h⟩ := bsome h
      refine AW.region ?_
      refine AOps.cons (op_field lTern_0 rfl rfl fl54_0 (vt rfl)) rfl ?_
      refine AOps.cons (op_load rfl rfl ty52 (vt rfl) (i := 4) rfl) rfl ?_
      refine AOps.cons (op_move (A := rd (kint .i64) bit3) rfl rfl (vt rfl)) rfl ?_
      refine AOps.cons (op_call (xs := [.tmp 23, .tmp 24]) (c85 _ _ _ hx8) (Ent.mk Try.func85 rfl rfl) rfl rfl ⟨vt rfl, vt rfl, trivial⟩) rfl ?_
      refine AOps.cons (op_assign (A := rd kbool true) rfl rfl vb) rfl ?_
      refine AOps.cons (op_assign (A := rd kbool x8) rfl rfl (vt rfl)) rfl ?_
      refine AOps.nil ?_
      refine AW.ret ?_
      obtain rfl := Option.some.inj h
      exact ret2 Try.results84 rfl (out_tmp rfl) (out_tmp rfl)
    · have h := cond_f hc h
      refine AW.skip ?_
      refine AW.seq ?_
      obtain ⟨x9, hx9, h⟩ := bsome h
      refine AW.region ?_
      refine AOps.cons (op_field lTern_0 rfl rfl fl54_0 (vt rfl)) rfl ?_
      refine AOps.cons (op_load rfl rfl ty52 (vt rfl) (i := 5) rfl) rfl ?_
      refine AOps.cons (op_move (A := rd (kint .i64) bit3) rfl rfl (vt rfl)) rfl ?_
      refine AOps.cons (op_call (xs := [.tmp 27, .tmp 28]) (c85 _ _ _ hx9) (Ent.mk Try.func85 rfl rfl) rfl rfl ⟨vt rfl, vt rfl, trivial⟩) rfl ?_
      refine AOps.cons (op_assign (A := rd kbool true) rfl rfl vb) rfl ?_
      refine AOps.cons (op_assign (A := rd kbool x9) rfl rfl (vt rfl)) rfl ?_
      refine AOps.nil ?_
      refine AW.ret ?_
      obtain rfl := Option.some.inj h
      exact ret2 Try.results84 rfl (out_tmp rfl) (out_tmp rfl)
-- weirbox/weirboxref02.Less
def F133 (a1 : Wide) (b2 : Wide) : Option Wide :=
  some (⟨(a1.Hi &&& ~~~b2.Hi), (a1.Lo &&& ~~~b2.Lo)⟩ : Wide)
theorem c133 (a1 : Wide) (b2 : Wide) (r : Wide) (h : F133 a1 b2 = some r) : PCon Try.prog 133 [rd kWide a1, rd kWide b2] (rd kWide r) := by
  refine PCon.of (Con.intro0 Try.func133 rfl Try.ntmps133 rfl fun w H => ?_)
  unfold F133 at h
  refine AW.seq ?_
  refine AW.region ?_
  refine AOps.consT rfl (op_box 3 rfl rfl (vt rfl)) ?_
  rintro _ ⟨g3, rfl⟩
  refine AOps.consT rfl (op_box 4 rfl rfl (vt rfl)) ?_
  rintro _ ⟨g4, rfl⟩
  refine AOps.consT rfl (op_alloc 5 rfl rfl zr52) ?_
  rintro _ ⟨g5, rfl⟩
  refine AOps.nil ?_
  refine AW.seq ?_
  refine AW.region ?_
  refine AOps.cons (op_field lWide_0 rfl rfl fl52_0 (vt rfl)) rfl ?_
  refine AOps.cons (op_load rfl rfl ty50 (vt rfl) (i := 3) rfl) rfl ?_
  refine AOps.cons (op_field lWide_0 rfl rfl fl52_0 (vt rfl)) rfl ?_
  refine AOps.cons (op_load rfl rfl ty50 (vt rfl) (i := 4) rfl) rfl ?_
  refine AOps.cons (op_andNot rfl rfl (vt rfl) (vt rfl)) rfl ?_
  refine AOps.cons (op_field lWide_1 rfl rfl fl52_1 (vt rfl)) rfl ?_
  refine AOps.cons (op_load rfl rfl ty50 (vt rfl) (i := 3) rfl) rfl ?_
  refine AOps.cons (op_field lWide_1 rfl rfl fl52_1 (vt rfl)) rfl ?_
  refine AOps.cons (op_load rfl rfl ty50 (vt rfl) (i := 4) rfl) rfl ?_
  refine AOps.cons (op_andNot rfl rfl (vt rfl) (vt rfl)) rfl ?_
  refine AOps.cons (op_build (ps := [(0, .tmp 9), (1, .tmp 14)]) (x := (⟨(a1.Hi &&& ~~~b2.Hi), (a1.Lo &&& ~~~b2.Lo)⟩ : Wide)) rfl rfl rfl (by kernel_rfl) zr52 ⟨_, _, lWide_0, _, by kernel_rfl, (vt rfl), _, _, lWide_1, _, by kernel_rfl, (vt rfl), rfl⟩) rfl ?_
  refine AOps.cons (op_store rfl rfl ty52 (vt rfl) (i := 5) rfl (vt rfl)) rfl ?_
  refine AOps.nil ?_
  refine AW.ret ?_
  obtain rfl := Option.some.inj h
  exact ret1 Try.results133 rfl (out_cell rfl (i := 5) rfl ty52)
-- weirbox/weirboxref05.Fix
def F86 (t1 : Tern) (i2 : Int) (on3 : Bool) : Option Tern :=
  (F128 t1).bind fun x6 => (F131 i2).bind fun x7 => (F132 x6.Mask x7).bind fun x9 => (F133 ({ x6 with Mask := x9 }.Value) x7).bind fun x10 => (bif on3 then (F132 ({ { x6 with Mask := x9 } with Value := x10 }.Value) x7).bind fun x11 => some { { { x6 with Mask := x9 } with Value := x10 } with Value := x11 } else some { { x6 with Mask := x9 } with Value := x10 })
theorem c86 (t1 : Tern) (i2 : Int) (on3 : Bool) (r : Tern) (h : F86 t1 i2 on3 = some r) : PCon Try.prog 86 [rd kTern t1, rd (kint .i64) i2, rd kbool on3] (rd kTern r) := by
  refine PCon.of (Con.intro0 Try.func86 rfl Try.ntmps86 rfl fun w H => ?_)
  unfold F86 at h
  refine AW.seq ?_
  refine AW.region ?_
  refine AOps.consT rfl (op_box 4 rfl rfl (vt rfl)) ?_
  rintro _ ⟨g4, rfl⟩
  refine AOps.consT rfl (op_alloc 7 rfl rfl zr54) ?_
  rintro _ ⟨g5, rfl⟩
  refine AOps.nil ?_
  refine AW.seq ?_
  obtain ⟨x6, hx6, h⟩ := bsome h
  refine AW.region ?_
  refine AOps.cons (op_load rfl rfl ty54 (vt rfl) (i := 4) rfl) rfl ?_
  refine AOps.cons (op_call (xs := [.tmp 8]) (c128 _ _ hx6) (Ent.mk Try.func128 rfl rfl) rfl rfl ⟨vt rfl, trivial⟩) rfl ?_
  refine AOps.cons (op_store rfl rfl ty54 (vt rfl) (i := 4) rfl (vt rfl)) rfl ?_
  refine AOps.nil ?_
  refine AW.seq ?_
  obtain ⟨x7, hx7, h⟩ := bsome h
  refine AW.region ?_
  refine AOps.cons (op_move (A := rd (kint .i64) i2) rfl rfl (vt rfl)) rfl ?_
  refine AOps.cons (op_call (xs := [.tmp 10]) (c131 _ _ hx7) (Ent.mk Try.func131 rfl rfl) rfl rfl ⟨vt rfl, trivial⟩) rfl ?_
  refine AOps.consT rfl (op_alloc 8 rfl rfl zr52) ?_
  rintro _ ⟨g8, rfl⟩
  refine AOps.cons (op_store rfl rfl ty52 (vt rfl) (i := 8) rfl (vt rfl)) rfl ?_
  refine AOps.nil ?_
  refine AW.seq ?_
  obtain ⟨x9, hx9, h⟩ := bsome h
  refine AW.region ?_
  refine AOps.cons (op_field lTern_1 rfl rfl fl54_1 (vt rfl)) rfl ?_
  refine AOps.cons (op_load rfl rfl ty52 (vt rfl) (i := 4) rfl) rfl ?_
  refine AOps.cons (op_load rfl rfl ty52 (vt rfl) (i := 8) rfl) rfl ?_
  refine AOps.cons (op_call (xs := [.tmp 13, .tmp 14]) (c132 _ _ _ hx9) (Ent.mk Try.func132 rfl rfl) rfl rfl ⟨vt rfl, vt rfl, trivial⟩) rfl ?_
  refine AOps.cons (op_field lTern_1 rfl rfl fl54_1 (vt rfl)) rfl ?_
  refine AOps.cons (op_store rfl rfl ty52 (vt rfl) (i := 4) rfl (vt rfl)) rfl ?_
  refine AOps.nil ?_
  refine AW.seq ?_
  obtain ⟨x10, hx10, h⟩ := bsome h
  refine AW.region ?_
  refine AOps.cons (op_field lTern_0 rfl rfl fl54_0 (vt rfl)) rfl ?_
  refine AOps.cons (op_load rfl rfl ty52 (vt rfl) (i := 4) rfl) rfl ?_
  refine AOps.cons (op_load rfl rfl ty52 (vt rfl) (i := 8) rfl) rfl ?_
  refine AOps.cons (op_call (xs := [.tmp 18, .tmp 19]) (c133 _ _ _ hx10) (Ent.mk Try.func133 rfl rfl) rfl rfl ⟨vt rfl, vt rfl, trivial⟩) rfl ?_
  refine AOps.cons (op_field lTern_0 rfl rfl fl54_0 (vt rfl)) rfl ?_
  refine AOps.cons (op_store rfl rfl ty52 (vt rfl) (i := 4) rfl (vt rfl)) rfl ?_
  refine AOps.nil ?_
  refine AW.seq ?_
  refine AW.seq ?_
  refine AW.region ?_
  refine AOps.cons (op_move (A := rd kbool on3) rfl rfl (vt rfl)) rfl ?_
  refine AOps.nil ?_
  refine AW.cond (vt rfl) (fun hc => ?_) (fun hc => ?_)
  · have h := cond_t hc h
    obtain ⟨x11, hx11, h⟩ := bsome h
    refine AW.region ?_
    refine AOps.cons (op_field lTern_0 rfl rfl fl54_0 (vt rfl)) rfl ?_
    refine AOps.cons (op_load rfl rfl ty52 (vt rfl) (i := 4) rfl) rfl ?_
    refine AOps.cons (op_load rfl rfl ty52 (vt rfl) (i := 8) rfl) rfl ?_
    refine AOps.cons (op_call (xs := [.tmp 24, .tmp 25]) (c132 _ _ _ hx11) (Ent.mk Try.func132 rfl rfl) rfl rfl ⟨vt rfl, vt rfl, trivial⟩) rfl ?_
    refine AOps.cons (op_field lTern_0 rfl rfl fl54_0 (vt rfl)) rfl ?_
    refine AOps.cons (op_store rfl rfl ty52 (vt rfl) (i := 4) rfl (vt rfl)) rfl ?_
    refine AOps.nil ?_
    refine AW.seq ?_
    refine AW.region ?_
    refine AOps.cons (op_load rfl rfl ty54 (vt rfl) (i := 4) rfl) rfl ?_
    refine AOps.cons (op_store rfl rfl ty54 (vt rfl) (i := 7) rfl (vt rfl)) rfl ?_
    refine AOps.nil ?_
    refine AW.ret ?_
    obtain rfl := Option.some.inj h
    exact ret1 Try.results86 rfl (out_cell rfl (i := 7) rfl ty54)
  · have h := cond_f hc h
    refine AW.skip ?_
    refine AW.seq ?_
    refine AW.region ?_
    refine AOps.cons (op_load rfl rfl ty54 (vt rfl) (i := 4) rfl) rfl ?_
    refine AOps.cons (op_store rfl rfl ty54 (vt rfl) (i := 7) rfl (vt rfl)) rfl ?_
    refine AOps.nil ?_
    refine AW.ret ?_
    obtain rfl := Option.some.inj h
    exact ret1 Try.results86 rfl (out_cell rfl (i := 7) rfl ty54)
-- weirbox/weirboxref39.List
def F35_l3 (a2 : (List Atom)) (i13 : Int) (f20 : Int) (b3 : (List Atom)) (x5 : (Vector Tern 24)) (go2 : (List (Vector Tern 24)) → Int → Option (List (Vector Tern 24))) : Nat → (List (Vector Tern 24)) → Int → Option (List (Vector Tern 24))
  | 0, _, _ => none
  | m28 + 1, l25, bit27 => (bif (decide (bit27 ≥ 0)) then (lget a2 i13).bind fun e29 => (chk 24 f20).bind fun j30 => (lget b3 i13).bind fun e31 => (chk 24 f20).bind fun j32 => (F84 (Vector.get e29.Rewrite j30) (Vector.get e31.Rewrite j32) bit27).bind fun x33 => (chk 24 f20).bind fun j34 => (F85 ((Vector.get x5 j34).Mask) bit27).bind fun x35 => (opt (((!x33.1) == false) && (x35 == true)) (chk 24 f20)).bind fun j36 => (opt (((!x33.1) == false) && (x35 == true)) (F85 ((Vector.get x5 j36).Value) bit27)).bind fun x37 => (bif ((!x33.1) || (x35 && (x37 == x33.2))) then (F35_l3 a2 i13 f20 b3 x5 go2 m28) l25 (IntKind.i64.wrap (bit27 - 1)) else (chk 24 f20).bind fun j39 => (F86 (Vector.get x5 j39) bit27 (!x33.2)).bind fun x40 => (chk 24 f20).bind fun j41 => (appd l25 [(Vector.set x5 j41.1 x40 j41.2)]).bind fun l42 => (F35_l3 a2 i13 f20 b3 x5 go2 m28) l42 (IntKind.i64.wrap (bit27 - 1))) else go2 l25 (IntKind.i64.wrap (f20 + 1)))
def F35_l2 (a2 : (List Atom)) (i13 : Int) (b3 : (List Atom)) (x5 : (Vector Tern 24)) (go1 : (List (Vector Tern 24)) → Int → Option (List (Vector Tern 24))) : Nat → (List (Vector Tern 24)) → Int → Option (List (Vector Tern 24))
  | 0, _, _ => none
  | m21 + 1, l18, f20 => (bif (decide (f20 < 24)) then F35_l3 a2 i13 f20 b3 x5 (F35_l2 a2 i13 b3 x5 go1 m21) (((127 : Int) - 0).toNat + 2) l18 127 else go1 l18 (IntKind.i64.wrap (i13 + 1)))
def F35_l1 (a2 : (List Atom)) (b3 : (List Atom)) (x5 : (Vector Tern 24)) : Nat → (List (Vector Tern 24)) → Int → Option (List (Vector Tern 24))
  | 0, _, _ => none
  | m14 + 1, l11, i13 => (bif (decide (i13 < (a2.length : Int))) then F35_l2 a2 i13 b3 x5 (F35_l1 a2 b3 x5 m14) (((24 : Int) - 0).toNat + 1) l11 0 else some l11)
def F35 (c1 : (Vector Tern 24)) (a2 : (List Atom)) (b3 : (List Atom)) : Option (List (Vector Tern 24)) :=
  (F83 c1).bind fun x5 => (F40 a2 b3).bind fun x6 => (bif x6 then some [x5] else F35_l1 a2 b3 x5 ((((a2.length : Int) : Int) - 0).toNat + 1) [] 0)
theorem c35 (c1 : (Vector Tern 24)) (a2 : (List Atom)) (b3 : (List Atom)) (r : (List (Vector Tern 24))) (h : F35 c1 a2 b3 = some r) : PCon Try.prog 35 [rd (karr 24 kTern) c1, rd (ksl kAtom) a2, rd (ksl kAtom) b3] (rd (ksl (karr 24 kTern)) r) := by
  refine PCon.of (Con.intro0 Try.func35 rfl Try.ntmps35 rfl fun w H => ?_)
  unfold F35 at h
  refine AW.seq ?_
  refine AW.region ?_
  refine AOps.consT rfl (op_box 4 rfl rfl (vt rfl)) ?_
  rintro _ ⟨g4, rfl⟩
  refine AOps.cons (op_assign (A := rd (ksl (karr 24 kTern)) []) rfl rfl vnil) rfl ?_
  refine AOps.nil ?_
  refine AW.seq ?_
  obtain ⟨x5, hx5, h⟩ := bsome h
  refine AW.region ?_
  refine AOps.cons (op_load rfl rfl ty56 (vt rfl) (i := 4) rfl) rfl ?_
  refine AOps.cons (op_call (xs := [.tmp 15]) (c83 _ _ hx5) (Ent.mk Try.func83 rfl rfl) rfl rfl ⟨vt rfl, trivial⟩) rfl ?_
  refine AOps.cons (op_store rfl rfl ty56 (vt rfl) (i := 4) rfl (vt rfl)) rfl ?_
  refine AOps.nil ?_
  refine AW.seq ?_
  refine AW.seq ?_
  obtain ⟨x6, hx6, h⟩ := bsome h
  refine AW.region ?_
  refine AOps.cons (op_move (A := rd (ksl kAtom) a2) rfl rfl (vt rfl)) rfl ?_
  refine AOps.cons (op_move (A := rd (ksl kAtom) b3) rfl rfl (vt rfl)) rfl ?_
  refine AOps.cons (op_call (xs := [.tmp 17, .tmp 18]) (c40 _ _ _ hx6) (Ent.mk Try.func40 rfl rfl) rfl rfl ⟨vt rfl, vt rfl, trivial⟩) rfl ?_
  refine AOps.nil ?_
  refine AW.cond (vt rfl) (fun hc => ?_) (fun hc => ?_)
  · have h := cond_t hc h
    refine AW.seq ?_
    refine AW.region ?_
    refine AOps.cons (op_load rfl rfl ty56 (vt rfl) (i := 4) rfl) rfl ?_
    refine AOps.cons (op_buildSliceR (ps := [(0, .tmp 20)]) (l := [x5]) rfl rfl sl64 zr56 rfl rfl ⟨_, _, Lens.idx 1 (karr 24 kTern) 0 (by decide), _, rfl, (vt rfl), rfl⟩ rfl) rfl ?_
    refine AOps.cons (op_assign (A := rd (ksl (karr 24 kTern)) [x5]) rfl rfl (vt rfl)) rfl ?_
    refine AOps.nil ?_
    refine AW.ret ?_
    obtain rfl := Option.some.inj h
    exact ret1 Try.results35 rfl (out_tmp rfl)
  · have h := cond_f hc h
    refine AW.skip ?_
    refine AW.seq ?_
    refine AW.region ?_
    refine AOps.consT rfl (op_buildSlice 1001 (ps := []) (l := []) rfl rfl sl64 zr56 rfl rfl rfl rfl) ?_
    rintro _ ⟨v7, rfl⟩
    refine AOps.cons (op_assign (A := raw v7) rfl rfl (vt rfl)) rfl ?_
    refine AOps.nil ?_
    refine AW.seq ?_
    refine AW.seq ?_
    refine AW.region ?_
    refine AOps.cons (op_assign (A := rd (kint .i64) 0) rfl rfl (vk rfl)) rfl ?_
    refine AOps.nil ?_
    refine AW.block ?_
    refine AW.loopG (d := []) (ν := Nat × (List (Vector Tern 24)) × Int × Value) (fun n => True ∧ F35_l1 a2 b3 x5 n.1 n.2.1 n.2.2.1 = some r) (fun n => n.1) (fun n => [(1, rd (ksl kAtom) a2), (2, rd (ksl kAtom) b3), (3, ptrL g4 (Lens.id (karr 24 kTern))), (7, raw n.2.2.2), (8, rd (kint .i64) n.2.2.1)]) (fun n => [(4, Blk g4 56 (karr 24 kTern) x5), (1001, Row n.2.2.2 56 (karr 24 kTern) n.2.1)]) (((((a2.length : Int) : Int) - 0).toNat + 1), [], 0, v7) ⟨trivial, h⟩ ⟨rfl, ⟨rfl, rfl, rfl, rfl, rfl, trivial⟩, ⟨rfl, rfl, trivial⟩⟩ ?_
    rintro ⟨m14, l11, i13, v12⟩ ⟨hsf1, h⟩
    change True at hsf1
    change F35_l1 a2 b3 x5 m14 l11 i13 = some r at h
    change AW _ _ _ ⟨slots [(1, rd (ksl kAtom) a2), (2, rd (ksl kAtom) b3), (3, ptrL g4 (Lens.id (karr 24 kTern))), (7, raw v12), (8, rd (kint .i64) i13)], ress [(4, Blk g4 56 (karr 24 kTern) x5), (1001, Row v12 56 (karr 24 kTern) l11)], _⟩
    cases m14 with
    | zero => cases h
    | succ m14 =>
      unfold F35_l1 at h
      generalize hgo1 : F35_l1 a2 b3 x5 m14 = go1 at h
      refine AW.seq ?_
      refine AW.seq ?_
      refine AW.region ?_
      refine AOps.cons (op_move (A := rd (kint .i64) i13) rfl rfl (vt rfl)) rfl ?_
      refine AOps.cons (op_move (A := rd (ksl kAtom) a2) rfl rfl (vt rfl)) rfl ?_
      refine AOps.cons (op_len' rfl rfl sl57 (vt rfl)) rfl ?_
      refine AOps.cons (op_lss rfl rfl (vt rfl) (vt rfl)) rfl ?_
      refine AOps.nil ?_
      refine AW.cond (vt rfl) (fun hc => ?_) (fun hc => ?_)
      · have h := cond_t hc h
        refine AW.skip ?_
        refine AW.seq ?_
        refine AW.block ?_
        refine AW.seq ?_
        refine AW.region ?_
        refine AOps.cons (op_assign (A := rd (kint .i64) 0) rfl rfl (vk rfl)) rfl ?_
        refine AOps.nil ?_
        refine AW.block ?_
        refine AW.loopG (d := []) (ν := Nat × (List (Vector Tern 24)) × Int × Value) (fun n => True ∧ F35_l2 a2 i13 b3 x5 go1 n.1 n.2.1 n.2.2.1 = some r) (fun n => n.1) (fun n => [(1, rd (ksl kAtom) a2), (2, rd (ksl kAtom) b3), (3, ptrL g4 (Lens.id (karr 24 kTern))), (7, raw n.2.2.2), (8, rd (kint .i64) i13), (9, rd (kint .i64) n.2.2.1)]) (fun n => [(4, Blk g4 56 (karr 24 kTern) x5), (1001, Row n.2.2.2 56 (karr 24 kTern) n.2.1)]) ((((24 : Int) - 0).toNat + 1), l11, 0, v12) ⟨trivial, h⟩ ⟨rfl, ⟨rfl, rfl, rfl, rfl, rfl, rfl, trivial⟩, ⟨rfl, rfl, trivial⟩⟩ ?_
        rintro ⟨m21, l18, f20, v19⟩ ⟨hsf2, h⟩
        change True at hsf2
        change F35_l2 a2 i13 b3 x5 go1 m21 l18 f20 = some r at h
        change AW _ _ _ ⟨slots [(1, rd (ksl kAtom) a2), (2, rd (ksl kAtom) b3), (3, ptrL g4 (Lens.id (karr 24 kTern))), (7, raw v19), (8, rd (kint .i64) i13), (9, rd (kint .i64) f20)], ress [(4, Blk g4 56 (karr 24 kTern) x5), (1001, Row v19 56 (karr 24 kTern) l18)], _⟩
        cases m21 with
        | zero => cases h
        | succ m21 =>
          unfold F35_l2 at h
          generalize hgo2 : F35_l2 a2 i13 b3 x5 go1 m21 = go2 at h
          refine AW.seq ?_
          refine AW.seq ?_
          refine AW.region ?_
          refine AOps.cons (op_move (A := rd (kint .i64) f20) rfl rfl (vt rfl)) rfl ?_
          refine AOps.cons (op_lss rfl rfl (vt rfl) (vk rfl)) rfl ?_
          refine AOps.nil ?_
          refine AW.cond (vt rfl) (fun hc => ?_) (fun hc => ?_)
          · have h := cond_t hc h
            refine AW.skip ?_
            refine AW.seq ?_
            refine AW.block ?_
            refine AW.seq ?_
            refine AW.region ?_
            refine AOps.cons (op_assign (A := rd (kint .i64) 127) rfl rfl (vk rfl)) rfl ?_
            refine AOps.nil ?_
            refine AW.block ?_
            refine AW.loopG (d := []) (ν := Nat × (List (Vector Tern 24)) × Int × Value) (fun n => True ∧ F35_l3 a2 i13 f20 b3 x5 go2 n.1 n.2.1 n.2.2.1 = some r) (fun n => n.1) (fun n => [(1, rd (ksl kAtom) a2), (2, rd (ksl kAtom) b3), (3, ptrL g4 (Lens.id (karr 24 kTern))), (7, raw n.2.2.2), (8, rd (kint .i64) i13), (9, rd (kint .i64) f20), (10, rd (kint .i64) n.2.2.1)]) (fun n => [(4, Blk g4 56 (karr 24 kTern) x5), (1001, Row n.2.2.2 56 (karr 24 kTern) n.2.1)]) ((((127 : Int) - 0).toNat + 2), l18, 127, v19) ⟨trivial, h⟩ ⟨rfl, ⟨rfl, rfl, rfl, rfl, rfl, rfl, rfl, trivial⟩, ⟨rfl, rfl, trivial⟩⟩ ?_
            rintro ⟨m28, l25, bit27, v26⟩ ⟨hsf3, h⟩
            change True at hsf3
            change F35_l3 a2 i13 f20 b3 x5 go2 m28 l25 bit27 = some r at h
            change AW _ _ _ ⟨slots [(1, rd (ksl kAtom) a2), (2, rd (ksl kAtom) b3), (3, ptrL g4 (Lens.id (karr 24 kTern))), (7, raw v26), (8, rd (kint .i64) i13), (9, rd (kint .i64) f20), (10, rd (kint .i64) bit27)], ress [(4, Blk g4 56 (karr 24 kTern) x5), (1001, Row v26 56 (karr 24 kTern) l25)], _⟩
            cases m28 with
            | zero => cases h
            | succ m28 =>
              unfold F35_l3 at h
              generalize hgo3 : F35_l3 a2 i13 f20 b3 x5 go2 m28 = go3 at h
              refine AW.seq ?_
              refine AW.seq ?_
              refine AW.region ?_
              refine AOps.cons (op_move (A := rd (kint .i64) bit27) rfl rfl (vt rfl)) rfl ?_
              refine AOps.cons (op_geq rfl rfl (vt rfl) (vk rfl)) rfl ?_
              refine AOps.nil ?_
              refine AW.cond (vt rfl) (fun hc => ?_) (fun hc => ?_)
              · have h := cond_t hc h
                refine AW.skip ?_
                refine AW.seq ?_
                refine AW.block ?_
                refine AW.seq ?_
                obtain ⟨e29, he29, h⟩ := bsome h
                obtain ⟨j30, hj30, h⟩ := bsome h
                obtain ⟨e31, he31, h⟩ := bsome h
                obtain ⟨j32, hj32, h⟩ := bsome h
                obtain ⟨x33, hx33, h⟩ := bsome h
                refine AW.regionAny [⟨[1], [38], [], []⟩, ⟨[8], [39], [], []⟩, ⟨[9], [40], [], []⟩, ⟨[38, 39], [41], [], []⟩, ⟨[41], [42], [], []⟩, ⟨[42, 40], [43], [], []⟩, ⟨[43], [44], [], []⟩, ⟨[2], [45], [], []⟩, ⟨[8], [46], [], []⟩, ⟨[9], [47], [], []⟩, ⟨[45, 46], [48], [], []⟩, ⟨[48], [49], [], []⟩, ⟨[49, 47], [50], [], []⟩, ⟨[50], [51], [], []⟩, ⟨[10], [52], [], []⟩, ⟨[44, 51, 52], [53], [], []⟩, ⟨[53], [37], [], []⟩, ⟨[37], [54], [], []⟩, ⟨[37], [55], [], []⟩, ⟨[54], [11], [], []⟩, ⟨[55], [12], [], []⟩] mixed (by kernel_rfl) ?_
                refine SeqA.cons (loc [1] [] rfl rfl fun S hs hr => op_move (A := rd (ksl kAtom) a2) rfl rfl (vt ((hs 1 rfl).trans rfl))) ⟨rfl, rfl, rfl, rfl⟩ ?_
                refine SeqA.cons (loc [8] [] rfl rfl fun S hs hr => op_move (A := rd (kint .i64) i13) rfl rfl (vt ((hs 8 rfl).trans rfl))) ⟨rfl, rfl, rfl, rfl⟩ ?_
                refine SeqA.cons (loc [9] [] rfl rfl fun S hs hr => op_move (A := rd (kint .i64) f20) rfl rfl (vt ((hs 9 rfl).trans rfl))) ⟨rfl, rfl, rfl, rfl⟩ ?_
                refine SeqA.cons (loc [38, 39] [] rfl rfl fun S hs hr => op_indexs' rfl rfl sl57 (vt ((hs 38 rfl).trans rfl)) (vt ((hs 39 rfl).trans rfl)) he29) ⟨rfl, rfl, rfl, rfl⟩ ?_
                refine SeqA.cons (loc [41] [] rfl rfl fun S hs hr => op_fieldp lAtom_0 rfl rfl fl97_0 (vt ((hs 41 rfl).trans rfl))) ⟨rfl, rfl, rfl, rfl⟩ ?_
                refine SeqA.cons (loc [42, 40] [] rfl rfl fun S hs hr => op_indexp' rfl rfl ar95 (vt ((hs 42 rfl).trans rfl)) (vt ((hs 40 rfl).trans rfl)) hj30) ⟨rfl, rfl, rfl, rfl⟩ ?_
                refine SeqA.cons (loc [43] [] rfl rfl fun S hs hr => op_loadp rfl rfl ty54 (vt ((hs 43 rfl).trans rfl))) ⟨rfl, rfl, rfl, rfl⟩ ?_
                refine SeqA.cons (loc [2] [] rfl rfl fun S hs hr => op_move (A := rd (ksl kAtom) b3) rfl rfl (vt ((hs 2 rfl).trans rfl))) ⟨rfl, rfl, rfl, rfl⟩ ?_
                refine SeqA.cons (loc [8] [] rfl rfl fun S hs hr => op_move (A := rd (kint .i64) i13) rfl rfl (vt ((hs 8 rfl).trans rfl))) ⟨rfl, rfl, rfl, rfl⟩ ?_
                refine SeqA.cons (loc [9] [] rfl rfl fun S hs hr => op_move (A := rd (kint .i64) f20) rfl rfl (vt ((hs 9 rfl).trans rfl))) ⟨rfl, rfl, rfl, rfl⟩ ?_
                refine SeqA.cons (loc [45, 46] [] rfl rfl fun S hs hr => op_indexs' rfl rfl sl57 (vt ((hs 45 rfl).trans rfl)) (vt ((hs 46 rfl).trans rfl)) he31) ⟨rfl, rfl, rfl, rfl⟩ ?_
                refine SeqA.cons (loc [48] [] rfl rfl fun S hs hr => op_fieldp lAtom_0 rfl rfl fl97_0 (vt ((hs 48 rfl).trans rfl))) ⟨rfl, rfl, rfl, rfl⟩ ?_
                refine SeqA.cons (loc [49, 47] [] rfl rfl fun S hs hr => op_indexp' rfl rfl ar95 (vt ((hs 49 rfl).trans rfl)) (vt ((hs 47 rfl).trans rfl)) hj32) ⟨rfl, rfl, rfl, rfl⟩ ?_
                refine SeqA.cons (loc [50] [] rfl rfl fun S hs hr => op_loadp rfl rfl ty54 (vt ((hs 50 rfl).trans rfl))) ⟨rfl, rfl, rfl, rfl⟩ ?_
                refine SeqA.cons (loc [10] [] rfl rfl fun S hs hr => op_move (A := rd (kint .i64) bit27) rfl rfl (vt ((hs 10 rfl).trans rfl))) ⟨rfl, rfl, rfl, rfl⟩ ?_
                refine SeqA.cons (loc [44, 51, 52] [] rfl rfl fun S hs hr => op_call (xs := [.tmp 44, .tmp 51, .tmp 52]) (c84 _ _ _ _ hx33) (Ent.mk Try.func84 rfl rfl) rfl rfl ⟨vt ((hs 44 rfl).trans rfl), vt ((hs 51 rfl).trans rfl), vt ((hs 52 rfl).trans rfl), trivial⟩) ⟨rfl, rfl, rfl, rfl⟩ ?_
                refine SeqA.cons (loc [53] [] rfl rfl fun S hs hr => op_move (A := tup2 (rd kbool x33.1) (rd kbool x33.2)) rfl rfl (vt ((hs 53 rfl).trans rfl))) ⟨rfl, rfl, rfl, rfl⟩ ?_
                refine SeqA.cons (loc [37] [] rfl rfl fun S hs hr => op_fst rfl rfl (vt ((hs 37 rfl).trans rfl))) ⟨rfl, rfl, rfl, rfl⟩ ?_
                refine SeqA.cons (loc [37] [] rfl rfl fun S hs hr => op_snd rfl rfl (vt ((hs 37 rfl).trans rfl))) ⟨rfl, rfl, rfl, rfl⟩ ?_
                refine SeqA.cons (loc [54] [] rfl rfl fun S hs hr => op_assign (A := rd kbool x33.1) rfl rfl (vt ((hs 54 rfl).trans rfl))) ⟨rfl, rfl, rfl, rfl⟩ ?_
                refine SeqA.cons (loc [55] [] rfl rfl fun S hs hr => op_assign (A := rd kbool x33.2) rfl rfl (vt ((hs 55 rfl).trans rfl))) ⟨rfl, rfl, rfl, rfl⟩ ?_
                refine AW.seq ?_
                obtain ⟨j34, hj34, h⟩ := bsome h
                obtain ⟨x35, hx35, h⟩ := bsome h
                refine AW.region ?_
                refine AOps.cons (op_move (A := rd (kint .i64) f20) rfl rfl (vt rfl)) rfl ?_
                refine AOps.cons (op_index' rfl rfl ar56 (vt rfl) (vt rfl) hj34) rfl ?_
                refine AOps.cons (op_field lTern_1 rfl rfl fl54_1 (vt rfl)) rfl ?_
                refine AOps.cons (op_load rfl rfl ty52 (vt rfl) (i := 4) rfl) rfl ?_
                refine AOps.cons (op_move (A := rd (kint .i64) bit27) rfl rfl (vt rfl)) rfl ?_
                refine AOps.cons (op_call (xs := [.tmp 59, .tmp 60]) (c85 _ _ _ hx35) (Ent.mk Try.func85 rfl rfl) rfl rfl ⟨vt rfl, vt rfl, trivial⟩) rfl ?_
                refine AOps.cons (op_assign (A := rd kbool x35) rfl rfl (vt rfl)) rfl ?_
                refine AOps.nil ?_
                refine AW.seq ?_
                refine AW.seq ?_
                obtain ⟨j36, hj36, h⟩ := bsome h
                obtain ⟨x37, hx37, h⟩ := bsome h
                refine AW.region ?_
                refine AOps.cons (op_move (A := rd kbool x33.1) rfl rfl (vt rfl)) rfl ?_
                refine AOps.cons (op_not rfl rfl (vt rfl)) rfl ?_
                refine AOps.cons (op_move (A := rd kbool (!x33.1)) rfl rfl (vt rfl)) rfl ?_
                refine AOps.consG (OpG.guard rfl rfl rfl rfl rfl fun hq => op_move (A := rd kbool x35) rfl rfl (vt rfl)) ?_
                refine AOps.consG (OpG.guardX rfl rfl rfl rfl rfl fun hq => op_move (A := rd kbool x35) rfl rfl (vgt rfl hq)) ?_
                refine AOps.consG (OpG.guardN rfl rfl rfl rfl rfl fun hq => op_move (A := rd (kint .i64) f20) rfl rfl (vt rfl)) ?_
                refine AOps.consG (OpG.guardN rfl rfl rfl rfl rfl fun hq => op_index' rfl rfl ar56 (vt rfl) (vgt rfl hq) (opt_g hj36 hq)) ?_
                refine AOps.consG (OpG.guardN rfl rfl rfl rfl rfl fun hq => op_field lTern_0 rfl rfl fl54_0 (vgt rfl hq)) ?_
                refine AOps.consG (OpG.guardN rfl rfl rfl rfl rfl fun hq => op_load rfl rfl ty52 (vgt rfl hq) (i := 4) rfl) ?_
                refine AOps.consG (OpG.guardN rfl rfl rfl rfl rfl fun hq => op_move (A := rd (kint .i64) bit27) rfl rfl (vt rfl)) ?_
                refine AOps.consG (OpG.guardN rfl rfl rfl rfl rfl fun hq => op_call (xs := [.tmp 70, .tmp 71]) (c85 _ _ _ (opt_g hx37 hq)) (Ent.mk Try.func85 rfl rfl) rfl rfl ⟨vgt rfl hq, vgt rfl hq, trivial⟩) ?_
                refine AOps.consG (OpG.guardN rfl rfl rfl rfl rfl fun hq => op_move (A := rd kbool x33.2) rfl rfl (vt rfl)) ?_
                refine AOps.consG (OpG.guardN rfl rfl rfl rfl rfl fun hq => op_eqlb rfl rfl un4 (vgt rfl hq) (vgt rfl hq)) ?_
                refine AOps.consG (OpG.guard rfl rfl rfl rfl rfl fun hq => op_all rfl rfl (vgx rfl hq) (vgw rfl hq)) ?_
                refine AOps.cons (op_any rfl rfl (vt rfl) (vt rfl)) rfl ?_
                refine AOps.nil ?_
                refine AW.cond (vt rfl) (fun hc => ?_) (fun hc => ?_)
                · have h := cond_t hc h
                  refine AW.exit ?_
                  refine AW.region ?_
                  refine AOps.cons (op_move (A := rd (kint .i64) bit27) rfl rfl (vt rfl)) rfl ?_
                  refine AOps.cons (op_sub rfl rfl (vt rfl) (vk rfl)) rfl ?_
                  refine AOps.cons (op_assign (A := rd (kint .i64) (IntKind.i64.wrap (bit27 - 1))) rfl rfl (vt rfl)) rfl ?_
                  refine AOps.nil ?_
                  subst hgo3
                  exact ⟨(m28, l25, (IntKind.i64.wrap (bit27 - 1)), v26), Nat.lt_succ_self _, ⟨trivial, h⟩, ⟨rfl, ⟨rfl, rfl, rfl, rfl, rfl, rfl, rfl, trivial⟩, ⟨rfl, rfl, trivial⟩⟩⟩
                · have h := cond_f hc h
                  refine AW.skip ?_
                  refine AW.seq ?_
                  refine AW.region ?_
                  refine AOps.cons (op_load rfl rfl ty56 (vt rfl) (i := 4) rfl) rfl ?_
                  refine AOps.consT rfl (op_alloc 15 rfl rfl zr56) ?_
                  rintro _ ⟨g38, rfl⟩
                  refine AOps.cons (op_store rfl rfl ty56 (vt rfl) (i := 15) rfl (vt rfl)) rfl ?_
                  refine AOps.nil ?_
                  refine AW.seq ?_
                  obtain ⟨j39, hj39, h⟩ := bsome h
                  obtain ⟨x40, hx40, h⟩ := bsome h
                  obtain ⟨j41, hj41, h⟩ := bsome h
                  refine AW.region ?_
                  refine AOps.cons (op_move (A := rd (kint .i64) f20) rfl rfl (vt rfl)) rfl ?_
                  refine AOps.cons (op_move (A := rd (kint .i64) f20) rfl rfl (vt rfl)) rfl ?_
                  refine AOps.cons (op_index' rfl rfl ar56 (vt rfl) (vt rfl) hj39) rfl ?_
                  refine AOps.cons (op_load rfl rfl ty54 (vt rfl) (i := 4) rfl) rfl ?_
                  refine AOps.cons (op_move (A := rd (kint .i64) bit27) rfl rfl (vt rfl)) rfl ?_
                  refine AOps.cons (op_move (A := rd kbool x33.2) rfl rfl (vt rfl)) rfl ?_
                  refine AOps.cons (op_not rfl rfl (vt rfl)) rfl ?_
                  refine AOps.cons (op_call (xs := [.tmp 81, .tmp 82, .tmp 84]) (c86 _ _ _ _ hx40) (Ent.mk Try.func86 rfl rfl) rfl rfl ⟨vt rfl, vt rfl, vt rfl, trivial⟩) rfl ?_
                  refine AOps.cons (op_index' rfl rfl ar56 (vt rfl) (vt rfl) hj41) rfl ?_
                  refine AOps.cons (op_store rfl rfl ty54 (vt rfl) (i := 15) rfl (vt rfl)) rfl ?_
                  refine AOps.nil ?_
                  obtain ⟨l42, hl42, h⟩ := bsome h
                  refine AW.region ?_
                  refine AOps.cons (op_move (A := raw v26) rfl rfl (vt rfl)) rfl ?_
                  refine AOps.cons (op_load rfl rfl ty56 (vt rfl) (i := 15) rfl) rfl ?_
                  refine AOps.cons (op_buildSliceR (ps := [(0, .tmp 88)]) (l := [(Vector.set x5 j41.1 x40 j41.2)]) rfl rfl sl64 zr56 rfl rfl ⟨_, _, Lens.idx 1 (karr 24 kTern) 0 (by decide), _, rfl, (vt rfl), rfl⟩ rfl) rfl ?_
                  refine AOps.consT rfl (op_append' 1001 hl42 rfl rfl el64 (vt rfl) rfl (vt rfl)) ?_
                  rintro _ ⟨v43, rfl⟩
                  refine AOps.cons (op_assign (A := raw v43) rfl rfl (vt rfl)) rfl ?_
                  refine AOps.nil ?_
                  refine AW.region ?_
                  refine AOps.cons (op_move (A := rd (kint .i64) bit27) rfl rfl (vt rfl)) rfl ?_
                  refine AOps.cons (op_sub rfl rfl (vt rfl) (vk rfl)) rfl ?_
                  refine AOps.cons (op_assign (A := rd (kint .i64) (IntKind.i64.wrap (bit27 - 1))) rfl rfl (vt rfl)) rfl ?_
                  refine AOps.nil ?_
                  subst hgo3
                  exact ⟨(m28, l42, (IntKind.i64.wrap (bit27 - 1)), v43), Nat.lt_succ_self _, ⟨trivial, h⟩, ⟨rfl, ⟨rfl, rfl, rfl, rfl, rfl, rfl, rfl, trivial⟩, ⟨rfl, rfl, trivial⟩⟩⟩
              · have h := cond_f hc h
                refine AW.exit ?_
                refine AW.region ?_
                refine AOps.cons (op_move (A := rd (kint .i64) f20) rfl rfl (vt rfl)) rfl ?_
                refine AOps.cons (op_add rfl rfl (vt rfl) (vk rfl)) rfl ?_
                refine AOps.cons (op_assign (A := rd (kint .i64) (IntKind.i64.wrap (f20 + 1))) rfl rfl (vt rfl)) rfl ?_
                refine AOps.nil ?_
                subst hgo2
                exact ⟨(m21, l25, (IntKind.i64.wrap (f20 + 1)), v26), Nat.lt_succ_self _, ⟨trivial, h⟩, ⟨rfl, ⟨rfl, rfl, rfl, rfl, rfl, rfl, trivial⟩, ⟨rfl, rfl, trivial⟩⟩⟩
          · have h := cond_f hc h
            refine AW.exit ?_
            refine AW.region ?_
            refine AOps.cons (op_move (A := rd (kint .i64) i13) rfl rfl (vt rfl)) rfl ?_
            refine AOps.cons (op_add rfl rfl (vt rfl) (vk rfl)) rfl ?_
            refine AOps.cons (op_assign (A := rd (kint .i64) (IntKind.i64.wrap (i13 + 1))) rfl rfl (vt rfl)) rfl ?_
            refine AOps.nil ?_
            subst hgo1
            exact ⟨(m14, l18, (IntKind.i64.wrap (i13 + 1)), v19), Nat.lt_succ_self _, ⟨trivial, h⟩, ⟨rfl, ⟨rfl, rfl, rfl, rfl, rfl, trivial⟩, ⟨rfl, rfl, trivial⟩⟩⟩
      · have h := cond_f hc h
        refine AW.exit ?_
        refine AW.seq ?_
        refine AW.region ?_
        refine AOps.cons (op_move (A := raw v12) rfl rfl (vt rfl)) rfl ?_
        refine AOps.cons (op_assign (A := raw v12) rfl rfl (vt rfl)) rfl ?_
        refine AOps.nil ?_
        refine AW.freezes [6, 7, 91] 1001 rfl ⟨rfl, rfl, rfl, trivial⟩ rfl ?_
        refine AW.ret ?_
        obtain rfl := Option.some.inj h
        exact ret1 Try.results35 rfl (out_tmp rfl)
end Go.Proofs.Ytokmmcflinnfiaa.W
