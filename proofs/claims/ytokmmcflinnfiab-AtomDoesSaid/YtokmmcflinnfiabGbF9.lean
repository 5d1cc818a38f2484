/- GbF9: a part of the proof. -/
import Derived.Test.YtokmmcflinnfiabGbF8
set_option linter.unusedVariables false
set_option maxRecDepth 4000
set_option linter.unusedSimpArgs false
namespace Go.Proofs.Ytokmmcflinnfiab.W
open Go Go.Wb
-- weirbox/weirboxref09.None
def F47 : Option (Vector Tern 24) :=
  some (Vector.replicate 24 zTern)
theorem c47 (r : (Vector Tern 24)) (h : F47 = some r) : PCon Try.prog 47 [] (rd (karr 24 kTern) r) := by
  refine PCon.of (Con.intro0 Try.func47 rfl Try.ntmps47 rfl fun w H => ?_)
  unfold F47 at h
  refine AW.seq ?_
  refine AW.region ?_
  refine AOps.consT rfl (op_alloc 1 rfl rfl zr29) ?_
  rintro _ ⟨g1, rfl⟩
  refine AOps.nil ?_
  refine AW.seq ?_
  refine AW.region ?_
  refine AOps.cons (op_build (ps := []) (x := (Vector.replicate 24 zTern)) rfl rfl rfl (by kernel_rfl) zr29 rfl) rfl ?_
  refine AOps.cons (op_store rfl rfl ty29 (vt rfl) (i := 1) rfl (vt rfl)) rfl ?_
  refine AOps.nil ?_
  refine AW.ret ?_
  obtain rfl := Option.some.inj h
  exact ret1 Try.results47 rfl (out_cell rfl (i := 1) rfl ty29)
-- weirbox/weirboxref02.Less
def F44 (a1 : Wide) (b2 : Wide) : Option Wide :=
  some (⟨(a1.Hi &&& ~~~b2.Hi), (a1.Lo &&& ~~~b2.Lo)⟩ : Wide)
theorem c44 (a1 : Wide) (b2 : Wide) (r : Wide) (h : F44 a1 b2 = some r) : PCon Try.prog 44 [rd kWide a1, rd kWide b2] (rd kWide r) := by
  refine PCon.of (Con.intro0 Try.func44 rfl Try.ntmps44 rfl fun w H => ?_)
  unfold F44 at h
  refine AW.seq ?_
  refine AW.region ?_
  refine AOps.consT rfl (op_box 3 rfl rfl (vt rfl)) ?_
  rintro _ ⟨g3, rfl⟩
  refine AOps.consT rfl (op_box 4 rfl rfl (vt rfl)) ?_
  rintro _ ⟨g4, rfl⟩
  refine AOps.consT rfl (op_alloc 5 rfl rfl zr25) ?_
  rintro _ ⟨g5, rfl⟩
  refine AOps.nil ?_
  refine AW.seq ?_
  refine AW.region ?_
  refine AOps.cons (op_field lWide_0 rfl rfl fl25_0 (vt rfl)) rfl ?_
  refine AOps.cons (op_load rfl rfl ty23 (vt rfl) (i := 3) rfl) rfl ?_
  refine AOps.cons (op_field lWide_0 rfl rfl fl25_0 (vt rfl)) rfl ?_
  refine AOps.cons (op_load rfl rfl ty23 (vt rfl) (i := 4) rfl) rfl ?_
  refine AOps.cons (op_andNot rfl rfl (vt rfl) (vt rfl)) rfl ?_
  refine AOps.cons (op_field lWide_1 rfl rfl fl25_1 (vt rfl)) rfl ?_
  refine AOps.cons (op_load rfl rfl ty23 (vt rfl) (i := 3) rfl) rfl ?_
  refine AOps.cons (op_field lWide_1 rfl rfl fl25_1 (vt rfl)) rfl ?_
  refine AOps.cons (op_load rfl rfl ty23 (vt rfl) (i := 4) rfl) rfl ?_
  refine AOps.cons (op_andNot rfl rfl (vt rfl) (vt rfl)) rfl ?_
  refine AOps.cons (op_build (ps := [(0, .tmp 9), (1, .tmp 14)]) (x := (⟨(a1.Hi &&& ~~~b2.Hi), (a1.Lo &&& ~~~b2.Lo)⟩ : Wide)) rfl rfl rfl (by kernel_rfl) zr25 ⟨_, _, lWide_0, _, by kernel_rfl, (vt rfl), _, _, lWide_1, _, by kernel_rfl, (vt rfl), rfl⟩) rfl ?_
  refine AOps.cons (op_store rfl rfl ty25 (vt rfl) (i := 5) rfl (vt rfl)) rfl ?_
  refine AOps.nil ?_
  refine AW.ret ?_
  obtain rfl := Option.some.inj h
  exact ret1 Try.results44 rfl (out_cell rfl (i := 5) rfl ty25)
-- weirbox/weirboxref09.Then
def F22_l1 (x7 : (Vector Tern 24)) : Nat → (Vector Tern 24) → Int → Option (Vector Tern 24)
  | 0, _, _ => none
  | m12 + 1, b10, f11 => (bif (decide (f11 < 24)) then (chk 24 f11).bind fun j13 => (chk 24 f11).bind fun j14 => (F44 ((Vector.get b10 j13).Value) ((Vector.get x7 j14).Mask)).bind fun x15 => (chk 24 f11).bind fun j16 => (F43 x15 ((Vector.get x7 j16).Value)).bind fun x17 => (chk 24 f11).bind fun j18 => (chk 24 f11).bind fun j19 => (F43 ((Vector.get b10 j18).Mask) ((Vector.get x7 j19).Mask)).bind fun x20 => (chk 24 f11).bind fun j21 => (F22_l1 x7 m12) (Vector.set b10 j21.1 (⟨x17, x20⟩ : Tern) j21.2) (IntKind.i64.wrap (f11 + 1)) else some b10)
def F22 (a1 : (Vector Tern 24)) (b2 : (Vector Tern 24)) : Option (Vector Tern 24) :=
  (F21 a1).bind fun x6 => (F21 b2).bind fun x7 => F22_l1 x7 (((24 : Int) - 0).toNat + 1) x6 0
theorem c22 (a1 : (Vector Tern 24)) (b2 : (Vector Tern 24)) (r : (Vector Tern 24)) (h : F22 a1 b2 = some r) : PCon Try.prog 22 [rd (karr 24 kTern) a1, rd (karr 24 kTern) b2] (rd (karr 24 kTern) r) := by
  refine PCon.of (Con.intro0 Try.func22 rfl Try.ntmps22 rfl fun w H => ?_)
  unfold F22 at h
  refine AW.seq ?_
  refine AW.region ?_
  refine AOps.consT rfl (op_box 3 rfl rfl (vt rfl)) ?_
  rintro _ ⟨g3, rfl⟩
  refine AOps.consT rfl (op_box 4 rfl rfl (vt rfl)) ?_
  rintro _ ⟨g4, rfl⟩
  refine AOps.consT rfl (op_alloc 5 rfl rfl zr29) ?_
  rintro _ ⟨g5, rfl⟩
  refine AOps.nil ?_
  refine AW.seq ?_
  obtain ⟨x6, hx6, h⟩ := bsome h
  obtain ⟨x7, hx7, h⟩ := bsome h
  refine AW.regionAny [⟨[2], [6], [3], []⟩, ⟨[6], [7], [], []⟩, ⟨[3], [8], [4], []⟩, ⟨[8], [9], [], []⟩, ⟨[2, 7], [], [3], [3]⟩, ⟨[3, 9], [], [4], [4]⟩] mixed (by kernel_rfl) ?_
  refine SeqA.cons (loc [2] [3] rfl rfl fun S hs hr => op_load rfl rfl ty29 (vt ((hs 2 rfl).trans rfl)) (i := 3) ((hr 3 rfl).trans rfl)) ⟨rfl, rfl, rfl, rfl⟩ ?_
  refine SeqA.cons (loc [6] [] rfl rfl fun S hs hr => op_call (xs := [.tmp 6]) (c21 _ _ hx6) (Ent.mk Try.func21 rfl rfl) rfl rfl ⟨vt ((hs 6 rfl).trans rfl), trivial⟩) ⟨rfl, rfl, rfl, rfl⟩ ?_
  refine SeqA.cons (loc [3] [4] rfl rfl fun S hs hr => op_load rfl rfl ty29 (vt ((hs 3 rfl).trans rfl)) (i := 4) ((hr 4 rfl).trans rfl)) ⟨rfl, rfl, rfl, rfl⟩ ?_
  refine SeqA.cons (loc [8] [] rfl rfl fun S hs hr => op_call (xs := [.tmp 8]) (c21 _ _ hx7) (Ent.mk Try.func21 rfl rfl) rfl rfl ⟨vt ((hs 8 rfl).trans rfl), trivial⟩) ⟨rfl, rfl, rfl, rfl⟩ ?_
  refine SeqA.cons (locr [2, 7] [3] rfl fun S hs hr => op_store rfl rfl ty29 (vt ((hs 2 rfl).trans rfl)) (i := 3) ((hr 3 rfl).trans rfl) (vt ((hs 7 rfl).trans rfl))) ⟨rfl, rfl, rfl, rfl⟩ ?_
  refine SeqA.cons (locr [3, 9] [4] rfl fun S hs hr => op_store rfl rfl ty29 (vt ((hs 3 rfl).trans rfl)) (i := 4) ((hr 4 rfl).trans rfl) (vt ((hs 9 rfl).trans rfl))) ⟨rfl, rfl, rfl, rfl⟩ ?_
  refine AW.seq ?_
  refine AW.seq ?_
  refine AW.region ?_
  refine AOps.cons (op_assign (A := rd (kint .i64) 0) rfl rfl (vk rfl)) rfl ?_
  refine AOps.nil ?_
  refine AW.block ?_
  refine AW.loopG (d := []) (ν := Nat × (Vector Tern 24) × Int) (fun n => True ∧ F22_l1 x7 n.1 n.2.1 n.2.2 = some r) (fun n => n.1) (fun n => [(2, ptrL g3 (Lens.id (karr 24 kTern))), (3, ptrL g4 (Lens.id (karr 24 kTern))), (4, ptrL g5 (Lens.id (karr 24 kTern))), (5, rd (kint .i64) n.2.2)]) (fun n => [(3, Blk g3 29 (karr 24 kTern) n.2.1), (4, Blk g4 29 (karr 24 kTern) x7), (5, Blk g5 29 (karr 24 kTern) (Vector.replicate 24 zTern))]) ((((24 : Int) - 0).toNat + 1), x6, 0) ⟨trivial, h⟩ ⟨rfl, ⟨rfl, rfl, rfl, rfl, trivial⟩, ⟨rfl, rfl, rfl, trivial⟩⟩ ?_
  rintro ⟨m12, b10, f11⟩ ⟨hsf1, h⟩
  change True at hsf1
  change F22_l1 x7 m12 b10 f11 = some r at h
  change AW _ _ _ ⟨slots [(2, ptrL g3 (Lens.id (karr 24 kTern))), (3, ptrL g4 (Lens.id (karr 24 kTern))), (4, ptrL g5 (Lens.id (karr 24 kTern))), (5, rd (kint .i64) f11)], ress [(3, Blk g3 29 (karr 24 kTern) b10), (4, Blk g4 29 (karr 24 kTern) x7), (5, Blk g5 29 (karr 24 kTern) (Vector.replicate 24 zTern))], _⟩
  cases m12 with
  | zero => cases h
  | succ m12 =>
    unfold F22_l1 at h
    generalize hgo1 : F22_l1 x7 m12 = go1 at h
    refine AW.seq ?_
    refine AW.seq ?_
    refine AW.region ?_
    refine AOps.cons (op_move (A := rd (kint .i64) f11) rfl rfl (vt rfl)) rfl ?_
    refine AOps.cons (op_lss rfl rfl (vt rfl) (vk rfl)) rfl ?_
    refine AOps.nil ?_
    refine AW.cond (vt rfl) (fun hc => ?_) (fun hc => ?_)
    · have h := cond_t hc h
      refine AW.skip ?_
      refine AW.seq ?_
      refine AW.block ?_
      obtain ⟨j13, hj13, h⟩ := bsome h
      obtain ⟨j14, hj14, h⟩ := bsome h
      obtain ⟨x15, hx15, h⟩ := bsome h
      obtain ⟨j16, hj16, h⟩ := bsome h
      obtain ⟨x17, hx17, h⟩ := bsome h
      obtain ⟨j18, hj18, h⟩ := bsome h
      obtain ⟨j19, hj19, h⟩ := bsome h
      obtain ⟨x20, hx20, h⟩ := bsome h
      obtain ⟨j21, hj21, h⟩ := bsome h
      refine AW.regionAny [⟨[5], [14], [], []⟩, ⟨[5], [15], [], []⟩, ⟨[2, 15], [16], [], []⟩, ⟨[16], [17], [], []⟩, ⟨[17], [18], [3], []⟩, ⟨[5], [19], [], []⟩, ⟨[3, 19], [20], [], []⟩, ⟨[20], [21], [], []⟩, ⟨[21], [22], [4], []⟩, ⟨[18, 22], [23], [], []⟩, ⟨[5], [24], [], []⟩, ⟨[3, 24], [25], [], []⟩, ⟨[25], [26], [], []⟩, ⟨[26], [27], [4], []⟩, ⟨[23, 27], [28], [], []⟩, ⟨[5], [29], [], []⟩, ⟨[2, 29], [30], [], []⟩, ⟨[30], [31], [], []⟩, ⟨[31], [32], [3], []⟩, ⟨[5], [33], [], []⟩, ⟨[3, 33], [34], [], []⟩, ⟨[34], [35], [], []⟩, ⟨[35], [36], [4], []⟩, ⟨[32, 36], [37], [], []⟩, ⟨[28, 37], [38], [], []⟩, ⟨[2, 14], [39], [], []⟩, ⟨[39, 38], [], [3], [3]⟩] mixed (by kernel_rfl) ?_
      refine SeqA.cons (loc [5] [] rfl rfl fun S hs hr => op_move (A := rd (kint .i64) f11) rfl rfl (vt ((hs 5 rfl).trans rfl))) ⟨rfl, rfl, rfl, rfl⟩ ?_
      refine SeqA.cons (loc [5] [] rfl rfl fun S hs hr => op_move (A := rd (kint .i64) f11) rfl rfl (vt ((hs 5 rfl).trans rfl))) ⟨rfl, rfl, rfl, rfl⟩ ?_
      refine SeqA.cons (loc [2, 15] [] rfl rfl fun S hs hr => op_index' rfl rfl ar29 (vt ((hs 2 rfl).trans rfl)) (vt ((hs 15 rfl).trans rfl)) hj13) ⟨rfl, rfl, rfl, rfl⟩ ?_
      refine SeqA.cons (loc [16] [] rfl rfl fun S hs hr => op_field lTern_0 rfl rfl fl27_0 (vt ((hs 16 rfl).trans rfl))) ⟨rfl, rfl, rfl, rfl⟩ ?_
      refine SeqA.cons (loc [17] [3] rfl rfl fun S hs hr => op_load rfl rfl ty25 (vt ((hs 17 rfl).trans rfl)) (i := 3) ((hr 3 rfl).trans rfl)) ⟨rfl, rfl, rfl, rfl⟩ ?_
      refine SeqA.cons (loc [5] [] rfl rfl fun S hs hr => op_move (A := rd (kint .i64) f11) rfl rfl (vt ((hs 5 rfl).trans rfl))) ⟨rfl, rfl, rfl, rfl⟩ ?_
      refine SeqA.cons (loc [3, 19] [] rfl rfl fun S hs hr => op_index' rfl rfl ar29 (vt ((hs 3 rfl).trans rfl)) (vt ((hs 19 rfl).trans rfl)) hj14) ⟨rfl, rfl, rfl, rfl⟩ ?_
      refine SeqA.cons (loc [20] [] rfl rfl fun S hs hr => op_field lTern_1 rfl rfl fl27_1 (vt ((hs 20 rfl).trans rfl))) ⟨rfl, rfl, rfl, rfl⟩ ?_
      refine SeqA.cons (loc [21] [4] rfl rfl fun S hs hr => op_load rfl rfl ty25 (vt ((hs 21 rfl).trans rfl)) (i := 4) ((hr 4 rfl).trans rfl)) ⟨rfl, rfl, rfl, rfl⟩ ?_
      refine SeqA.cons (loc [18, 22] [] rfl rfl fun S hs hr => op_call (xs := [.tmp 18, .tmp 22]) (c44 _ _ _ hx15) (Ent.mk Try.func44 rfl rfl) rfl rfl ⟨vt ((hs 18 rfl).trans rfl), vt ((hs 22 rfl).trans rfl), trivial⟩) ⟨rfl, rfl, rfl, rfl⟩ ?_
      refine SeqA.cons (loc [5] [] rfl rfl fun S hs hr => op_move (A := rd (kint .i64) f11) rfl rfl (vt ((hs 5 rfl).trans rfl))) ⟨rfl, rfl, rfl, rfl⟩ ?_
      refine SeqA.cons (loc [3, 24] [] rfl rfl fun S hs hr => op_index' rfl rfl ar29 (vt ((hs 3 rfl).trans rfl)) (vt ((hs 24 rfl).trans rfl)) hj16) ⟨rfl, rfl, rfl, rfl⟩ ?_
      refine SeqA.cons (loc [25] [] rfl rfl fun S hs hr => op_field lTern_0 rfl rfl fl27_0 (vt ((hs 25 rfl).trans rfl))) ⟨rfl, rfl, rfl, rfl⟩ ?_
      refine SeqA.cons (loc [26] [4] rfl rfl fun S hs hr => op_load rfl rfl ty25 (vt ((hs 26 rfl).trans rfl)) (i := 4) ((hr 4 rfl).trans rfl)) ⟨rfl, rfl, rfl, rfl⟩ ?_
      refine SeqA.cons (loc [23, 27] [] rfl rfl fun S hs hr => op_call (xs := [.tmp 23, .tmp 27]) (c43 _ _ _ hx17) (Ent.mk Try.func43 rfl rfl) rfl rfl ⟨vt ((hs 23 rfl).trans rfl), vt ((hs 27 rfl).trans rfl), trivial⟩) ⟨rfl, rfl, rfl, rfl⟩ ?_
      refine SeqA.cons (loc [5] [] rfl rfl fun S hs hr => op_move (A := rd (kint .i64) f11) rfl rfl (vt ((hs 5 rfl).trans rfl))) ⟨rfl, rfl, rfl, rfl⟩ ?_
      refine SeqA.cons (loc [2, 29] [] rfl rfl fun S hs hr => op_index' rfl rfl ar29 (vt ((hs 2 rfl).trans rfl)) (vt ((hs 29 rfl).trans rfl)) hj18) ⟨rfl, rfl, rfl, rfl⟩ ?_
      refine SeqA.cons (loc [30] [] rfl rfl fun S hs hr => op_field lTern_1 rfl rfl fl27_1 (vt ((hs 30 rfl).trans rfl))) ⟨rfl, rfl, rfl, rfl⟩ ?_
      refine SeqA.cons (loc [31] [3] rfl rfl fun S hs hr => op_load rfl rfl ty25 (vt ((hs 31 rfl).trans rfl)) (i := 3) ((hr 3 rfl).trans rfl)) ⟨rfl, rfl, rfl, rfl⟩ ?_
      refine SeqA.cons (loc [5] [] rfl rfl fun S hs hr => op_move (A := rd (kint .i64) f11) rfl rfl (vt ((hs 5 rfl).trans rfl))) ⟨rfl, rfl, rfl, rfl⟩ ?_
      refine SeqA.cons (loc [3, 33] [] rfl rfl fun S hs hr => op_index' rfl rfl ar29 (vt ((hs 3 rfl).trans rfl)) (vt ((hs 33 rfl).trans rfl)) hj19) ⟨rfl, rfl, rfl, rfl⟩ ?_
      refine SeqA.cons (loc [34] [] rfl rfl fun S hs hr => op_field lTern_1 rfl rfl fl27_1 (vt ((hs 34 rfl).trans rfl))) ⟨rfl, rfl, rfl, rfl⟩ ?_
      refine SeqA.cons (loc [35] [4] rfl rfl fun S hs hr => op_load rfl rfl ty25 (vt ((hs 35 rfl).trans rfl)) (i := 4) ((hr 4 rfl).trans rfl)) ⟨rfl, rfl, rfl, rfl⟩ ?_
      refine SeqA.cons (loc [32, 36] [] rfl rfl fun S hs hr => op_call (xs := [.tmp 32, .tmp 36]) (c43 _ _ _ hx20) (Ent.mk Try.func43 rfl rfl) rfl rfl ⟨vt ((hs 32 rfl).trans rfl), vt ((hs 36 rfl).trans rfl), trivial⟩) ⟨rfl, rfl, rfl, rfl⟩ ?_
      refine SeqA.cons (loc [28, 37] [] rfl rfl fun S hs hr => op_build (ps := [(0, .tmp 28), (1, .tmp 37)]) (x := (⟨x17, x20⟩ : Tern)) rfl rfl rfl (by kernel_rfl) zr27 ⟨_, _, lTern_0, _, by kernel_rfl, (vt ((hs 28 rfl).trans rfl)), _, _, lTern_1, _, by kernel_rfl, (vt ((hs 37 rfl).trans rfl)), rfl⟩) ⟨rfl, rfl, rfl, rfl⟩ ?_
      refine SeqA.cons (loc [2, 14] [] rfl rfl fun S hs hr => op_index' rfl rfl ar29 (vt ((hs 2 rfl).trans rfl)) (vt ((hs 14 rfl).trans rfl)) hj21) ⟨rfl, rfl, rfl, rfl⟩ ?_
      refine SeqA.cons (locr [39, 38] [3] rfl fun S hs hr => op_store rfl rfl ty27 (vt ((hs 39 rfl).trans rfl)) (i := 3) ((hr 3 rfl).trans rfl) (vt ((hs 38 rfl).trans rfl))) ⟨rfl, rfl, rfl, rfl⟩ ?_
      refine AW.region ?_
      refine AOps.cons (op_move (A := rd (kint .i64) f11) rfl rfl (vt rfl)) rfl ?_
      refine AOps.cons (op_add rfl rfl (vt rfl) (vk rfl)) rfl ?_
      refine AOps.cons (op_assign (A := rd (kint .i64) (IntKind.i64.wrap (f11 + 1))) rfl rfl (vt rfl)) rfl ?_
      refine AOps.nil ?_
      subst hgo1
      exact ⟨(m12, (Vector.set b10 j21.1 (⟨x17, x20⟩ : Tern) j21.2), (IntKind.i64.wrap (f11 + 1))), Nat.lt_succ_self _, ⟨trivial, h⟩, ⟨rfl, ⟨rfl, rfl, rfl, rfl, trivial⟩, ⟨rfl, rfl, rfl, trivial⟩⟩⟩
    · have h := cond_f hc h
      refine AW.exit ?_
      refine AW.seq ?_
      refine AW.region ?_
      refine AOps.cons (op_load rfl rfl ty29 (vt rfl) (i := 3) rfl) rfl ?_
      refine AOps.cons (op_store rfl rfl ty29 (vt rfl) (i := 5) rfl (vt rfl)) rfl ?_
      refine AOps.nil ?_
      refine AW.ret ?_
      obtain rfl := Option.some.inj h
      exact ret1 Try.results22 rfl (out_cell rfl (i := 5) rfl ty29)
-- weirbox/weirboxref09.Set
def F46_j1 (r1 : (Vector Tern 24)) (b10 : (Vector Tern 24)) : Option (Vector Tern 24) :=
  (F22 r1 b10).bind fun x11 => some x11
def F46 (r1 : (Vector Tern 24)) (f2 : Int) (value3 : Wide) (mask4 : Wide) : Option (Vector Tern 24) :=
  (F62 f2).bind fun x12 => (bif x12 then (chk 24 f2).bind fun j13 => F46_j1 r1 (Vector.set (Vector.replicate 24 zTern) j13.1 (⟨value3, mask4⟩ : Tern) j13.2) else F46_j1 r1 (Vector.replicate 24 zTern))
theorem c46 (r1 : (Vector Tern 24)) (f2 : Int) (value3 : Wide) (mask4 : Wide) (r : (Vector Tern 24)) (h : F46 r1 f2 value3 mask4 = some r) : PCon Try.prog 46 [rd (karr 24 kTern) r1, rd (kint .i64) f2, rd kWide value3, rd kWide mask4] (rd (karr 24 kTern) r) := by
  refine PCon.of (Con.intro0 Try.func46 rfl Try.ntmps46 rfl fun w H => ?_)
  unfold F46 at h
  refine AW.seq ?_
  refine AW.region ?_
  refine AOps.consT rfl (op_box 5 rfl rfl (vt rfl)) ?_
  rintro _ ⟨g5, rfl⟩
  refine AOps.consT rfl (op_box 7 rfl rfl (vt rfl)) ?_
  rintro _ ⟨g6, rfl⟩
  refine AOps.consT rfl (op_box 8 rfl rfl (vt rfl)) ?_
  rintro _ ⟨g7, rfl⟩
  refine AOps.consT rfl (op_alloc 9 rfl rfl zr29) ?_
  rintro _ ⟨g8, rfl⟩
  refine AOps.nil ?_
  refine AW.seq ?_
  refine AW.region ?_
  refine AOps.cons (op_build (ps := []) (x := (Vector.replicate 24 zTern)) rfl rfl rfl (by kernel_rfl) zr29 rfl) rfl ?_
  refine AOps.consT rfl (op_alloc 10 rfl rfl zr29) ?_
  rintro _ ⟨g9, rfl⟩
  refine AOps.cons (op_store rfl rfl ty29 (vt rfl) (i := 10) rfl (vt rfl)) rfl ?_
  refine AOps.nil ?_
  refine AW.join (d := []) (ν := (Vector Tern 24)) (fun n => F46_j1 r1 n = some r) (fun n => [(4, ptrL g5 (Lens.id (karr 24 kTern))), (8, ptrL g8 (Lens.id (karr 24 kTern))), (9, ptrL g9 (Lens.id (karr 24 kTern)))]) (fun n => [(5, Blk g5 29 (karr 24 kTern) r1), (9, Blk g8 29 (karr 24 kTern) (Vector.replicate 24 zTern)), (10, Blk g9 29 (karr 24 kTern) n)]) ?hx ?hy
  case hy =>
    intro b10 h
    unfold F46_j1 at h
    change AW _ _ _ ⟨slots [(4, ptrL g5 (Lens.id (karr 24 kTern))), (8, ptrL g8 (Lens.id (karr 24 kTern))), (9, ptrL g9 (Lens.id (karr 24 kTern)))], ress [(5, Blk g5 29 (karr 24 kTern) r1), (9, Blk g8 29 (karr 24 kTern) (Vector.replicate 24 zTern)), (10, Blk g9 29 (karr 24 kTern) b10)], _⟩
    refine AW.seq ?_
    obtain ⟨x11, hx11, h⟩ := bsome h
    refine AW.region ?_
    refine AOps.cons (op_load rfl rfl ty29 (vt rfl) (i := 5) rfl) rfl ?_
    refine AOps.cons (op_load rfl rfl ty29 (vt rfl) (i := 10) rfl) rfl ?_
    refine AOps.cons (op_call (xs := [.tmp 18, .tmp 19]) (c22 _ _ _ hx11) (Ent.mk Try.func22 rfl rfl) rfl rfl ⟨vt rfl, vt rfl, trivial⟩) rfl ?_
    refine AOps.cons (op_store rfl rfl ty29 (vt rfl) (i := 9) rfl (vt rfl)) rfl ?_
    refine AOps.nil ?_
    refine AW.ret ?_
    obtain rfl := Option.some.inj h
    exact ret1 Try.results46 rfl (out_cell rfl (i := 9) rfl ty29)
  case hx =>
    refine AW.seq ?_
    obtain ⟨x12, hx12, h⟩ := bsome h
    refine AW.region ?_
    refine AOps.cons (op_move (A := rd (kint .i64) f2) rfl rfl (vt rfl)) rfl ?_
    refine AOps.cons (op_call (xs := [.tmp 11]) (c62 _ _ hx12) (Ent.mk Try.func62 rfl rfl) rfl rfl ⟨vt rfl, trivial⟩) rfl ?_
    refine AOps.nil ?_
    refine AW.cond (vt rfl) (fun hc => ?_) (fun hc => ?_)
    · have h := cond_t hc h
      obtain ⟨j13, hj13, h⟩ := bsome h
      refine AW.region ?_
      refine AOps.cons (op_move (A := rd (kint .i64) f2) rfl rfl (vt rfl)) rfl ?_
      refine AOps.cons (op_load rfl rfl ty25 (vt rfl) (i := 7) rfl) rfl ?_
      refine AOps.cons (op_load rfl rfl ty25 (vt rfl) (i := 8) rfl) rfl ?_
      refine AOps.cons (op_build (ps := [(0, .tmp 14), (1, .tmp 15)]) (x := (⟨value3, mask4⟩ : Tern)) rfl rfl rfl (by kernel_rfl) zr27 ⟨_, _, lTern_0, _, by kernel_rfl, (vt rfl), _, _, lTern_1, _, by kernel_rfl, (vt rfl), rfl⟩) rfl ?_
      refine AOps.cons (op_index' rfl rfl ar29 (vt rfl) (vt rfl) hj13) rfl ?_
      refine AOps.cons (op_store rfl rfl ty27 (vt rfl) (i := 10) rfl (vt rfl)) rfl ?_
      refine AOps.nil ?_
      exact ⟨(Vector.set (Vector.replicate 24 zTern) j13.1 (⟨value3, mask4⟩ : Tern) j13.2), h, ⟨rfl, ⟨rfl, rfl, rfl, trivial⟩, ⟨rfl, rfl, rfl, trivial⟩⟩⟩
    · have h := cond_f hc h
      refine AW.skip ?_
      exact ⟨(Vector.replicate 24 zTern), h, ⟨rfl, ⟨rfl, rfl, rfl, trivial⟩, ⟨rfl, rfl, rfl, trivial⟩⟩⟩
-- weirbox/weirboxref28.Rewrite
def F23 (a1 : Action) : Option (Vector Tern 24) :=
  (bif (decide (a1.Kind = 25)) then (F45 a1.Oxm).bind fun x4 => (F47).bind fun x6 => (F46 x6 a1.Oxm.Field x4.Value x4.Mask).bind fun x7 => some x7 else (bif (decide (a1.Kind = 17)) then (F47).bind fun x8 => (F48 12).bind fun x9 => (F48 12).bind fun x10 => (F46 x8 5 x9 x10).bind fun x11 => some x11 else (bif (decide (a1.Kind = 18)) then (F47).bind fun x12 => (F49 13).bind fun x13 => (F46 x12 5 (⟨0, 0⟩ : Wide) x13).bind fun x14 => (F49 3).bind fun x16 => (F46 x14 6 (⟨0, 0⟩ : Wide) x16).bind fun x17 => some x17 else (F47).bind fun x18 => some x18)))
theorem c23 (a1 : Action) (r : (Vector Tern 24)) (h : F23 a1 = some r) : PCon Try.prog 23 [rd kAction a1] (rd (karr 24 kTern) r) := by
  refine PCon.of (Con.intro0 Try.func23 rfl Try.ntmps23 rfl fun w H => ?_)
  unfold F23 at h
  refine AW.seq ?_
  refine AW.region ?_
  refine AOps.consT rfl (op_box 2 rfl rfl (vt rfl)) ?_
  rintro _ ⟨g2, rfl⟩
  refine AOps.consT rfl (op_alloc 3 rfl rfl zr29) ?_
  rintro _ ⟨g3, rfl⟩
  refine AOps.nil ?_
  refine AW.seq ?_
  refine AW.seq ?_
  refine AW.region ?_
  refine AOps.cons (op_field lAction_0 rfl rfl fl56_0 (vt rfl)) rfl ?_
  refine AOps.cons (op_load rfl rfl ty3 (vt rfl) (i := 2) rfl) rfl ?_
  refine AOps.nil ?_
  refine AW.block ?_
  refine AW.seq ?_
  refine AW.region ?_
  refine AOps.cons (op_eql rfl rfl (vt rfl) (vk rfl)) rfl ?_
  refine AOps.cons (op_assign (A := rd kbool (decide (a1.Kind = 25))) rfl rfl (vt rfl)) rfl ?_
  refine AOps.nil ?_
  refine AW.cond (vt rfl) (fun hc => ?_) (fun hc => ?_)
  · have h := cond_t hc h
    refine AW.seq ?_
    obtain ⟨x4, hx4, h⟩ := bsome h
    refine AW.region ?_
    refine AOps.cons (op_field lAction_5 rfl rfl fl56_5 (vt rfl)) rfl ?_
    refine AOps.cons (op_load rfl rfl ty54 (vt rfl) (i := 2) rfl) rfl ?_
    refine AOps.cons (op_call (xs := [.tmp 10]) (c45 _ _ hx4) (Ent.mk Try.func45 rfl rfl) rfl rfl ⟨vt rfl, trivial⟩) rfl ?_
    refine AOps.consT rfl (op_alloc 4 rfl rfl zr27) ?_
    rintro _ ⟨g5, rfl⟩
    refine AOps.cons (op_store rfl rfl ty27 (vt rfl) (i := 4) rfl (vt rfl)) rfl ?_
    refine AOps.nil ?_
    refine AW.seq ?_
    obtain ⟨x6, hx6, h⟩ := bsome h
    obtain ⟨x7, hx7, h⟩ := bsome h
    refine AW.regionAny [⟨[], [12], [], []⟩, ⟨[1], [13], [], []⟩, ⟨[13], [14], [], []⟩, ⟨[14], [15], [2], []⟩, ⟨[3], [16], [], []⟩, ⟨[16], [17], [4], []⟩, ⟨[3], [18], [], []⟩, ⟨[18], [19], [4], []⟩, ⟨[12, 15, 17, 19], [20], [], []⟩, ⟨[2, 20], [], [3], [3]⟩] mixed (by kernel_rfl) ?_
    refine SeqA.cons (loc [] [] rfl rfl fun S hs hr => op_call (xs := []) (c47 _ hx6) (Ent.mk Try.func47 rfl rfl) rfl rfl trivial) ⟨rfl, rfl, rfl, rfl⟩ ?_
    refine SeqA.cons (loc [1] [] rfl rfl fun S hs hr => op_field lAction_5 rfl rfl fl56_5 (vt ((hs 1 rfl).trans rfl))) ⟨rfl, rfl, rfl, rfl⟩ ?_
    refine SeqA.cons (loc [13] [] rfl rfl fun S hs hr => op_field lOxm_0 rfl rfl fl54_0 (vt ((hs 13 rfl).trans rfl))) ⟨rfl, rfl, rfl, rfl⟩ ?_
    refine SeqA.cons (loc [14] [2] rfl rfl fun S hs hr => op_load rfl rfl ty3 (vt ((hs 14 rfl).trans rfl)) (i := 2) ((hr 2 rfl).trans rfl)) ⟨rfl, rfl, rfl, rfl⟩ ?_
    refine SeqA.cons (loc [3] [] rfl rfl fun S hs hr => op_field lTern_0 rfl rfl fl27_0 (vt ((hs 3 rfl).trans rfl))) ⟨rfl, rfl, rfl, rfl⟩ ?_
    refine SeqA.cons (loc [16] [4] rfl rfl fun S hs hr => op_load rfl rfl ty25 (vt ((hs 16 rfl).trans rfl)) (i := 4) ((hr 4 rfl).trans rfl)) ⟨rfl, rfl, rfl, rfl⟩ ?_
    refine SeqA.cons (loc [3] [] rfl rfl fun S hs hr => op_field lTern_1 rfl rfl fl27_1 (vt ((hs 3 rfl).trans rfl))) ⟨rfl, rfl, rfl, rfl⟩ ?_
    refine SeqA.cons (loc [18] [4] rfl rfl fun S hs hr => op_load rfl rfl ty25 (vt ((hs 18 rfl).trans rfl)) (i := 4) ((hr 4 rfl).trans rfl)) ⟨rfl, rfl, rfl, rfl⟩ ?_
    refine SeqA.cons (loc [12, 15, 17, 19] [] rfl rfl fun S hs hr => op_call (xs := [.tmp 12, .tmp 15, .tmp 17, .tmp 19]) (c46 _ _ _ _ _ hx7) (Ent.mk Try.func46 rfl rfl) rfl rfl ⟨vt ((hs 12 rfl).trans rfl), vt ((hs 15 rfl).trans rfl), vt ((hs 17 rfl).trans rfl), vt ((hs 19 rfl).trans rfl), trivial⟩) ⟨rfl, rfl, rfl, rfl⟩ ?_
    refine SeqA.cons (locr [2, 20] [3] rfl fun S hs hr => op_store rfl rfl ty29 (vt ((hs 2 rfl).trans rfl)) (i := 3) ((hr 3 rfl).trans rfl) (vt ((hs 20 rfl).trans rfl))) ⟨rfl, rfl, rfl, rfl⟩ ?_
    refine AW.ret ?_
    obtain rfl := Option.some.inj h
    exact ret1 Try.results23 rfl (out_cell rfl (i := 3) rfl ty29)
  · have h := cond_f hc h
    refine AW.seq ?_
    refine AW.region ?_
    refine AOps.cons (op_eql rfl rfl (vt rfl) (vk rfl)) rfl ?_
    refine AOps.cons (op_assign (A := rd kbool (decide (a1.Kind = 17))) rfl rfl (vt rfl)) rfl ?_
    refine AOps.nil ?_
    refine AW.cond (vt rfl) (fun hc => ?_) (fun hc => ?_)
    · have h := cond_t hc h
      refine AW.seq ?_
      obtain ⟨x8, hx8, h⟩ := bsome h
      obtain ⟨x9, hx9, h⟩ := bsome h
      obtain ⟨x10, hx10, h⟩ := bsome h
      obtain ⟨x11, hx11, h⟩ := bsome h
      refine AW.region ?_
      refine AOps.cons (op_call (xs := []) (c47 _ hx8) (Ent.mk Try.func47 rfl rfl) rfl rfl trivial) rfl ?_
      refine AOps.cons (op_call (xs := [.const (Value.int IntKind.i64 12)]) (c48 _ _ hx9) (Ent.mk Try.func48 rfl rfl) rfl rfl ⟨vk rfl, trivial⟩) rfl ?_
      refine AOps.cons (op_call (xs := [.const (Value.int IntKind.i64 12)]) (c48 _ _ hx10) (Ent.mk Try.func48 rfl rfl) rfl rfl ⟨vk rfl, trivial⟩) rfl ?_
      refine AOps.cons (op_call (xs := [.tmp 23, .const (Value.int IntKind.i64 5), .tmp 24, .tmp 25]) (c46 _ _ _ _ _ hx11) (Ent.mk Try.func46 rfl rfl) rfl rfl ⟨vt rfl, vk rfl, vt rfl, vt rfl, trivial⟩) rfl ?_
      refine AOps.cons (op_store rfl rfl ty29 (vt rfl) (i := 3) rfl (vt rfl)) rfl ?_
      refine AOps.nil ?_
      refine AW.ret ?_
      obtain rfl := Option.some.inj h
      exact ret1 Try.results23 rfl (out_cell rfl (i := 3) rfl ty29)
    · have h := cond_f hc h
      refine AW.seq ?_
      refine AW.region ?_
      refine AOps.cons (op_eql rfl rfl (vt rfl) (vk rfl)) rfl ?_
      refine AOps.cons (op_assign (A := rd kbool (decide (a1.Kind = 18))) rfl rfl (vt rfl)) rfl ?_
      refine AOps.nil ?_
      refine AW.cond (vt rfl) (fun hc => ?_) (fun hc => ?_)
      · have h := cond_t hc h
        refine AW.seq ?_
        obtain ⟨x12, hx12, h⟩ := bsome h
        obtain ⟨x13, hx13, h⟩ := bsome h
        obtain ⟨x14, hx14, h⟩ := bsome h
        refine AW.region ?_
        refine AOps.cons (op_call (xs := []) (c47 _ hx12) (Ent.mk Try.func47 rfl rfl) rfl rfl trivial) rfl ?_
        refine AOps.cons (op_build (ps := []) (x := (⟨0, 0⟩ : Wide)) rfl rfl rfl (by kernel_rfl) zr25 rfl) rfl ?_
        refine AOps.cons (op_call (xs := [.const (Value.int IntKind.i64 13)]) (c49 _ _ hx13) (Ent.mk Try.func49 rfl rfl) rfl rfl ⟨vk rfl, trivial⟩) rfl ?_
        refine AOps.cons (op_call (xs := [.tmp 29, .const (Value.int IntKind.i64 5), .tmp 30, .tmp 31]) (c46 _ _ _ _ _ hx14) (Ent.mk Try.func46 rfl rfl) rfl rfl ⟨vt rfl, vk rfl, vt rfl, vt rfl, trivial⟩) rfl ?_
        refine AOps.consT rfl (op_alloc 5 rfl rfl zr29) ?_
        rintro _ ⟨g15, rfl⟩
        refine AOps.cons (op_store rfl rfl ty29 (vt rfl) (i := 5) rfl (vt rfl)) rfl ?_
        refine AOps.nil ?_
        refine AW.seq ?_
        obtain ⟨x16, hx16, h⟩ := bsome h
        obtain ⟨x17, hx17, h⟩ := bsome h
        refine AW.regionAny [⟨[4], [33], [5], []⟩, ⟨[], [34], [], []⟩, ⟨[], [35], [], []⟩, ⟨[33, 34, 35], [36], [], []⟩, ⟨[2, 36], [], [3], [3]⟩] mixed (by kernel_rfl) ?_
        refine SeqA.cons (loc [4] [5] rfl rfl fun S hs hr => op_load rfl rfl ty29 (vt ((hs 4 rfl).trans rfl)) (i := 5) ((hr 5 rfl).trans rfl)) ⟨rfl, rfl, rfl, rfl⟩ ?_
        refine SeqA.cons (loc [] [] rfl rfl fun S hs hr => op_build (ps := []) (x := (⟨0, 0⟩ : Wide)) rfl rfl rfl (by kernel_rfl) zr25 rfl) ⟨rfl, rfl, rfl, rfl⟩ ?_
        refine SeqA.cons (loc [] [] rfl rfl fun S hs hr => op_call (xs := [.const (Value.int IntKind.i64 3)]) (c49 _ _ hx16) (Ent.mk Try.func49 rfl rfl) rfl rfl ⟨vk rfl, trivial⟩) ⟨rfl, rfl, rfl, rfl⟩ ?_
        refine SeqA.cons (loc [33, 34, 35] [] rfl rfl fun S hs hr => op_call (xs := [.tmp 33, .const (Value.int IntKind.i64 6), .tmp 34, .tmp 35]) (c46 _ _ _ _ _ hx17) (Ent.mk Try.func46 rfl rfl) rfl rfl ⟨vt ((hs 33 rfl).trans rfl), vk rfl, vt ((hs 34 rfl).trans rfl), vt ((hs 35 rfl).trans rfl), trivial⟩) ⟨rfl, rfl, rfl, rfl⟩ ?_
        refine SeqA.cons (locr [2, 36] [3] rfl fun S hs hr => op_store rfl rfl ty29 (vt ((hs 2 rfl).trans rfl)) (i := 3) ((hr 3 rfl).trans rfl) (vt ((hs 36 rfl).trans rfl))) ⟨rfl, rfl, rfl, rfl⟩ ?_
        refine AW.ret ?_
        obtain rfl := Option.some.inj h
        exact ret1 Try.results23 rfl (out_cell rfl (i := 3) rfl ty29)
      · have h := cond_f hc h
        refine AW.skip ?_
        refine AW.seq ?_
        obtain ⟨x18, hx18, h⟩ := bsome h
        refine AW.region ?_
        refine AOps.cons (op_call (xs := []) (c47 _ hx18) (Ent.mk Try.func47 rfl rfl) rfl rfl trivial) rfl ?_
        refine AOps.cons (op_store rfl rfl ty29 (vt rfl) (i := 3) rfl (vt rfl)) rfl ?_
        refine AOps.nil ?_
        refine AW.ret ?_
        obtain rfl := Option.some.inj h
        exact ret1 Try.results23 rfl (out_cell rfl (i := 3) rfl ty29)
-- weirbox/weirboxref32.Do
def F7_j2 (l12 : (List Atom)) (go1 : (Vector Tern 24) → (List Atom) → Int → Option ((List Atom) × (Vector Tern 24))) (b11 : (Vector Tern 24)) (i14 : Int) (b19 : Atom) : Option ((List Atom) × (Vector Tern 24)) :=
  (appd l12 [b19]).bind fun l20 => go1 b11 l20 (IntKind.i64.wrap (i14 + 1))
def F7_l1 (acts1 : (List Action)) : Nat → (Vector Tern 24) → (List Atom) → Int → Option ((List Atom) × (Vector Tern 24))
  | 0, _, _, _ => none
  | m15 + 1, b11, l12, i14 => (bif (decide (i14 < (acts1.length : Int))) then (lget acts1 i14).bind fun e16 => (bif (decide (e16.Kind = 0)) then (lget acts1 i14).bind fun e17 => (bif (decide (((⟨b11, false, e17.Port, 0⟩ : Atom).Port) = 4294967293)) then (lget acts1 i14).bind fun e22 => F7_j2 l12 (F7_l1 acts1 m15) b11 i14 { (⟨b11, false, e17.Port, 0⟩ : Atom) with Max := e22.Max } else F7_j2 l12 (F7_l1 acts1 m15) b11 i14 (⟨b11, false, e17.Port, 0⟩ : Atom)) else (bif (decide (e16.Kind = 22)) then (lget acts1 i14).bind fun e23 => (appd l12 [(⟨b11, true, e23.Group, 0⟩ : Atom)]).bind fun l24 => (F7_l1 acts1 m15) b11 l24 (IntKind.i64.wrap (i14 + 1)) else (lget acts1 i14).bind fun e26 => (F23 e26).bind fun x27 => (F22 b11 x27).bind fun x28 => (F7_l1 acts1 m15) x28 l12 (IntKind.i64.wrap (i14 + 1)))) else some (l12, b11))
def F7 (acts1 : (List Action)) (r2 : (Vector Tern 24)) : Option ((List Atom) × (Vector Tern 24)) :=
  (F21 r2).bind fun x5 => F7_l1 acts1 ((((acts1.length : Int) : Int) - 0).toNat + 1) x5 [] 0
theorem c7 (acts1 : (List Action)) (r2 : (Vector Tern 24)) (r : ((List Atom) × (Vector Tern 24))) (h : F7 acts1 r2 = some r) : PCon Try.prog 7 [rd (ksl kAction) acts1, rd (karr 24 kTern) r2] (tup2 (rd (ksl kAtom) r.1) (rd (karr 24 kTern) r.2)) := by
  refine PCon.of (Con.intro0 Try.func7 rfl Try.ntmps7 rfl fun w H => ?_)
  unfold F7 at h
  refine AW.seq ?_
  refine AW.region ?_
  refine AOps.consT rfl (op_box 4 rfl rfl (vt rfl)) ?_
  rintro _ ⟨g3, rfl⟩
  refine AOps.cons (op_assign (A := rd (ksl kAtom) []) rfl rfl vnil) rfl ?_
  refine AOps.consT rfl (op_alloc 6 rfl rfl zr29) ?_
  rintro _ ⟨g4, rfl⟩
  refine AOps.nil ?_
  refine AW.seq ?_
  obtain ⟨x5, hx5, h⟩ := bsome h
  refine AW.region ?_
  refine AOps.cons (op_load rfl rfl ty29 (vt rfl) (i := 4) rfl) rfl ?_
  refine AOps.cons (op_call (xs := [.tmp 9]) (c21 _ _ hx5) (Ent.mk Try.func21 rfl rfl) rfl rfl ⟨vt rfl, trivial⟩) rfl ?_
  refine AOps.cons (op_store rfl rfl ty29 (vt rfl) (i := 4) rfl (vt rfl)) rfl ?_
  refine AOps.nil ?_
  refine AW.seq ?_
  refine AW.region ?_
  refine AOps.consT rfl (op_buildSlice 1001 (ps := []) (l := []) rfl rfl sl30 zr36 rfl rfl rfl rfl) ?_
  rintro _ ⟨v6, rfl⟩
  refine AOps.cons (op_assign (A := raw v6) rfl rfl (vt rfl)) rfl ?_
  refine AOps.nil ?_
  refine AW.seq ?_
  refine AW.seq ?_
  refine AW.region ?_
  refine AOps.cons (op_assign (A := rd (kint .i64) 0) rfl rfl (vk rfl)) rfl ?_
  refine AOps.nil ?_
  refine AW.block ?_
  refine AW.loopG (d := []) (ν := Nat × (Vector Tern 24) × (List Atom) × Int × Value) (fun n => True ∧ F7_l1 acts1 n.1 n.2.1 n.2.2.1 n.2.2.2.1 = some r) (fun n => n.1) (fun n => [(0, rd (ksl kAction) acts1), (3, ptrL g3 (Lens.id (karr 24 kTern))), (5, ptrL g4 (Lens.id (karr 24 kTern))), (6, raw n.2.2.2.2), (7, rd (kint .i64) n.2.2.2.1)]) (fun n => [(4, Blk g3 29 (karr 24 kTern) n.2.1), (6, Blk g4 29 (karr 24 kTern) (Vector.replicate 24 zTern)), (1001, Row n.2.2.2.2 36 kAtom n.2.2.1)]) (((((acts1.length : Int) : Int) - 0).toNat + 1), x5, [], 0, v6) ⟨trivial, h⟩ ⟨rfl, ⟨rfl, rfl, rfl, rfl, rfl, trivial⟩, ⟨rfl, rfl, rfl, trivial⟩⟩ ?_
  rintro ⟨m15, b11, l12, i14, v13⟩ ⟨hsf1, h⟩
  change True at hsf1
  change F7_l1 acts1 m15 b11 l12 i14 = some r at h
  change AW _ _ _ ⟨slots [(0, rd (ksl kAction) acts1), (3, ptrL g3 (Lens.id (karr 24 kTern))), (5, ptrL g4 (Lens.id (karr 24 kTern))), (6, raw v13), (7, rd (kint .i64) i14)], ress [(4, Blk g3 29 (karr 24 kTern) b11), (6, Blk g4 29 (karr 24 kTern) (Vector.replicate 24 zTern)), (1001, Row v13 36 kAtom l12)], _⟩
  cases m15 with
  | zero => cases h
  | succ m15 =>
    unfold F7_l1 at h
    generalize hgo1 : F7_l1 acts1 m15 = go1 at h
    refine AW.seq ?_
    refine AW.seq ?_
    refine AW.region ?_
    refine AOps.cons (op_move (A := rd (kint .i64) i14) rfl rfl (vt rfl)) rfl ?_
    refine AOps.cons (op_move (A := rd (ksl kAction) acts1) rfl rfl (vt rfl)) rfl ?_
    refine AOps.cons (op_len' rfl rfl sl22 (vt rfl)) rfl ?_
    refine AOps.cons (op_lss rfl rfl (vt rfl) (vt rfl)) rfl ?_
    refine AOps.nil ?_
    refine AW.cond (vt rfl) (fun hc => ?_) (fun hc => ?_)
    · have h := cond_t hc h
      refine AW.skip ?_
      refine AW.seq ?_
      refine AW.block ?_
      refine AW.seq ?_
      obtain ⟨e16, he16, h⟩ := bsome h
      refine AW.region ?_
      refine AOps.cons (op_move (A := rd (ksl kAction) acts1) rfl rfl (vt rfl)) rfl ?_
      refine AOps.cons (op_move (A := rd (kint .i64) i14) rfl rfl (vt rfl)) rfl ?_
      refine AOps.cons (op_indexs' rfl rfl sl22 (vt rfl) (vt rfl) he16) rfl ?_
      refine AOps.cons (op_fieldp lAction_0 rfl rfl fl56_0 (vt rfl)) rfl ?_
      refine AOps.cons (op_loadp rfl rfl ty3 (vt rfl)) rfl ?_
      refine AOps.nil ?_
      refine AW.block ?_
      refine AW.seq ?_
      refine AW.region ?_
      refine AOps.cons (op_eql rfl rfl (vt rfl) (vk rfl)) rfl ?_
      refine AOps.cons (op_assign (A := rd kbool (decide (e16.Kind = 0))) rfl rfl (vt rfl)) rfl ?_
      refine AOps.nil ?_
      refine AW.cond (vt rfl) (fun hc => ?_) (fun hc => ?_)
      · have h := cond_t hc h
        refine AW.seq ?_
        obtain ⟨e17, he17, h⟩ := bsome h
        refine AW.regionAny [⟨[3], [32], [4], []⟩, ⟨[0], [33], [], []⟩, ⟨[7], [34], [], []⟩, ⟨[33, 34], [35], [], []⟩, ⟨[35], [36], [], []⟩, ⟨[36], [37], [], []⟩, ⟨[32, 37], [38], [], []⟩, ⟨[], [8], [], []⟩, ⟨[8, 38], [8], [], []⟩] mixed (by kernel_rfl) ?_
        refine SeqA.cons (loc [3] [4] rfl rfl fun S hs hr => op_load rfl rfl ty29 (vt ((hs 3 rfl).trans rfl)) (i := 4) ((hr 4 rfl).trans rfl)) ⟨rfl, rfl, rfl, rfl⟩ ?_
        refine SeqA.cons (loc [0] [] rfl rfl fun S hs hr => op_move (A := rd (ksl kAction) acts1) rfl rfl (vt ((hs 0 rfl).trans rfl))) ⟨rfl, rfl, rfl, rfl⟩ ?_
        refine SeqA.cons (loc [7] [] rfl rfl fun S hs hr => op_move (A := rd (kint .i64) i14) rfl rfl (vt ((hs 7 rfl).trans rfl))) ⟨rfl, rfl, rfl, rfl⟩ ?_
        refine SeqA.cons (loc [33, 34] [] rfl rfl fun S hs hr => op_indexs' rfl rfl sl22 (vt ((hs 33 rfl).trans rfl)) (vt ((hs 34 rfl).trans rfl)) he17) ⟨rfl, rfl, rfl, rfl⟩ ?_
        refine SeqA.cons (loc [35] [] rfl rfl fun S hs hr => op_fieldp lAction_1 rfl rfl fl56_1 (vt ((hs 35 rfl).trans rfl))) ⟨rfl, rfl, rfl, rfl⟩ ?_
        refine SeqA.cons (loc [36] [] rfl rfl fun S hs hr => op_loadp rfl rfl ty3 (vt ((hs 36 rfl).trans rfl))) ⟨rfl, rfl, rfl, rfl⟩ ?_
        refine SeqA.cons (loc [32, 37] [] rfl rfl fun S hs hr => op_build (ps := [(0, .tmp 32), (2, .tmp 37)]) (x := (⟨b11, false, e17.Port, 0⟩ : Atom)) rfl rfl rfl (by kernel_rfl) zr36 ⟨_, _, lAtom_0, _, by kernel_rfl, (vt ((hs 32 rfl).trans rfl)), _, _, lAtom_2, _, by kernel_rfl, (vt ((hs 37 rfl).trans rfl)), rfl⟩) ⟨rfl, rfl, rfl, rfl⟩ ?_
        refine SeqA.cons (locs (us := [(8, ownP 36 kAtom zAtom)]) (ur := []) [] [] rfl fun S hs hr => op_allocO rfl rfl rfl zr36) ⟨rfl, rfl, rfl, rfl⟩ ?_
        refine SeqA.cons (locs (us := [(8, ownP 36 kAtom (⟨b11, false, e17.Port, 0⟩ : Atom))]) (ur := []) [8, 38] [] rfl fun S hs hr => op_storeO rfl rfl ty36 ((hs 8 rfl).trans rfl) (vt ((hs 38 rfl).trans rfl))) ⟨rfl, rfl, rfl, rfl⟩ ?_
        refine AW.unpackP 8 9 rfl rfl fun g18 => ?_
        refine AW.join (d := []) (ν := Atom) (fun n => F7_j2 l12 go1 b11 i14 n = some r) (fun n => [(0, rd (ksl kAction) acts1), (3, ptrL g3 (Lens.id (karr 24 kTern))), (5, ptrL g4 (Lens.id (karr 24 kTern))), (6, raw v13), (7, rd (kint .i64) i14), (8, ptrL g18 (Lens.id kAtom))]) (fun n => [(4, Blk g3 29 (karr 24 kTern) b11), (6, Blk g4 29 (karr 24 kTern) (Vector.replicate 24 zTern)), (9, Blk g18 36 kAtom n), (1001, Row v13 36 kAtom l12)]) ?hx ?hy
        case hy =>
          intro b19 h
          unfold F7_j2 at h
          change AW _ _ _ ⟨slots [(0, rd (ksl kAction) acts1), (3, ptrL g3 (Lens.id (karr 24 kTern))), (5, ptrL g4 (Lens.id (karr 24 kTern))), (6, raw v13), (7, rd (kint .i64) i14), (8, ptrL g18 (Lens.id kAtom))], ress [(4, Blk g3 29 (karr 24 kTern) b11), (6, Blk g4 29 (karr 24 kTern) (Vector.replicate 24 zTern)), (9, Blk g18 36 kAtom b19), (1001, Row v13 36 kAtom l12)], _⟩
          obtain ⟨l20, hl20, h⟩ := bsome h
          refine AW.region ?_
          refine AOps.cons (op_move (A := raw v13) rfl rfl (vt rfl)) rfl ?_
          refine AOps.cons (op_load rfl rfl ty36 (vt rfl) (i := 9) rfl) rfl ?_
          refine AOps.cons (op_buildSliceR (ps := [(0, .tmp 49)]) (l := [b19]) rfl rfl sl30 zr36 rfl rfl ⟨_, _, Lens.idx 1 kAtom 0 (by decide), _, rfl, (vt rfl), rfl⟩ rfl) rfl ?_
          refine AOps.consT rfl (op_append' 1001 hl20 rfl rfl el30 (vt rfl) rfl (vt rfl)) ?_
          rintro _ ⟨v21, rfl⟩
          refine AOps.cons (op_assign (A := raw v21) rfl rfl (vt rfl)) rfl ?_
          refine AOps.nil ?_
          refine AW.region ?_
          refine AOps.cons (op_move (A := rd (kint .i64) i14) rfl rfl (vt rfl)) rfl ?_
          refine AOps.cons (op_add rfl rfl (vt rfl) (vk rfl)) rfl ?_
          refine AOps.cons (op_assign (A := rd (kint .i64) (IntKind.i64.wrap (i14 + 1))) rfl rfl (vt rfl)) rfl ?_
          refine AOps.nil ?_
          subst hgo1
          exact ⟨(m15, b11, l20, (IntKind.i64.wrap (i14 + 1)), v21), Nat.lt_succ_self _, ⟨trivial, h⟩, ⟨rfl, ⟨rfl, rfl, rfl, rfl, rfl, trivial⟩, ⟨rfl, rfl, rfl, trivial⟩⟩⟩
        case hx =>
          refine AW.seq ?_
          refine AW.region ?_
          refine AOps.cons (op_field lAtom_2 rfl rfl fl36_2 (vt rfl)) rfl ?_
          refine AOps.cons (op_load rfl rfl ty3 (vt rfl) (i := 9) rfl) rfl ?_
          refine AOps.cons (op_eql rfl rfl (vt rfl) (vk rfl)) rfl ?_
          refine AOps.nil ?_
          refine AW.cond (vt rfl) (fun hc => ?_) (fun hc => ?_)
          · have h := cond_t hc h
            obtain ⟨e22, he22, h⟩ := bsome h
            refine AW.region ?_
            refine AOps.cons (op_move (A := rd (ksl kAction) acts1) rfl rfl (vt rfl)) rfl ?_
            refine AOps.cons (op_move (A := rd (kint .i64) i14) rfl rfl (vt rfl)) rfl ?_
            refine AOps.cons (op_indexs' rfl rfl sl22 (vt rfl) (vt rfl) he22) rfl ?_
            refine AOps.cons (op_fieldp lAction_2 rfl rfl fl56_2 (vt rfl)) rfl ?_
            refine AOps.cons (op_loadp rfl rfl ty3 (vt rfl)) rfl ?_
            refine AOps.cons (op_field lAtom_3 rfl rfl fl36_3 (vt rfl)) rfl ?_
            refine AOps.cons (op_store rfl rfl ty3 (vt rfl) (i := 9) rfl (vt rfl)) rfl ?_
            refine AOps.nil ?_
            exact ⟨{ (⟨b11, false, e17.Port, 0⟩ : Atom) with Max := e22.Max }, h, ⟨rfl, ⟨rfl, rfl, rfl, rfl, rfl, rfl, trivial⟩, ⟨rfl, rfl, rfl, rfl, trivial⟩⟩⟩
          · have h := cond_f hc h
            refine AW.skip ?_
            exact ⟨(⟨b11, false, e17.Port, 0⟩ : Atom), h, ⟨rfl, ⟨rfl, rfl, rfl, rfl, rfl, rfl, trivial⟩, ⟨rfl, rfl, rfl, rfl, trivial⟩⟩⟩
      · have h := cond_f hc h
        refine AW.seq ?_
        refine AW.region ?_
        refine AOps.cons (op_eql rfl rfl (vt rfl) (vk rfl)) rfl ?_
        refine AOps.cons (op_assign (A := rd kbool (decide (e16.Kind = 22))) rfl rfl (vt rfl)) rfl ?_
        refine AOps.nil ?_
        refine AW.cond (vt rfl) (fun hc => ?_) (fun hc => ?_)
        · have h := cond_t hc h
          obtain ⟨e23, he23, h⟩ := bsome h
          obtain ⟨l24, hl24, h⟩ := bsome h
          refine AW.regionAny [⟨[6], [54], [], []⟩, ⟨[3], [55], [4], []⟩, ⟨[0], [56], [], []⟩, ⟨[7], [57], [], []⟩, ⟨[56, 57], [58], [], []⟩, ⟨[58], [59], [], []⟩, ⟨[59], [60], [], []⟩, ⟨[55, 60], [61], [], []⟩, ⟨[61], [62], [], []⟩, ⟨[54, 62], [63], [1001], [1001]⟩, ⟨[63], [63, 6], [1002], []⟩] mixed (by kernel_rfl) ?_
          refine SeqA.cons (loc [6] [] rfl rfl fun S hs hr => op_move (A := raw v13) rfl rfl (vt ((hs 6 rfl).trans rfl))) ⟨rfl, rfl, rfl, rfl⟩ ?_
          refine SeqA.cons (loc [3] [4] rfl rfl fun S hs hr => op_load rfl rfl ty29 (vt ((hs 3 rfl).trans rfl)) (i := 4) ((hr 4 rfl).trans rfl)) ⟨rfl, rfl, rfl, rfl⟩ ?_
          refine SeqA.cons (loc [0] [] rfl rfl fun S hs hr => op_move (A := rd (ksl kAction) acts1) rfl rfl (vt ((hs 0 rfl).trans rfl))) ⟨rfl, rfl, rfl, rfl⟩ ?_
          refine SeqA.cons (loc [7] [] rfl rfl fun S hs hr => op_move (A := rd (kint .i64) i14) rfl rfl (vt ((hs 7 rfl).trans rfl))) ⟨rfl, rfl, rfl, rfl⟩ ?_
          refine SeqA.cons (loc [56, 57] [] rfl rfl fun S hs hr => op_indexs' rfl rfl sl22 (vt ((hs 56 rfl).trans rfl)) (vt ((hs 57 rfl).trans rfl)) he23) ⟨rfl, rfl, rfl, rfl⟩ ?_
          refine SeqA.cons (loc [58] [] rfl rfl fun S hs hr => op_fieldp lAction_3 rfl rfl fl56_3 (vt ((hs 58 rfl).trans rfl))) ⟨rfl, rfl, rfl, rfl⟩ ?_
          refine SeqA.cons (loc [59] [] rfl rfl fun S hs hr => op_loadp rfl rfl ty3 (vt ((hs 59 rfl).trans rfl))) ⟨rfl, rfl, rfl, rfl⟩ ?_
          refine SeqA.cons (loc [55, 60] [] rfl rfl fun S hs hr => op_build (ps := [(0, .tmp 55), (1, .const (Value.bool true)), (2, .tmp 60)]) (x := (⟨b11, true, e23.Group, 0⟩ : Atom)) rfl rfl rfl (by kernel_rfl) zr36 ⟨_, _, lAtom_0, _, by kernel_rfl, (vt ((hs 55 rfl).trans rfl)), _, _, lAtom_1, _, by kernel_rfl, vb, _, _, lAtom_2, _, by kernel_rfl, (vt ((hs 60 rfl).trans rfl)), rfl⟩) ⟨rfl, rfl, rfl, rfl⟩ ?_
          refine SeqA.cons (loc [61] [] rfl rfl fun S hs hr => op_buildSliceR (ps := [(0, .tmp 61)]) (l := [(⟨b11, true, e23.Group, 0⟩ : Atom)]) rfl rfl sl30 zr36 rfl rfl ⟨_, _, Lens.idx 1 kAtom 0 (by decide), _, rfl, (vt ((hs 61 rfl).trans rfl)), rfl⟩ rfl) ⟨rfl, rfl, rfl, rfl⟩ ?_
          refine SeqA.cons (locs (us := [(63, ownR 36 kAtom l24)]) (ur := [(1001, emp)]) [54, 62] [1001] rfl fun S hs hr => op_appendO 1001 hl24 rfl rfl rfl el30 (vt ((hs 54 rfl).trans rfl)) ((hr 1001 rfl).trans rfl) (vt ((hs 62 rfl).trans rfl))) ⟨rfl, rfl, rfl, rfl⟩ ?_
          refine SeqA.cons (locs (us := [(63, top), (6, ownR 36 kAtom l24)]) (ur := []) [63] [1002] rfl fun S hs hr => op_assignO 1002 rfl rfl rfl rfl ((hs 63 rfl).trans rfl) ((hr 1002 rfl).trans rfl)) ⟨rfl, rfl, rfl, rfl⟩ ?_
          refine AW.unpackR 6 1001 rfl rfl fun v25 => ?_
          refine AW.region ?_
          refine AOps.cons (op_move (A := rd (kint .i64) i14) rfl rfl (vt rfl)) rfl ?_
          refine AOps.cons (op_add rfl rfl (vt rfl) (vk rfl)) rfl ?_
          refine AOps.cons (op_assign (A := rd (kint .i64) (IntKind.i64.wrap (i14 + 1))) rfl rfl (vt rfl)) rfl ?_
          refine AOps.nil ?_
          subst hgo1
          exact ⟨(m15, b11, l24, (IntKind.i64.wrap (i14 + 1)), v25), Nat.lt_succ_self _, ⟨trivial, h⟩, ⟨rfl, ⟨rfl, rfl, rfl, rfl, rfl, trivial⟩, ⟨rfl, rfl, rfl, trivial⟩⟩⟩
        · have h := cond_f hc h
          obtain ⟨e26, he26, h⟩ := bsome h
          obtain ⟨x27, hx27, h⟩ := bsome h
          obtain ⟨x28, hx28, h⟩ := bsome h
          refine AW.regionAny [⟨[3], [23], [4], []⟩, ⟨[0], [24], [], []⟩, ⟨[7], [25], [], []⟩, ⟨[24, 25], [26], [], []⟩, ⟨[26], [27], [], []⟩, ⟨[27], [28], [], []⟩, ⟨[23, 28], [29], [], []⟩, ⟨[3, 29], [], [4], [4]⟩] mixed (by kernel_rfl) ?_
          refine SeqA.cons (loc [3] [4] rfl rfl fun S hs hr => op_load rfl rfl ty29 (vt ((hs 3 rfl).trans rfl)) (i := 4) ((hr 4 rfl).trans rfl)) ⟨rfl, rfl, rfl, rfl⟩ ?_
          refine SeqA.cons (loc [0] [] rfl rfl fun S hs hr => op_move (A := rd (ksl kAction) acts1) rfl rfl (vt ((hs 0 rfl).trans rfl))) ⟨rfl, rfl, rfl, rfl⟩ ?_
          refine SeqA.cons (loc [7] [] rfl rfl fun S hs hr => op_move (A := rd (kint .i64) i14) rfl rfl (vt ((hs 7 rfl).trans rfl))) ⟨rfl, rfl, rfl, rfl⟩ ?_
          refine SeqA.cons (loc [24, 25] [] rfl rfl fun S hs hr => op_indexs' rfl rfl sl22 (vt ((hs 24 rfl).trans rfl)) (vt ((hs 25 rfl).trans rfl)) he26) ⟨rfl, rfl, rfl, rfl⟩ ?_
          refine SeqA.cons (loc [26] [] rfl rfl fun S hs hr => op_loadp rfl rfl ty56 (vt ((hs 26 rfl).trans rfl))) ⟨rfl, rfl, rfl, rfl⟩ ?_
          refine SeqA.cons (loc [27] [] rfl rfl fun S hs hr => op_call (xs := [.tmp 27]) (c23 _ _ hx27) (Ent.mk Try.func23 rfl rfl) rfl rfl ⟨vt ((hs 27 rfl).trans rfl), trivial⟩) ⟨rfl, rfl, rfl, rfl⟩ ?_
          refine SeqA.cons (loc [23, 28] [] rfl rfl fun S hs hr => op_call (xs := [.tmp 23, .tmp 28]) (c22 _ _ _ hx28) (Ent.mk Try.func22 rfl rfl) rfl rfl ⟨vt ((hs 23 rfl).trans rfl), vt ((hs 28 rfl).trans rfl), trivial⟩) ⟨rfl, rfl, rfl, rfl⟩ ?_
          refine SeqA.cons (locr [3, 29] [4] rfl fun S hs hr => op_store rfl rfl ty29 (vt ((hs 3 rfl).trans rfl)) (i := 4) ((hr 4 rfl).trans rfl) (vt ((hs 29 rfl).trans rfl))) ⟨rfl, rfl, rfl, rfl⟩ ?_
          refine AW.region ?_
          refine AOps.cons (op_move (A := rd (kint .i64) i14) rfl rfl (vt rfl)) rfl ?_
          refine AOps.cons (op_add rfl rfl (vt rfl) (vk rfl)) rfl ?_
          refine AOps.cons (op_assign (A := rd (kint .i64) (IntKind.i64.wrap (i14 + 1))) rfl rfl (vt rfl)) rfl ?_
          refine AOps.nil ?_
          subst hgo1
          exact ⟨(m15, x28, l12, (IntKind.i64.wrap (i14 + 1)), v13), Nat.lt_succ_self _, ⟨trivial, h⟩, ⟨rfl, ⟨rfl, rfl, rfl, rfl, rfl, trivial⟩, ⟨rfl, rfl, rfl, trivial⟩⟩⟩
    · have h := cond_f hc h
      refine AW.exit ?_
      refine AW.seq ?_
      refine AW.regionAny [⟨[6], [64], [], []⟩, ⟨[3], [65], [4], []⟩, ⟨[64], [4], [], []⟩, ⟨[5, 65], [], [6], [6]⟩] mixed (by kernel_rfl) ?_
      refine SeqA.cons (loc [6] [] rfl rfl fun S hs hr => op_move (A := raw v13) rfl rfl (vt ((hs 6 rfl).trans rfl))) ⟨rfl, rfl, rfl, rfl⟩ ?_
      refine SeqA.cons (loc [3] [4] rfl rfl fun S hs hr => op_load rfl rfl ty29 (vt ((hs 3 rfl).trans rfl)) (i := 4) ((hr 4 rfl).trans rfl)) ⟨rfl, rfl, rfl, rfl⟩ ?_
      refine SeqA.cons (loc [64] [] rfl rfl fun S hs hr => op_assign (A := raw v13) rfl rfl (vt ((hs 64 rfl).trans rfl))) ⟨rfl, rfl, rfl, rfl⟩ ?_
      refine SeqA.cons (locr [5, 65] [6] rfl fun S hs hr => op_store rfl rfl ty29 (vt ((hs 5 rfl).trans rfl)) (i := 6) ((hr 6 rfl).trans rfl) (vt ((hs 65 rfl).trans rfl))) ⟨rfl, rfl, rfl, rfl⟩ ?_
      refine AW.freezes [4, 6, 64] 1001 rfl ⟨rfl, rfl, rfl, trivial⟩ rfl ?_
      refine AW.ret ?_
      obtain rfl := Option.some.inj h
      exact ret2 Try.results7 rfl (out_tmp rfl) (out_cell rfl (i := 6) rfl ty29)
-- slices.Equal[[]weirbox/api.Atom,weirbox/api.Atom]
def F8_l1 (s11 : (List Atom)) (s22 : (List Atom)) : Nat → Nat → Option Bool
  | 0, i3 => some true
  | m4 + 1, i3 => (lget s11 (i3 : Int)).bind fun e5 => (lget s22 (i3 : Int)).bind fun e6 => (bif (decide (e5 ≠ e6)) then some false else (F8_l1 s11 s22 m4) (i3 + 1))
def F8 (s11 : (List Atom)) (s22 : (List Atom)) : Option Bool :=
  (bif (decide ((s11.length : Int) ≠ (s22.length : Int))) then some false else F8_l1 s11 s22 ((s11.length : Int) : Int).toNat 0)
theorem c8 (s11 : (List Atom)) (s22 : (List Atom)) (r : Bool) (h : F8 s11 s22 = some r) : PCon Try.prog 8 [rd (ksl kAtom) s11, rd (ksl kAtom) s22] (rd kbool r) := by
  refine PCon.of (Con.intro0 Try.func8 rfl Try.ntmps8 rfl fun w H => ?_)
  unfold F8 at h
  refine AW.seq ?_
  refine AW.region ?_
  refine AOps.cons (op_assign (A := rd kbool false) rfl rfl vb) rfl ?_
  refine AOps.nil ?_
  refine AW.seq ?_
  refine AW.seq ?_
  refine AW.region ?_
  refine AOps.cons (op_move (A := rd (ksl kAtom) s11) rfl rfl (vt rfl)) rfl ?_
  refine AOps.cons (op_len' rfl rfl sl30 (vt rfl)) rfl ?_
  refine AOps.cons (op_move (A := rd (ksl kAtom) s22) rfl rfl (vt rfl)) rfl ?_
  refine AOps.cons (op_len' rfl rfl sl30 (vt rfl)) rfl ?_
  refine AOps.cons (op_neq rfl rfl (vt rfl) (vt rfl)) rfl ?_
  refine AOps.nil ?_
  refine AW.cond (vt rfl) (fun hc => ?_) (fun hc => ?_)
  · have h := cond_t hc h
    refine AW.seq ?_
    refine AW.region ?_
    refine AOps.cons (op_assign (A := rd kbool false) rfl rfl vb) rfl ?_
    refine AOps.nil ?_
    refine AW.ret ?_
    obtain rfl := Option.some.inj h
    exact ret1 Try.results8 rfl (out_tmp rfl)
  · have h := cond_f hc h
    refine AW.skip ?_
    refine AW.seq ?_
    refine AW.seq ?_
    refine AW.region ?_
    refine AOps.cons (op_move (A := rd (ksl kAtom) s11) rfl rfl (vt rfl)) rfl ?_
    refine AOps.cons (op_len' rfl rfl sl30 (vt rfl)) rfl ?_
    refine AOps.cons (op_move (A := rd (kint .i64) 0) rfl rfl (vk rfl)) rfl ?_
    refine AOps.nil ?_
    refine AW.block ?_
    refine AW.loopG (d := []) (ν := Nat × Nat) (fun n => Cnt (s11.length : Int) n.2 n.1 ∧ F8_l1 s11 s22 n.1 n.2 = some r) (fun n => n.1) (fun n => [(0, rd (ksl kAtom) s11), (1, rd (ksl kAtom) s22), (12, rd (kint .i64) (s11.length : Int)), (13, rd (kint .i64) (n.2 : Int))]) (fun n => []) (((s11.length : Int) : Int).toNat, 0) ⟨Cnt.start _, h⟩ ⟨rfl, ⟨rfl, rfl, rfl, rfl, trivial⟩, trivial⟩ ?_
    rintro ⟨m4, i3⟩ ⟨hsf1, h⟩
    change Cnt (s11.length : Int) i3 m4 at hsf1
    change F8_l1 s11 s22 m4 i3 = some r at h
    change AW _ _ _ ⟨slots [(0, rd (ksl kAtom) s11), (1, rd (ksl kAtom) s22), (12, rd (kint .i64) (s11.length : Int)), (13, rd (kint .i64) (i3 : Int))], ress [], _⟩
    cases m4 with
    | zero =>
      unfold F8_l1 at h
      refine AW.seq ?_
      refine AW.region ?_
      refine AOps.cons (op_lss rfl rfl (vt rfl) (vt rfl)) rfl ?_
      refine AOps.nil ?_
      refine AW.seq ?_
      refine AW.cond (vt rfl) (fun hc => absurd (of_decide_eq_true hc) hsf1.zero) (fun hc => ?_)
      refine AW.exit ?_
      refine AW.seq ?_
      refine AW.region ?_
      refine AOps.cons (op_assign (A := rd kbool true) rfl rfl vb) rfl ?_
      refine AOps.nil ?_
      refine AW.ret ?_
      obtain rfl := Option.some.inj h
      exact ret1 Try.results8 rfl (out_tmp rfl)
    | succ m4 =>
      unfold F8_l1 at h
      generalize hgo1 : F8_l1 s11 s22 m4 = go1 at h
      refine AW.seq ?_
      refine AW.region ?_
      refine AOps.cons (op_lss rfl rfl (vt rfl) (vt rfl)) rfl ?_
      refine AOps.nil ?_
      refine AW.seq ?_
      refine AW.cond (vt rfl) (fun hc => ?_) (fun hc => absurd hsf1.succ (of_decide_eq_false hc))
      have hlti3 := of_decide_eq_true hc
      refine AW.skip ?_
      refine AW.seq ?_
      refine AW.block ?_
      refine AW.seq ?_
      refine AW.region ?_
      refine AOps.cons (op_move (A := rd (kint .i64) (i3 : Int)) rfl rfl (vt rfl)) rfl ?_
      refine AOps.cons (op_assign (A := rd (kint .i64) (i3 : Int)) rfl rfl (vt rfl)) rfl ?_
      refine AOps.nil ?_
      refine AW.seq ?_
      obtain ⟨e5, he5, h⟩ := bsome h
      obtain ⟨e6, he6, h⟩ := bsome h
      refine AW.regionAny [⟨[0], [16], [], []⟩, ⟨[5], [17], [], []⟩, ⟨[16, 17], [18], [], []⟩, ⟨[18], [19], [], []⟩, ⟨[1], [20], [], []⟩, ⟨[5], [21], [], []⟩, ⟨[20, 21], [22], [], []⟩, ⟨[22], [23], [], []⟩, ⟨[19, 23], [24], [], []⟩] mixed (by kernel_rfl) ?_
      refine SeqA.cons (loc [0] [] rfl rfl fun S hs hr => op_move (A := rd (ksl kAtom) s11) rfl rfl (vt ((hs 0 rfl).trans rfl))) ⟨rfl, rfl, rfl, rfl⟩ ?_
      refine SeqA.cons (loc [5] [] rfl rfl fun S hs hr => op_move (A := rd (kint .i64) (i3 : Int)) rfl rfl (vt ((hs 5 rfl).trans rfl))) ⟨rfl, rfl, rfl, rfl⟩ ?_
      refine SeqA.cons (loc [16, 17] [] rfl rfl fun S hs hr => op_indexs' rfl rfl sl30 (vt ((hs 16 rfl).trans rfl)) (vt ((hs 17 rfl).trans rfl)) he5) ⟨rfl, rfl, rfl, rfl⟩ ?_
      refine SeqA.cons (loc [18] [] rfl rfl fun S hs hr => op_loadp rfl rfl ty36 (vt ((hs 18 rfl).trans rfl))) ⟨rfl, rfl, rfl, rfl⟩ ?_
      refine SeqA.cons (loc [1] [] rfl rfl fun S hs hr => op_move (A := rd (ksl kAtom) s22) rfl rfl (vt ((hs 1 rfl).trans rfl))) ⟨rfl, rfl, rfl, rfl⟩ ?_
      refine SeqA.cons (loc [5] [] rfl rfl fun S hs hr => op_move (A := rd (kint .i64) (i3 : Int)) rfl rfl (vt ((hs 5 rfl).trans rfl))) ⟨rfl, rfl, rfl, rfl⟩ ?_
      refine SeqA.cons (loc [20, 21] [] rfl rfl fun S hs hr => op_indexs' rfl rfl sl30 (vt ((hs 20 rfl).trans rfl)) (vt ((hs 21 rfl).trans rfl)) he6) ⟨rfl, rfl, rfl, rfl⟩ ?_
      refine SeqA.cons (loc [22] [] rfl rfl fun S hs hr => op_loadp rfl rfl ty36 (vt ((hs 22 rfl).trans rfl))) ⟨rfl, rfl, rfl, rfl⟩ ?_
      refine SeqA.cons (loc [19, 23] [] rfl rfl fun S hs hr => op_neqk rfl rfl eqk36 (by decide) rfl eg36 (vt ((hs 19 rfl).trans rfl)) (vt ((hs 23 rfl).trans rfl))) ⟨rfl, rfl, rfl, rfl⟩ ?_
      refine AW.cond (vt rfl) (fun hc => ?_) (fun hc => ?_)
      · have h := cond_t hc h
        refine AW.seq ?_
        refine AW.region ?_
        refine AOps.cons (op_assign (A := rd kbool false) rfl rfl vb) rfl ?_
        refine AOps.nil ?_
        refine AW.ret ?_
        obtain rfl := Option.some.inj h
        exact ret1 Try.results8 rfl (out_tmp rfl)
      · have h := cond_f hc h
        refine AW.skip ?_
        refine AW.region ?_
        refine AOps.cons (op_incr (t := 12) rfl rfl (vt rfl) (vk rfl) (vt rfl) hlti3) rfl ?_
        refine AOps.cons (op_move (A := rd (kint .i64) ((i3 + 1 : Nat) : Int)) rfl rfl (vt rfl)) rfl ?_
        refine AOps.nil ?_
        subst hgo1
        exact ⟨(m4, i3 + 1), Nat.lt_succ_self _, ⟨hsf1.next, h⟩, ⟨rfl, ⟨rfl, rfl, rfl, rfl, trivial⟩, trivial⟩⟩
-- weirbox/weirboxref32.Same
def F10_l1 (a1 : (List Atom)) (b2 : (List Atom)) : Nat → Int → Option Bool
  | 0, _ => none
  | m5 + 1, i4 => (bif (decide (i4 < (a1.length : Int))) then (lget a1 i4).bind fun e6 => (lget b2 i4).bind fun e7 => (opt (!(!(e6.Group == e7.Group))) (lget a1 i4)).bind fun e8 => (opt (!(!(e6.Group == e7.Group))) (lget b2 i4)).bind fun e9 => (opt (!((!(e6.Group == e7.Group)) || (decide (e8.Port ≠ e9.Port)))) (lget a1 i4)).bind fun e10 => (opt (!((!(e6.Group == e7.Group)) || (decide (e8.Port ≠ e9.Port)))) (lget b2 i4)).bind fun e11 => (opt (!(((!(e6.Group == e7.Group)) || (decide (e8.Port ≠ e9.Port))) || (decide (e10.Max ≠ e11.Max)))) (lget a1 i4)).bind fun e12 => (opt (!(((!(e6.Group == e7.Group)) || (decide (e8.Port ≠ e9.Port))) || (decide (e10.Max ≠ e11.Max)))) (F21 e12.Rewrite)).bind fun x13 => (opt (!(((!(e6.Group == e7.Group)) || (decide (e8.Port ≠ e9.Port))) || (decide (e10.Max ≠ e11.Max)))) (lget b2 i4)).bind fun e14 => (opt (!(((!(e6.Group == e7.Group)) || (decide (e8.Port ≠ e9.Port))) || (decide (e10.Max ≠ e11.Max)))) (F21 e14.Rewrite)).bind fun x15 => (bif ((((!(e6.Group == e7.Group)) || (decide (e8.Port ≠ e9.Port))) || (decide (e10.Max ≠ e11.Max))) || (decide (x13 ≠ x15))) then some false else (F10_l1 a1 b2 m5) (IntKind.i64.wrap (i4 + 1))) else some true)
def F10 (a1 : (List Atom)) (b2 : (List Atom)) : Option Bool :=
  (bif (decide ((a1.length : Int) ≠ (b2.length : Int))) then some false else F10_l1 a1 b2 ((((a1.length : Int) : Int) - 0).toNat + 1) 0)
theorem c10 (a1 : (List Atom)) (b2 : (List Atom)) (r : Bool) (h : F10 a1 b2 = some r) : PCon Try.prog 10 [rd (ksl kAtom) a1, rd (ksl kAtom) b2] (rd kbool r) := by
  refine PCon.of (Con.intro0 Try.func10 rfl Try.ntmps10 rfl fun w H => ?_)
  unfold F10 at h
  refine AW.seq ?_
  refine AW.region ?_
  refine AOps.cons (op_assign (A := rd kbool false) rfl rfl vb) rfl ?_
  refine AOps.nil ?_
  refine AW.seq ?_
  refine AW.seq ?_
  refine AW.region ?_
  refine AOps.cons (op_move (A := rd (ksl kAtom) a1) rfl rfl (vt rfl)) rfl ?_
  refine AOps.cons (op_len' rfl rfl sl30 (vt rfl)) rfl ?_
  refine AOps.cons (op_move (A := rd (ksl kAtom) b2) rfl rfl (vt rfl)) rfl ?_
  refine AOps.cons (op_len' rfl rfl sl30 (vt rfl)) rfl ?_
  refine AOps.cons (op_neq rfl rfl (vt rfl) (vt rfl)) rfl ?_
  refine AOps.nil ?_
  refine AW.cond (vt rfl) (fun hc => ?_) (fun hc => ?_)
  · have h := cond_t hc h
    refine AW.seq ?_
    refine AW.region ?_
    refine AOps.cons (op_assign (A := rd kbool false) rfl rfl vb) rfl ?_
    refine AOps.nil ?_
    refine AW.ret ?_
    obtain rfl := Option.some.inj h
    exact ret1 Try.results10 rfl (out_tmp rfl)
  · have h := cond_f hc h
    refine AW.skip ?_
    refine AW.seq ?_
    refine AW.seq ?_
    refine AW.region ?_
    refine AOps.cons (op_assign (A := rd (kint .i64) 0) rfl rfl (vk rfl)) rfl ?_
    refine AOps.nil ?_
    refine AW.block ?_
    refine AW.loopG (d := []) (ν := Nat × Int) (fun n => True ∧ F10_l1 a1 b2 n.1 n.2 = some r) (fun n => n.1) (fun n => [(0, rd (ksl kAtom) a1), (1, rd (ksl kAtom) b2), (5, rd (kint .i64) n.2)]) (fun n => []) (((((a1.length : Int) : Int) - 0).toNat + 1), 0) ⟨trivial, h⟩ ⟨rfl, ⟨rfl, rfl, rfl, trivial⟩, trivial⟩ ?_
    rintro ⟨m5, i4⟩ ⟨hsf1, h⟩
    change True at hsf1
    change F10_l1 a1 b2 m5 i4 = some r at h
    change AW _ _ _ ⟨slots [(0, rd (ksl kAtom) a1), (1, rd (ksl kAtom) b2), (5, rd (kint .i64) i4)], ress [], _⟩
    cases m5 with
    | zero => cases h
    | succ m5 =>
      unfold F10_l1 at h
      generalize hgo1 : F10_l1 a1 b2 m5 = go1 at h
      refine AW.seq ?_
      refine AW.seq ?_
      refine AW.region ?_
      refine AOps.cons (op_move (A := rd (kint .i64) i4) rfl rfl (vt rfl)) rfl ?_
      refine AOps.cons (op_move (A := rd (ksl kAtom) a1) rfl rfl (vt rfl)) rfl ?_
      refine AOps.cons (op_len' rfl rfl sl30 (vt rfl)) rfl ?_
      refine AOps.cons (op_lss rfl rfl (vt rfl) (vt rfl)) rfl ?_
      refine AOps.nil ?_
      refine AW.cond (vt rfl) (fun hc => ?_) (fun hc => ?_)
      · have h := cond_t hc h
        refine AW.skip ?_
        refine AW.seq ?_
        refine AW.block ?_
        refine AW.seq ?_
        obtain ⟨e6, he6, h⟩ := bsome h
        obtain ⟨e7, he7, h⟩ := bsome h
        obtain ⟨e8, he8, h⟩ := bsome h
        obtain ⟨e9, he9, h⟩ := bsome h
        obtain ⟨e10, he10, h⟩ := bsome h
        obtain ⟨e11, he11, h⟩ := bsome h
        obtain ⟨e12, he12, h⟩ := bsome h
        obtain ⟨x13, hx13, h⟩ := bsome h
        obtain ⟨e14, he14, h⟩ := bsome h
        obtain ⟨x15, hx15, h⟩ := bsome h
        refine AW.regionAny [⟨[0], [17], [], []⟩, ⟨[5], [18], [], []⟩, ⟨[17, 18], [19], [], []⟩, ⟨[19], [20], [], []⟩, ⟨[20], [21], [], []⟩, ⟨[1], [22], [], []⟩, ⟨[5], [23], [], []⟩, ⟨[22, 23], [24], [], []⟩, ⟨[24], [25], [], []⟩, ⟨[25], [26], [], []⟩, ⟨[21, 26], [27], [], []⟩, ⟨[27], [28], [], []⟩, ⟨[0, 28], [29], [], []⟩, ⟨[5, 28], [30], [], []⟩, ⟨[29, 30, 28], [31], [], []⟩, ⟨[31, 28], [32], [], []⟩, ⟨[32, 28], [33], [], []⟩, ⟨[1, 28], [34], [], []⟩, ⟨[5, 28], [35], [], []⟩, ⟨[34, 35, 28], [36], [], []⟩, ⟨[36, 28], [37], [], []⟩, ⟨[37, 28], [38], [], []⟩, ⟨[33, 38, 28], [39], [], []⟩, ⟨[39, 28], [40], [], []⟩, ⟨[40], [41], [], []⟩, ⟨[0, 41], [42], [], []⟩, ⟨[5, 41], [43], [], []⟩, ⟨[42, 43, 41], [44], [], []⟩, ⟨[44, 41], [45], [], []⟩, ⟨[45, 41], [46], [], []⟩, ⟨[1, 41], [47], [], []⟩, ⟨[5, 41], [48], [], []⟩, ⟨[47, 48, 41], [49], [], []⟩, ⟨[49, 41], [50], [], []⟩, ⟨[50, 41], [51], [], []⟩, ⟨[46, 51, 41], [52], [], []⟩, ⟨[52, 41], [53], [], []⟩, ⟨[53], [54], [], []⟩, ⟨[0, 54], [55], [], []⟩, ⟨[5, 54], [56], [], []⟩, ⟨[55, 56, 54], [57], [], []⟩, ⟨[57, 54], [58], [], []⟩, ⟨[58, 54], [59], [], []⟩, ⟨[59, 54], [60], [], []⟩, ⟨[1, 54], [61], [], []⟩, ⟨[5, 54], [62], [], []⟩, ⟨[61, 62, 54], [63], [], []⟩, ⟨[63, 54], [64], [], []⟩, ⟨[64, 54], [65], [], []⟩, ⟨[65, 54], [66], [], []⟩, ⟨[60, 66, 54], [67], [], []⟩, ⟨[67, 54], [68], [], []⟩] mixed (by kernel_rfl) ?_
        refine SeqA.cons (loc [0] [] rfl rfl fun S hs hr => op_move (A := rd (ksl kAtom) a1) rfl rfl (vt ((hs 0 rfl).trans rfl))) ⟨rfl, rfl, rfl, rfl⟩ ?_
        refine SeqA.cons (loc [5] [] rfl rfl fun S hs hr => op_move (A := rd (kint .i64) i4) rfl rfl (vt ((hs 5 rfl).trans rfl))) ⟨rfl, rfl, rfl, rfl⟩ ?_
        refine SeqA.cons (loc [17, 18] [] rfl rfl fun S hs hr => op_indexs' rfl rfl sl30 (vt ((hs 17 rfl).trans rfl)) (vt ((hs 18 rfl).trans rfl)) he6) ⟨rfl, rfl, rfl, rfl⟩ ?_
        refine SeqA.cons (loc [19] [] rfl rfl fun S hs hr => op_fieldp lAtom_1 rfl rfl fl36_1 (vt ((hs 19 rfl).trans rfl))) ⟨rfl, rfl, rfl, rfl⟩ ?_
        refine SeqA.cons (loc [20] [] rfl rfl fun S hs hr => op_loadp rfl rfl ty4 (vt ((hs 20 rfl).trans rfl))) ⟨rfl, rfl, rfl, rfl⟩ ?_
        refine SeqA.cons (loc [1] [] rfl rfl fun S hs hr => op_move (A := rd (ksl kAtom) b2) rfl rfl (vt ((hs 1 rfl).trans rfl))) ⟨rfl, rfl, rfl, rfl⟩ ?_
        refine SeqA.cons (loc [5] [] rfl rfl fun S hs hr => op_move (A := rd (kint .i64) i4) rfl rfl (vt ((hs 5 rfl).trans rfl))) ⟨rfl, rfl, rfl, rfl⟩ ?_
        refine SeqA.cons (loc [22, 23] [] rfl rfl fun S hs hr => op_indexs' rfl rfl sl30 (vt ((hs 22 rfl).trans rfl)) (vt ((hs 23 rfl).trans rfl)) he7) ⟨rfl, rfl, rfl, rfl⟩ ?_
        refine SeqA.cons (loc [24] [] rfl rfl fun S hs hr => op_fieldp lAtom_1 rfl rfl fl36_1 (vt ((hs 24 rfl).trans rfl))) ⟨rfl, rfl, rfl, rfl⟩ ?_
        refine SeqA.cons (loc [25] [] rfl rfl fun S hs hr => op_loadp rfl rfl ty4 (vt ((hs 25 rfl).trans rfl))) ⟨rfl, rfl, rfl, rfl⟩ ?_
        refine SeqA.cons (loc [21, 26] [] rfl rfl fun S hs hr => op_neqb rfl rfl un4 (vt ((hs 21 rfl).trans rfl)) (vt ((hs 26 rfl).trans rfl))) ⟨rfl, rfl, rfl, rfl⟩ ?_
        refine SeqA.cons (loc [27] [] rfl rfl fun S hs hr => op_move (A := rd kbool (!(e6.Group == e7.Group))) rfl rfl (vt ((hs 27 rfl).trans rfl))) ⟨rfl, rfl, rfl, rfl⟩ ?_
        refine SeqA.cons (locg [0, 28] [] rfl rfl rfl rfl rfl rfl rfl fun hq S hs hr => op_move (A := rd (ksl kAtom) a1) rfl rfl (vt ((hs 0 rfl).trans rfl))) ⟨rfl, rfl, rfl, rfl⟩ ?_
        refine SeqA.cons (locg [5, 28] [] rfl rfl rfl rfl rfl rfl rfl fun hq S hs hr => op_move (A := rd (kint .i64) i4) rfl rfl (vt ((hs 5 rfl).trans rfl))) ⟨rfl, rfl, rfl, rfl⟩ ?_
        refine SeqA.cons (locg [29, 30, 28] [] rfl rfl rfl rfl rfl rfl rfl fun hq S hs hr => op_indexs' rfl rfl sl30 (vgt ((hs 29 rfl).trans rfl) hq) (vgt ((hs 30 rfl).trans rfl) hq) (opt_f he8 hq)) ⟨rfl, rfl, rfl, rfl⟩ ?_
        refine SeqA.cons (locg [31, 28] [] rfl rfl rfl rfl rfl rfl rfl fun hq S hs hr => op_fieldp lAtom_2 rfl rfl fl36_2 (vgt ((hs 31 rfl).trans rfl) hq)) ⟨rfl, rfl, rfl, rfl⟩ ?_
        refine SeqA.cons (locg [32, 28] [] rfl rfl rfl rfl rfl rfl rfl fun hq S hs hr => op_loadp rfl rfl ty3 (vgt ((hs 32 rfl).trans rfl) hq)) ⟨rfl, rfl, rfl, rfl⟩ ?_
        refine SeqA.cons (locg [1, 28] [] rfl rfl rfl rfl rfl rfl rfl fun hq S hs hr => op_move (A := rd (ksl kAtom) b2) rfl rfl (vt ((hs 1 rfl).trans rfl))) ⟨rfl, rfl, rfl, rfl⟩ ?_
        refine SeqA.cons (locg [5, 28] [] rfl rfl rfl rfl rfl rfl rfl fun hq S hs hr => op_move (A := rd (kint .i64) i4) rfl rfl (vt ((hs 5 rfl).trans rfl))) ⟨rfl, rfl, rfl, rfl⟩ ?_
        refine SeqA.cons (locg [34, 35, 28] [] rfl rfl rfl rfl rfl rfl rfl fun hq S hs hr => op_indexs' rfl rfl sl30 (vgt ((hs 34 rfl).trans rfl) hq) (vgt ((hs 35 rfl).trans rfl) hq) (opt_f he9 hq)) ⟨rfl, rfl, rfl, rfl⟩ ?_
        refine SeqA.cons (locg [36, 28] [] rfl rfl rfl rfl rfl rfl rfl fun hq S hs hr => op_fieldp lAtom_2 rfl rfl fl36_2 (vgt ((hs 36 rfl).trans rfl) hq)) ⟨rfl, rfl, rfl, rfl⟩ ?_
        refine SeqA.cons (locg [37, 28] [] rfl rfl rfl rfl rfl rfl rfl fun hq S hs hr => op_loadp rfl rfl ty3 (vgt ((hs 37 rfl).trans rfl) hq)) ⟨rfl, rfl, rfl, rfl⟩ ?_
        refine SeqA.cons (locg [33, 38, 28] [] rfl rfl rfl rfl rfl rfl rfl fun hq S hs hr => op_neq rfl rfl (vgt ((hs 33 rfl).trans rfl) hq) (vgt ((hs 38 rfl).trans rfl) hq)) ⟨rfl, rfl, rfl, rfl⟩ ?_
        refine SeqA.cons (loc [39, 28] [] rfl rfl fun S hs hr => op_any rfl rfl (vt ((hs 28 rfl).trans rfl)) (vt ((hs 39 rfl).trans rfl))) ⟨rfl, rfl, rfl, rfl⟩ ?_
        refine SeqA.cons (loc [40] [] rfl rfl fun S hs hr => op_move (A := rd kbool ((!(e6.Group == e7.Group)) || (decide (e8.Port ≠ e9.Port)))) rfl rfl (vt ((hs 40 rfl).trans rfl))) ⟨rfl, rfl, rfl, rfl⟩ ?_
        refine SeqA.cons (locg [0, 41] [] rfl rfl rfl rfl rfl rfl rfl fun hq S hs hr => op_move (A := rd (ksl kAtom) a1) rfl rfl (vt ((hs 0 rfl).trans rfl))) ⟨rfl, rfl, rfl, rfl⟩ ?_
        refine SeqA.cons (locg [5, 41] [] rfl rfl rfl rfl rfl rfl rfl fun hq S hs hr => op_move (A := rd (kint .i64) i4) rfl rfl (vt ((hs 5 rfl).trans rfl))) ⟨rfl, rfl, rfl, rfl⟩ ?_
        refine SeqA.cons (locg [42, 43, 41] [] rfl rfl rfl rfl rfl rfl rfl fun hq S hs hr => op_indexs' rfl rfl sl30 (vgt ((hs 42 rfl).trans rfl) hq) (vgt ((hs 43 rfl).trans rfl) hq) (opt_f he10 hq)) ⟨rfl, rfl, rfl, rfl⟩ ?_
        refine SeqA.cons (locg [44, 41] [] rfl rfl rfl rfl rfl rfl rfl fun hq S hs hr => op_fieldp lAtom_3 rfl rfl fl36_3 (vgt ((hs 44 rfl).trans rfl) hq)) ⟨rfl, rfl, rfl, rfl⟩ ?_
        refine SeqA.cons (locg [45, 41] [] rfl rfl rfl rfl rfl rfl rfl fun hq S hs hr => op_loadp rfl rfl ty3 (vgt ((hs 45 rfl).trans rfl) hq)) ⟨rfl, rfl, rfl, rfl⟩ ?_
        refine SeqA.cons (locg [1, 41] [] rfl rfl rfl rfl rfl rfl rfl fun hq S hs hr => op_move (A := rd (ksl kAtom) b2) rfl rfl (vt ((hs 1 rfl).trans rfl))) ⟨rfl, rfl, rfl, rfl⟩ ?_
        refine SeqA.cons (locg [5, 41] [] rfl rfl rfl rfl rfl rfl rfl fun hq S hs hr => op_move (A := rd (kint .i64) i4) rfl rfl (vt ((hs 5 rfl).trans rfl))) ⟨rfl, rfl, rfl, rfl⟩ ?_
        refine SeqA.cons (locg [47, 48, 41] [] rfl rfl rfl rfl rfl rfl rfl fun hq S hs hr => op_indexs' rfl rfl sl30 (vgt ((hs 47 rfl).trans rfl) hq) (vgt ((hs 48 rfl).trans rfl) hq) (opt_f he11 hq)) ⟨rfl, rfl, rfl, rfl⟩ ?_
        refine SeqA.cons (locg [49, 41] [] rfl rfl rfl rfl rfl rfl rfl fun hq S hs hr => op_fieldp lAtom_3 rfl rfl fl36_3 (vgt ((hs 49 rfl).trans rfl) hq)) ⟨rfl, rfl, rfl, rfl⟩ ?_
        refine SeqA.cons (locg [50, 41] [] rfl rfl rfl rfl rfl rfl rfl fun hq S hs hr => op_loadp rfl rfl ty3 (vgt ((hs 50 rfl).trans rfl) hq)) ⟨rfl, rfl, rfl, rfl⟩ ?_
        refine SeqA.cons (locg [46, 51, 41] [] rfl rfl rfl rfl rfl rfl rfl fun hq S hs hr => op_neq rfl rfl (vgt ((hs 46 rfl).trans rfl) hq) (vgt ((hs 51 rfl).trans rfl) hq)) ⟨rfl, rfl, rfl, rfl⟩ ?_
        refine SeqA.cons (loc [52, 41] [] rfl rfl fun S hs hr => op_any rfl rfl (vt ((hs 41 rfl).trans rfl)) (vt ((hs 52 rfl).trans rfl))) ⟨rfl, rfl, rfl, rfl⟩ ?_
        refine SeqA.cons (loc [53] [] rfl rfl fun S hs hr => op_move (A := rd kbool (((!(e6.Group == e7.Group)) || (decide (e8.Port ≠ e9.Port))) || (decide (e10.Max ≠ e11.Max)))) rfl rfl (vt ((hs 53 rfl).trans rfl))) ⟨rfl, rfl, rfl, rfl⟩ ?_
        refine SeqA.cons (locg [0, 54] [] rfl rfl rfl rfl rfl rfl rfl fun hq S hs hr => op_move (A := rd (ksl kAtom) a1) rfl rfl (vt ((hs 0 rfl).trans rfl))) ⟨rfl, rfl, rfl, rfl⟩ ?_
        refine SeqA.cons (locg [5, 54] [] rfl rfl rfl rfl rfl rfl rfl fun hq S hs hr => op_move (A := rd (kint .i64) i4) rfl rfl (vt ((hs 5 rfl).trans rfl))) ⟨rfl, rfl, rfl, rfl⟩ ?_
        refine SeqA.cons (locg [55, 56, 54] [] rfl rfl rfl rfl rfl rfl rfl fun hq S hs hr => op_indexs' rfl rfl sl30 (vgt ((hs 55 rfl).trans rfl) hq) (vgt ((hs 56 rfl).trans rfl) hq) (opt_f he12 hq)) ⟨rfl, rfl, rfl, rfl⟩ ?_
        refine SeqA.cons (locg [57, 54] [] rfl rfl rfl rfl rfl rfl rfl fun hq S hs hr => op_fieldp lAtom_0 rfl rfl fl36_0 (vgt ((hs 57 rfl).trans rfl) hq)) ⟨rfl, rfl, rfl, rfl⟩ ?_
        refine SeqA.cons (locg [58, 54] [] rfl rfl rfl rfl rfl rfl rfl fun hq S hs hr => op_loadp rfl rfl ty29 (vgt ((hs 58 rfl).trans rfl) hq)) ⟨rfl, rfl, rfl, rfl⟩ ?_
        refine SeqA.cons (locg [59, 54] [] rfl rfl rfl rfl rfl rfl rfl fun hq S hs hr => op_call (xs := [.tmp 59]) (c21 _ _ (opt_f hx13 hq)) (Ent.mk Try.func21 rfl rfl) rfl rfl ⟨vgt ((hs 59 rfl).trans rfl) hq, trivial⟩) ⟨rfl, rfl, rfl, rfl⟩ ?_
        refine SeqA.cons (locg [1, 54] [] rfl rfl rfl rfl rfl rfl rfl fun hq S hs hr => op_move (A := rd (ksl kAtom) b2) rfl rfl (vt ((hs 1 rfl).trans rfl))) ⟨rfl, rfl, rfl, rfl⟩ ?_
        refine SeqA.cons (locg [5, 54] [] rfl rfl rfl rfl rfl rfl rfl fun hq S hs hr => op_move (A := rd (kint .i64) i4) rfl rfl (vt ((hs 5 rfl).trans rfl))) ⟨rfl, rfl, rfl, rfl⟩ ?_
        refine SeqA.cons (locg [61, 62, 54] [] rfl rfl rfl rfl rfl rfl rfl fun hq S hs hr => op_indexs' rfl rfl sl30 (vgt ((hs 61 rfl).trans rfl) hq) (vgt ((hs 62 rfl).trans rfl) hq) (opt_f he14 hq)) ⟨rfl, rfl, rfl, rfl⟩ ?_
        refine SeqA.cons (locg [63, 54] [] rfl rfl rfl rfl rfl rfl rfl fun hq S hs hr => op_fieldp lAtom_0 rfl rfl fl36_0 (vgt ((hs 63 rfl).trans rfl) hq)) ⟨rfl, rfl, rfl, rfl⟩ ?_
        refine SeqA.cons (locg [64, 54] [] rfl rfl rfl rfl rfl rfl rfl fun hq S hs hr => op_loadp rfl rfl ty29 (vgt ((hs 64 rfl).trans rfl) hq)) ⟨rfl, rfl, rfl, rfl⟩ ?_
        refine SeqA.cons (locg [65, 54] [] rfl rfl rfl rfl rfl rfl rfl fun hq S hs hr => op_call (xs := [.tmp 65]) (c21 _ _ (opt_f hx15 hq)) (Ent.mk Try.func21 rfl rfl) rfl rfl ⟨vgt ((hs 65 rfl).trans rfl) hq, trivial⟩) ⟨rfl, rfl, rfl, rfl⟩ ?_
        refine SeqA.cons (locg [60, 66, 54] [] rfl rfl rfl rfl rfl rfl rfl fun hq S hs hr => op_neqk rfl rfl eqk29 (by decide) rfl eg29 (vgt ((hs 60 rfl).trans rfl) hq) (vgt ((hs 66 rfl).trans rfl) hq)) ⟨rfl, rfl, rfl, rfl⟩ ?_
        refine SeqA.cons (loc [67, 54] [] rfl rfl fun S hs hr => op_any rfl rfl (vt ((hs 54 rfl).trans rfl)) (vt ((hs 67 rfl).trans rfl))) ⟨rfl, rfl, rfl, rfl⟩ ?_
        refine AW.cond (vt rfl) (fun hc => ?_) (fun hc => ?_)
        · have h := cond_t hc h
          refine AW.seq ?_
          refine AW.region ?_
          refine AOps.cons (op_assign (A := rd kbool false) rfl rfl vb) rfl ?_
          refine AOps.nil ?_
          refine AW.ret ?_
          obtain rfl := Option.some.inj h
          exact ret1 Try.results10 rfl (out_tmp rfl)
        · have h := cond_f hc h
          refine AW.skip ?_
          refine AW.region ?_
          refine AOps.cons (op_move (A := rd (kint .i64) i4) rfl rfl (vt rfl)) rfl ?_
          refine AOps.cons (op_add rfl rfl (vt rfl) (vk rfl)) rfl ?_
          refine AOps.cons (op_assign (A := rd (kint .i64) (IntKind.i64.wrap (i4 + 1))) rfl rfl (vt rfl)) rfl ?_
          refine AOps.nil ?_
          subst hgo1
          exact ⟨(m5, (IntKind.i64.wrap (i4 + 1))), Nat.lt_succ_self _, ⟨trivial, h⟩, ⟨rfl, ⟨rfl, rfl, rfl, trivial⟩, trivial⟩⟩
      · have h := cond_f hc h
        refine AW.exit ?_
        refine AW.seq ?_
        refine AW.region ?_
        refine AOps.cons (op_assign (A := rd kbool true) rfl rfl vb) rfl ?_
        refine AOps.nil ?_
        refine AW.ret ?_
        obtain rfl := Option.some.inj h
        exact ret1 Try.results10 rfl (out_tmp rfl)
-- weirbox/weirboxlaw32.AtomDoes
def F3 (acts1 : (List Action)) (r2 : (Vector Tern 24)) (k3 : (List Atom)) : Option Bool :=
  (bif ((decide ((acts1.length : Int) > 60)) || (decide ((k3.length : Int) > 60))) then (F5).bind fun x5 => some x5 else (F6 acts1 r2).bind fun x6 => (F7 acts1 r2).bind fun x8 => (F8 x6.1 x8.1).bind fun x10 => (opt (x10 && (decide (x6.2 = x8.2))) (F9 x6.1 k3)).bind fun x11 => (opt (x10 && (decide (x6.2 = x8.2))) (F10 x6.1 k3)).bind fun x12 => (opt ((x10 && (decide (x6.2 = x8.2))) && (x11 == x12)) (F5)).bind fun x13 => some (((x10 && (decide (x6.2 = x8.2))) && (x11 == x12)) && x13))
theorem c3 (acts1 : (List Action)) (r2 : (Vector Tern 24)) (k3 : (List Atom)) (r : Bool) (h : F3 acts1 r2 k3 = some r) : PCon Try.prog 3 [rd (ksl kAction) acts1, rd (karr 24 kTern) r2, rd (ksl kAtom) k3] (rd kbool r) := by
  refine PCon.of (Con.intro0 Try.func3 rfl Try.ntmps3 rfl fun w H => ?_)
  unfold F3 at h
  refine AW.seq ?_
  refine AW.region ?_
  refine AOps.consT rfl (op_box 5 rfl rfl (vt rfl)) ?_
  rintro _ ⟨g4, rfl⟩
  refine AOps.cons (op_assign (A := rd kbool false) rfl rfl vb) rfl ?_
  refine AOps.nil ?_
  refine AW.seq ?_
  refine AW.seq ?_
  refine AW.region ?_
  refine AOps.cons (op_move (A := rd (ksl kAction) acts1) rfl rfl (vt rfl)) rfl ?_
  refine AOps.cons (op_len' rfl rfl sl22 (vt rfl)) rfl ?_
  refine AOps.cons (op_gtr rfl rfl (vt rfl) (vk rfl)) rfl ?_
  refine AOps.cons (op_move (A := rd kbool (decide ((acts1.length : Int) > 60))) rfl rfl (vt rfl)) rfl ?_
  refine AOps.consG (OpG.guard rfl rfl rfl rfl rfl fun hq => op_move (A := rd (ksl kAtom) k3) rfl rfl (vt rfl)) ?_
  refine AOps.consG (OpG.guard rfl rfl rfl rfl rfl fun hq => op_len' rfl rfl sl30 (vgt rfl hq)) ?_
  refine AOps.consG (OpG.guard rfl rfl rfl rfl rfl fun hq => op_gtr rfl rfl (vgt rfl hq) (vk rfl)) ?_
  refine AOps.cons (op_any rfl rfl (vt rfl) (vt rfl)) rfl ?_
  refine AOps.nil ?_
  refine AW.cond (vt rfl) (fun hc => ?_) (fun hc => ?_)
  · have h := cond_t hc h
    refine AW.seq ?_
    obtain ⟨x5, hx5, h⟩ := bsome h
    refine AW.region ?_
    refine AOps.cons (op_call (xs := []) (c5 _ hx5) (Ent.mk Try.func5 rfl rfl) rfl rfl trivial) rfl ?_
    refine AOps.cons (op_assign (A := rd kbool x5) rfl rfl (vt rfl)) rfl ?_
    refine AOps.nil ?_
    refine AW.ret ?_
    obtain rfl := Option.some.inj h
    exact ret1 Try.results3 rfl (out_tmp rfl)
  · have h := cond_f hc h
    refine AW.skip ?_
    refine AW.seq ?_
    obtain ⟨x6, hx6, h⟩ := bsome h
    refine AW.region ?_
    refine AOps.cons (op_move (A := rd (ksl kAction) acts1) rfl rfl (vt rfl)) rfl ?_
    refine AOps.cons (op_load rfl rfl ty29 (vt rfl) (i := 5) rfl) rfl ?_
    refine AOps.cons (op_call (xs := [.tmp 21, .tmp 22]) (c6 _ _ _ hx6) (Ent.mk Try.func6 rfl rfl) rfl rfl ⟨vt rfl, vt rfl, trivial⟩) rfl ?_
    refine AOps.cons (op_move (A := tup2 (rd (ksl kAtom) x6.1) (rd (karr 24 kTern) x6.2)) rfl rfl (vt rfl)) rfl ?_
    refine AOps.cons (op_fst rfl rfl (vt rfl)) rfl ?_
    refine AOps.cons (op_snd rfl rfl (vt rfl)) rfl ?_
    refine AOps.consT rfl (op_alloc 9 rfl rfl zr29) ?_
    rintro _ ⟨g7, rfl⟩
    refine AOps.cons (op_assign (A := rd (ksl kAtom) x6.1) rfl rfl (vt rfl)) rfl ?_
    refine AOps.cons (op_store rfl rfl ty29 (vt rfl) (i := 9) rfl (vt rfl)) rfl ?_
    refine AOps.nil ?_
    refine AW.seq ?_
    obtain ⟨x8, hx8, h⟩ := bsome h
    refine AW.region ?_
    refine AOps.cons (op_move (A := rd (ksl kAction) acts1) rfl rfl (vt rfl)) rfl ?_
    refine AOps.cons (op_load rfl rfl ty29 (vt rfl) (i := 5) rfl) rfl ?_
    refine AOps.cons (op_call (xs := [.tmp 27, .tmp 28]) (c7 _ _ _ hx8) (Ent.mk Try.func7 rfl rfl) rfl rfl ⟨vt rfl, vt rfl, trivial⟩) rfl ?_
    refine AOps.cons (op_move (A := tup2 (rd (ksl kAtom) x8.1) (rd (karr 24 kTern) x8.2)) rfl rfl (vt rfl)) rfl ?_
    refine AOps.cons (op_fst rfl rfl (vt rfl)) rfl ?_
    refine AOps.cons (op_snd rfl rfl (vt rfl)) rfl ?_
    refine AOps.consT rfl (op_alloc 11 rfl rfl zr29) ?_
    rintro _ ⟨g9, rfl⟩
    refine AOps.cons (op_assign (A := rd (ksl kAtom) x8.1) rfl rfl (vt rfl)) rfl ?_
    refine AOps.cons (op_store rfl rfl ty29 (vt rfl) (i := 11) rfl (vt rfl)) rfl ?_
    refine AOps.nil ?_
    refine AW.seq ?_
    obtain ⟨x10, hx10, h⟩ := bsome h
    obtain ⟨x11, hx11, h⟩ := bsome h
    obtain ⟨x12, hx12, h⟩ := bsome h
    obtain ⟨x13, hx13, h⟩ := bsome h
    refine AW.region ?_
    refine AOps.cons (op_move (A := rd (ksl kAtom) x6.1) rfl rfl (vt rfl)) rfl ?_
    refine AOps.cons (op_move (A := rd (ksl kAtom) x8.1) rfl rfl (vt rfl)) rfl ?_
    refine AOps.cons (op_call (xs := [.tmp 32, .tmp 33]) (c8 _ _ _ hx10) (Ent.mk Try.func8 rfl rfl) rfl rfl ⟨vt rfl, vt rfl, trivial⟩) rfl ?_
    refine AOps.cons (op_move (A := rd kbool x10) rfl rfl (vt rfl)) rfl ?_
    refine AOps.consG (OpG.guard rfl rfl rfl rfl rfl fun hq => op_load rfl rfl ty29 (vt rfl) (i := 9) rfl) ?_
    refine AOps.consG (OpG.guard rfl rfl rfl rfl rfl fun hq => op_load rfl rfl ty29 (vt rfl) (i := 11) rfl) ?_
    refine AOps.consG (OpG.guard rfl rfl rfl rfl rfl fun hq => op_eqlk rfl rfl eqk29 (by decide) rfl eg29 (vgt rfl hq) (vgt rfl hq)) ?_
    refine AOps.cons (op_all rfl rfl (vt rfl) (vt rfl)) rfl ?_
    refine AOps.cons (op_move (A := rd kbool (x10 && (decide (x6.2 = x8.2)))) rfl rfl (vt rfl)) rfl ?_
    refine AOps.consG (OpG.guard rfl rfl rfl rfl rfl fun hq => op_move (A := rd (ksl kAtom) x6.1) rfl rfl (vt rfl)) ?_
    refine AOps.consG (OpG.guard rfl rfl rfl rfl rfl fun hq => op_move (A := rd (ksl kAtom) k3) rfl rfl (vt rfl)) ?_
    refine AOps.consG (OpG.guard rfl rfl rfl rfl rfl fun hq => op_call (xs := [.tmp 41, .tmp 42]) (c9 _ _ _ (opt_t hx11 hq)) (Ent.mk Try.func9 rfl rfl) rfl rfl ⟨vgt rfl hq, vgt rfl hq, trivial⟩) ?_
    refine AOps.consG (OpG.guard rfl rfl rfl rfl rfl fun hq => op_move (A := rd (ksl kAtom) x6.1) rfl rfl (vt rfl)) ?_
    refine AOps.consG (OpG.guard rfl rfl rfl rfl rfl fun hq => op_move (A := rd (ksl kAtom) k3) rfl rfl (vt rfl)) ?_
    refine AOps.consG (OpG.guard rfl rfl rfl rfl rfl fun hq => op_call (xs := [.tmp 44, .tmp 45]) (c10 _ _ _ (opt_t hx12 hq)) (Ent.mk Try.func10 rfl rfl) rfl rfl ⟨vgt rfl hq, vgt rfl hq, trivial⟩) ?_
    refine AOps.consG (OpG.guard rfl rfl rfl rfl rfl fun hq => op_eqlb rfl rfl un4 (vgt rfl hq) (vgt rfl hq)) ?_
    refine AOps.cons (op_all rfl rfl (vt rfl) (vt rfl)) rfl ?_
    refine AOps.cons (op_move (A := rd kbool ((x10 && (decide (x6.2 = x8.2))) && (x11 == x12))) rfl rfl (vt rfl)) rfl ?_
    refine AOps.consG (OpG.guard rfl rfl rfl rfl rfl fun hq => op_call (xs := []) (c5 _ (opt_t hx13 hq)) (Ent.mk Try.func5 rfl rfl) rfl rfl trivial) ?_
    refine AOps.cons (op_all rfl rfl (vt rfl) (vt rfl)) rfl ?_
    refine AOps.cons (op_assign (A := rd kbool (((x10 && (decide (x6.2 = x8.2))) && (x11 == x12)) && x13)) rfl rfl (vt rfl)) rfl ?_
    refine AOps.nil ?_
    refine AW.ret ?_
    obtain rfl := Option.some.inj h
    exact ret1 Try.results3 rfl (out_tmp rfl)
end Go.Proofs.Ytokmmcflinnfiab.W
