/- GdF5: a part of the proof. -/
import Derived.Test.YtokmmcflinnfiaaGdF4
set_option linter.unusedVariables false
set_option maxRecDepth 4000
set_option linter.unusedSimpArgs false
namespace Go.Proofs.Ytokmmcflinnfiaa.W
open Go Go.Wb
-- slices.Equal[[]weirbox/api.Cube,weirbox/api.Cube]
def F36_l1 (s11 : (List (Vector Tern 24))) (s22 : (List (Vector Tern 24))) : Nat → Nat → Option Bool
  | 0, i3 => some true
  | m4 + 1, i3 => (lget s11 (i3 : Int)).bind fun e5 => (lget s22 (i3 : Int)).bind fun e6 => (bif (decide (e5 ≠ e6)) then some false else (F36_l1 s11 s22 m4) (i3 + 1))
def F36 (s11 : (List (Vector Tern 24))) (s22 : (List (Vector Tern 24))) : Option Bool :=
  (bif (decide ((s11.length : Int) ≠ (s22.length : Int))) then some false else F36_l1 s11 s22 ((s11.length : Int) : Int).toNat 0)
theorem c36 (s11 : (List (Vector Tern 24))) (s22 : (List (Vector Tern 24))) (r : Bool) (h : F36 s11 s22 = some r) : PCon Try.prog 36 [rd (ksl (karr 24 kTern)) s11, rd (ksl (karr 24 kTern)) s22] (rd kbool r) := by
  refine PCon.of (Con.intro0 Try.func36 rfl Try.ntmps36 rfl fun w H => ?_)
  unfold F36 at h
  refine AW.seq ?_
  refine AW.region ?_
  refine AOps.cons (op_assign (A := rd kbool false) rfl rfl vb) rfl ?_
  refine AOps.nil ?_
  refine AW.seq ?_
  refine AW.seq ?_
  refine AW.region ?_
  refine AOps.cons (op_move (A := rd (ksl (karr 24 kTern)) s11) rfl rfl (vt rfl)) rfl ?_
  refine AOps.cons (op_len' rfl rfl sl64 (vt rfl)) rfl ?_
  refine AOps.cons (op_move (A := rd (ksl (karr 24 kTern)) s22) rfl rfl (vt rfl)) rfl ?_
  refine AOps.cons (op_len' rfl rfl sl64 (vt rfl)) rfl ?_
  refine AOps.cons (op_neq rfl rfl (vt rfl) (vt rfl)) rfl ?_
  refine AOps.nil ?_
  refine AW.cond (vt rfl) (fun hc => ?_) (fun hc => ?_)
  · have h := cond_t hc h
    refine AW.seq ?_
    refine AW.region ?_
    refine AOps.cons (op_assign (A := rd kbool false) rfl rfl vb) rfl ?_
    refine AOps.nil ?_
    refine AW.ret ?_
    obtain rfl := Option.some.inj h
    exact ret1 Try.results36 rfl (out_tmp rfl)
  · have h := cond_f hc h
    refine AW.skip ?_
    refine AW.seq ?_
    refine AW.seq ?_
    refine AW.region ?_
    refine AOps.cons (op_move (A := rd (ksl (karr 24 kTern)) s11) rfl rfl (vt rfl)) rfl ?_
    refine AOps.cons (op_len' rfl rfl sl64 (vt rfl)) rfl ?_
    refine AOps.cons (op_move (A := rd (kint .i64) 0) rfl rfl (vk rfl)) rfl ?_
    refine AOps.nil ?_
    refine AW.block ?_
    refine AW.loopG (d := []) (ν := Nat × Nat) (fun n => Cnt (s11.length : Int) n.2 n.1 ∧ F36_l1 s11 s22 n.1 n.2 = some r) (fun n => n.1) (fun n => [(0, rd (ksl (karr 24 kTern)) s11), (1, rd (ksl (karr 24 kTern)) s22), (12, rd (kint .i64) (s11.length : Int)), (13, rd (kint .i64) (n.2 : Int))]) (fun n => []) (((s11.length : Int) : Int).toNat, 0) ⟨Cnt.start _, h⟩ ⟨rfl, ⟨rfl, rfl, rfl, rfl, trivial⟩, trivial⟩ ?_
    rintro ⟨m4, i3⟩ ⟨hsf1, h⟩
    change Cnt (s11.length : Int) i3 m4 at hsf1
    change F36_l1 s11 s22 m4 i3 = some r at h
    change AW _ _ _ ⟨slots [(0, rd (ksl (karr 24 kTern)) s11), (1, rd (ksl (karr 24 kTern)) s22), (12, rd (kint .i64) (s11.length : Int)), (13, rd (kint .i64) (i3 : Int))], ress [], _⟩
    cases m4 with
    | zero =>
      unfold F36_l1 at h
      refine AW.seq ?_
      refine AW.region ?_
      refine AOps.cons (op_lss rfl rfl (vt rfl) (vt rfl)) rfl ?_
      refine AOps.nil ?_
      refine AW.seq ?_
      refine AW.cond (vt rfl) (fun hc => absurd (of_decide_eq_true hc) hsf1.zero) (fun hc => ?_)
      refine AW.exit ?_
      refine AW.seq ?_
      refine AW.region ?_
      refine AOps.cons (op_assign (A := rd kbool true) rfl rfl vb) rfl ?_
      refine AOps.nil ?_
      refine AW.ret ?_
      obtain rfl := Option.some.inj h
      exact ret1 Try.results36 rfl (out_tmp rfl)
    | succ m4 =>
      unfold F36_l1 at h
      generalize hgo1 : F36_l1 s11 s22 m4 = go1 at h
      refine AW.seq ?_
      refine AW.region ?_
      refine AOps.cons (op_lss rfl rfl (vt rfl) (vt rfl)) rfl ?_
      refine AOps.nil ?_
      refine AW.seq ?_
      refine AW.cond (vt rfl) (fun hc => ?_) (fun hc => absurd hsf1.succ (of_decide_eq_false hc))
      have hlti3 := of_decide_eq_true hc
      refine AW.skip ?_
      refine AW.seq ?_
      refine AW.block ?_
      refine AW.seq ?_
      refine AW.region ?_
      refine AOps.cons (op_move (A := rd (kint .i64) (i3 : Int)) rfl rfl (vt rfl)) rfl ?_
      refine AOps.cons (op_assign (A := rd (kint .i64) (i3 : Int)) rfl rfl (vt rfl)) rfl ?_
      refine AOps.nil ?_
      refine AW.seq ?_
      obtain ⟨e5, he5, h⟩ := bsome h
      obtain ⟨e6, he6, h⟩ := bsome h
      refine AW.regionAny [⟨[0], [16], [], []⟩, ⟨[5], [17], [], []⟩, ⟨[16, 17], [18], [], []⟩, ⟨[18], [19], [], []⟩, ⟨[1], [20], [], []⟩, ⟨[5], [21], [], []⟩, ⟨[20, 21], [22], [], []⟩, ⟨[22], [23], [], []⟩, ⟨[19, 23], [24], [], []⟩] mixed (by kernel_rfl) ?_
      refine SeqA.cons (loc [0] [] rfl rfl fun S hs hr => op_move (A := rd (ksl (karr 24 kTern)) s11) rfl rfl (vt ((hs 0 rfl).trans rfl))) ⟨rfl, rfl, rfl, rfl⟩ ?_
      refine SeqA.cons (loc [5] [] rfl rfl fun S hs hr => op_move (A := rd (kint .i64) (i3 : Int)) rfl rfl (vt ((hs 5 rfl).trans rfl))) ⟨rfl, rfl, rfl, rfl⟩ ?_
      refine SeqA.cons (loc [16, 17] [] rfl rfl fun S hs hr => op_indexs' rfl rfl sl64 (vt ((hs 16 rfl).trans rfl)) (vt ((hs 17 rfl).trans rfl)) he5) ⟨rfl, rfl, rfl, rfl⟩ ?_
      refine SeqA.cons (loc [18] [] rfl rfl fun S hs hr => op_loadp rfl rfl ty56 (vt ((hs 18 rfl).trans rfl))) ⟨rfl, rfl, rfl, rfl⟩ ?_
      refine SeqA.cons (loc [1] [] rfl rfl fun S hs hr => op_move (A := rd (ksl (karr 24 kTern)) s22) rfl rfl (vt ((hs 1 rfl).trans rfl))) ⟨rfl, rfl, rfl, rfl⟩ ?_
      refine SeqA.cons (loc [5] [] rfl rfl fun S hs hr => op_move (A := rd (kint .i64) (i3 : Int)) rfl rfl (vt ((hs 5 rfl).trans rfl))) ⟨rfl, rfl, rfl, rfl⟩ ?_
      refine SeqA.cons (loc [20, 21] [] rfl rfl fun S hs hr => op_indexs' rfl rfl sl64 (vt ((hs 20 rfl).trans rfl)) (vt ((hs 21 rfl).trans rfl)) he6) ⟨rfl, rfl, rfl, rfl⟩ ?_
      refine SeqA.cons (loc [22] [] rfl rfl fun S hs hr => op_loadp rfl rfl ty56 (vt ((hs 22 rfl).trans rfl))) ⟨rfl, rfl, rfl, rfl⟩ ?_
      refine SeqA.cons (loc [19, 23] [] rfl rfl fun S hs hr => op_neqk rfl rfl eqk56 (by decide) rfl eg56 (vt ((hs 19 rfl).trans rfl)) (vt ((hs 23 rfl).trans rfl))) ⟨rfl, rfl, rfl, rfl⟩ ?_
      refine AW.cond (vt rfl) (fun hc => ?_) (fun hc => ?_)
      · have h := cond_t hc h
        refine AW.seq ?_
        refine AW.region ?_
        refine AOps.cons (op_assign (A := rd kbool false) rfl rfl vb) rfl ?_
        refine AOps.nil ?_
        refine AW.ret ?_
        obtain rfl := Option.some.inj h
        exact ret1 Try.results36 rfl (out_tmp rfl)
      · have h := cond_f hc h
        refine AW.skip ?_
        refine AW.region ?_
        refine AOps.cons (op_incr (t := 12) rfl rfl (vt rfl) (vk rfl) (vt rfl) hlti3) rfl ?_
        refine AOps.cons (op_move (A := rd (kint .i64) ((i3 + 1 : Nat) : Int)) rfl rfl (vt rfl)) rfl ?_
        refine AOps.nil ?_
        subst hgo1
        exact ⟨(m4, i3 + 1), Nat.lt_succ_self _, ⟨hsf1.next, h⟩, ⟨rfl, ⟨rfl, rfl, rfl, rfl, trivial⟩, trivial⟩⟩
-- weirbox/weirboxlaw39.all
def F38_b1 (l7 : (List (Vector Tern 24))) (x11 : (Vector Tern 24)) : Option (Lp (List (Vector Tern 24))) :=
  (appd l7 [x11]).bind fun l14 => some (.go l14)
def F38 (c1 : (Vector Tern 24)) (a2 : (List Atom)) (b3 : (List Atom)) : Option (List (Vector Tern 24)) :=
  (F34 c1 a2 b3).bind fun x6 => ((Itr.run x6 (List (Vector Tern 24)) (F38_b1) (.go [])).bind lpGo).bind fun l10 => some l10
theorem c38 (c1 : (Vector Tern 24)) (a2 : (List Atom)) (b3 : (List Atom)) (r : (List (Vector Tern 24))) (h : F38 c1 a2 b3 = some r) : PCon Try.prog 38 [rd (karr 24 kTern) c1, rd (ksl kAtom) a2, rd (ksl kAtom) b3] (rd (ksl (karr 24 kTern)) r) := by
  refine PCon.of (Con.intro0 Try.func38 rfl Try.ntmps38 rfl fun w H => ?_)
  unfold F38 at h
  refine AW.seq ?_
  refine AW.region ?_
  refine AOps.consT rfl (op_box 4 rfl rfl (vt rfl)) ?_
  rintro _ ⟨g4, rfl⟩
  refine AOps.cons (op_assign (A := rd (ksl (karr 24 kTern)) []) rfl rfl vnil) rfl ?_
  refine AOps.nil ?_
  refine AW.seq ?_
  refine AW.newnil 2179 56 (karr 24 kTern) ?_
  refine AW.region ?_
  refine AOps.consT rfl (op_alloc 8 rfl rfl zrr64) ?_
  rintro _ ⟨g5, rfl⟩
  refine AOps.nil ?_
  refine AW.seq ?_
  refine AW.seq ?_
  obtain ⟨x6, hx6, h⟩ := bsome h
  refine AW.region ?_
  refine AOps.cons (op_load rfl rfl ty56 (vt rfl) (i := 4) rfl) rfl ?_
  refine AOps.cons (op_move (A := rd (ksl kAtom) a2) rfl rfl (vt rfl)) rfl ?_
  refine AOps.cons (op_move (A := rd (ksl kAtom) b3) rfl rfl (vt rfl)) rfl ?_
  refine AOps.cons (op_call (xs := [.tmp 9, .tmp 10, .tmp 11]) (c34 _ _ _ _ hx6) (Ent.mk Try.func34 rfl rfl) rfl rfl ⟨vt rfl, vt rfl, vt rfl, trivial⟩) rfl ?_
  refine AOps.nil ?_
  refine AW.block ?_
  obtain ⟨l10, hl10, h⟩ := bsome h
  have hl10 := lpgo_of hl10
  refine AW.packF 8 2179 (fun v => v) (by decide) rfl rfl ?_
  refine AW.fit (d := []) (L := [(6, rd (ksl (karr 24 kTern)) []), (7, ptrL g5 (Lens.id kraw)), (12, seqA Try.prog (karr 24 kTern) x6)]) (M := [(8, BoxF g5 64 kraw (fun v => v) 56 (karr 24 kTern) [])]) ⟨rfl, ⟨rfl, rfl, rfl, trivial⟩, ⟨rfl, trivial⟩⟩ ?_
  refine AW.rangeFunc (σ := (List (Vector Tern 24))) (fun x => [rd (karr 24 kTern) x]) (F38_b1) (fun s => ress ((fun s => [(8, BoxF g5 64 kraw (fun v => v) 56 (karr 24 kTern) s)]) s)) (fun _ s => ress ((fun s => [(8, BoxF g5 64 kraw (fun v => v) 56 (karr 24 kTern) s)]) s)) [(6, rd (ksl (karr 24 kTern)) []), (7, ptrL g5 (Lens.id kraw))] (fun l7 x11 S1 => ∃ (g12 : Nat), Fit S1 [] [(6, rd (ksl (karr 24 kTern)) []), (7, ptrL g5 (Lens.id kraw)), (8, ptrL g12 (Lens.id (karr 24 kTern)))] [(8, BoxF g5 64 kraw (fun v => v) 56 (karr 24 kTern) l7), (9, Blk g12 56 (karr 24 kTern) x11)]) 3001 (s0 := []) (sE := .go l10) rfl (vt rfl) ⟨rfl, inferInstance, rfl, inferInstance, trivial⟩ rfl (fun _ => rfl) (by intro p hp; have hp : p ∈ [13] := hp; rw [List.mem_singleton.1 hp]; show 13 < 19; decide) ?ha ?hb (fun Lf => ⟨top, _, _, Lf, _, _, hl10, rfl, rfl, rfl, rfl⟩) ?he
  case ha =>
    rintro l7 x11 r hF l w H X
    refine AW.region ?_
    refine AOps.consT rfl (op_alloc 9 rfl rfl zr56) ?_
    rintro _ ⟨g12, rfl⟩
    refine AOps.cons (op_store rfl rfl ty56 (vt rfl) (i := 9) rfl (vt rfl)) rfl ?_
    refine AOps.nil ?_
    exact ⟨rfl, g12, rfl, ⟨rfl, rfl, rfl, trivial⟩, ⟨rfl, rfl, trivial⟩⟩
  case hb =>
    rintro l7 x11 r h S1 ⟨g12, hfit⟩ l w H X
    refine AW.fit (d := []) (L := [(6, rd (ksl (karr 24 kTern)) []), (7, ptrL g5 (Lens.id kraw)), (8, ptrL g12 (Lens.id (karr 24 kTern)))]) (M := [(8, BoxF g5 64 kraw (fun v => v) 56 (karr 24 kTern) l7), (9, Blk g12 56 (karr 24 kTern) x11)]) hfit ?_
    refine AW.bodyT ?_
    change F38_b1 l7 x11 = some r at h
    unfold F38_b1 at h
    refine AW.unboxF 8 2179 (by decide) rfl rfl fun v13 => ?_
    refine AW.block ?_
    obtain ⟨l14, hl14, h⟩ := bsome h
    refine AW.region ?_
    refine AOps.cons (op_loadv v13 rfl rfl tyr64 (vt rfl) (i := 8) rfl rfl) rfl ?_
    refine AOps.cons (op_load rfl rfl ty56 (vt rfl) (i := 9) rfl) rfl ?_
    refine AOps.cons (op_buildSliceR (ps := [(0, .tmp 15)]) (l := [x11]) rfl rfl sl64 zr56 rfl rfl ⟨_, _, Lens.idx 1 (karr 24 kTern) 0 (by decide), _, rfl, (vt rfl), rfl⟩ rfl) rfl ?_
    refine AOps.consT rfl (op_append' 2179 hl14 rfl rfl el64 (vt rfl) rfl (vt rfl)) ?_
    rintro _ ⟨v15, rfl⟩
    refine AOps.cons (op_store rfl rfl tyr64 (vt rfl) (i := 8) rfl (vrow (i := 2179) rfl rfl)) rfl ?_
    refine AOps.nil ?_
    obtain rfl := Option.some.inj h
    exact ⟨_, l14, (Turn.packF 8 2179 (fun v => v) (by decide) rfl rfl), rfl, ⟨rfl, trivial⟩⟩
  case he =>
    intro D
    refine AW.unboxF 8 2179 (by decide) rfl rfl fun v16 => ?_
    refine AW.seq ?_
    refine AW.region ?_
    refine AOps.cons (op_loadv v16 rfl rfl tyr64 (vt rfl) (i := 8) rfl rfl) rfl ?_
    refine AOps.cons (op_assign (A := raw v16) rfl rfl (vt rfl)) rfl ?_
    refine AOps.nil ?_
    refine AW.freezes [6, 18] 2179 rfl ⟨rfl, rfl, trivial⟩ rfl ?_
    refine AW.ret ?_
    obtain rfl := Option.some.inj h
    exact ⟨rfl, 3001, rfl, ret1 Try.results38 rfl (out_tmp rfl)⟩
-- weirbox/weirboxref09.Apply
def F92_l1 (r1 : (Vector Tern 24)) : Nat → (Vector Wide 24) → Int → Option (Vector Wide 24)
  | 0, _, _ => none
  | m10 + 1, b8, f9 => (bif (decide (f9 < 24)) then (chk 24 f9).bind fun j11 => (chk 24 f9).bind fun j12 => (F133 (Vector.get b8 j11) ((Vector.get r1 j12).Mask)).bind fun x13 => (chk 24 f9).bind fun j14 => (chk 24 f9).bind fun j15 => (F130 ((Vector.get r1 j14).Value) ((Vector.get r1 j15).Mask)).bind fun x16 => (F132 x13 x16).bind fun x17 => (chk 24 f9).bind fun j18 => (F92_l1 r1 m10) (Vector.set b8 j18.1 x17 j18.2) (IntKind.i64.wrap (f9 + 1)) else some b8)
def F92 (r1 : (Vector Tern 24)) (h2 : (Vector Wide 24)) : Option (Vector Wide 24) :=
  F92_l1 r1 (((24 : Int) - 0).toNat + 1) h2 0
theorem c92 (r1 : (Vector Tern 24)) (h2 : (Vector Wide 24)) (r : (Vector Wide 24)) (h : F92 r1 h2 = some r) : PCon Try.prog 92 [rd (karr 24 kTern) r1, rd (karr 24 kWide) h2] (rd (karr 24 kWide) r) := by
  refine PCon.of (Con.intro0 Try.func92 rfl Try.ntmps92 rfl fun w H => ?_)
  unfold F92 at h
  refine AW.seq ?_
  refine AW.region ?_
  refine AOps.consT rfl (op_box 3 rfl rfl (vt rfl)) ?_
  rintro _ ⟨g3, rfl⟩
  refine AOps.consT rfl (op_box 4 rfl rfl (vt rfl)) ?_
  rintro _ ⟨g4, rfl⟩
  refine AOps.consT rfl (op_alloc 5 rfl rfl zr59) ?_
  rintro _ ⟨g5, rfl⟩
  refine AOps.nil ?_
  refine AW.seq ?_
  refine AW.seq ?_
  refine AW.region ?_
  refine AOps.cons (op_assign (A := rd (kint .i64) 0) rfl rfl (vk rfl)) rfl ?_
  refine AOps.nil ?_
  refine AW.block ?_
  refine AW.loopG (d := []) (ν := Nat × (Vector Wide 24) × Int) (fun n => True ∧ F92_l1 r1 n.1 n.2.1 n.2.2 = some r) (fun n => n.1) (fun n => [(2, ptrL g3 (Lens.id (karr 24 kTern))), (3, ptrL g4 (Lens.id (karr 24 kWide))), (4, ptrL g5 (Lens.id (karr 24 kWide))), (5, rd (kint .i64) n.2.2)]) (fun n => [(3, Blk g3 95 (karr 24 kTern) r1), (4, Blk g4 59 (karr 24 kWide) n.2.1), (5, Blk g5 59 (karr 24 kWide) (Vector.replicate 24 zWide))]) ((((24 : Int) - 0).toNat + 1), h2, 0) ⟨trivial, h⟩ ⟨rfl, ⟨rfl, rfl, rfl, rfl, trivial⟩, ⟨rfl, rfl, rfl, trivial⟩⟩ ?_
  rintro ⟨m10, b8, f9⟩ ⟨hsf1, h⟩
  change True at hsf1
  change F92_l1 r1 m10 b8 f9 = some r at h
  change AW _ _ _ ⟨slots [(2, ptrL g3 (Lens.id (karr 24 kTern))), (3, ptrL g4 (Lens.id (karr 24 kWide))), (4, ptrL g5 (Lens.id (karr 24 kWide))), (5, rd (kint .i64) f9)], ress [(3, Blk g3 95 (karr 24 kTern) r1), (4, Blk g4 59 (karr 24 kWide) b8), (5, Blk g5 59 (karr 24 kWide) (Vector.replicate 24 zWide))], _⟩
  cases m10 with
  | zero => cases h
  | succ m10 =>
    unfold F92_l1 at h
    generalize hgo1 : F92_l1 r1 m10 = go1 at h
    refine AW.seq ?_
    refine AW.seq ?_
    refine AW.region ?_
    refine AOps.cons (op_move (A := rd (kint .i64) f9) rfl rfl (vt rfl)) rfl ?_
    refine AOps.cons (op_lss rfl rfl (vt rfl) (vk rfl)) rfl ?_
    refine AOps.nil ?_
    refine AW.cond (vt rfl) (fun hc => ?_) (fun hc => ?_)
    · have h := cond_t hc h
      refine AW.skip ?_
      refine AW.seq ?_
      refine AW.block ?_
      obtain ⟨j11, hj11, h⟩ := bsome h
      obtain ⟨j12, hj12, h⟩ := bsome h
      obtain ⟨x13, hx13, h⟩ := bsome h
      obtain ⟨j14, hj14, h⟩ := bsome h
      obtain ⟨j15, hj15, h⟩ := bsome h
      obtain ⟨x16, hx16, h⟩ := bsome h
      obtain ⟨x17, hx17, h⟩ := bsome h
      obtain ⟨j18, hj18, h⟩ := bsome h
      refine AW.regionAny [⟨[5], [10], [], []⟩, ⟨[5], [11], [], []⟩, ⟨[3, 11], [12], [], []⟩, ⟨[12], [13], [4], []⟩, ⟨[5], [14], [], []⟩, ⟨[2, 14], [15], [], []⟩, ⟨[15], [16], [], []⟩, ⟨[16], [17], [3], []⟩, ⟨[13, 17], [18], [], []⟩, ⟨[5], [19], [], []⟩, ⟨[2, 19], [20], [], []⟩, ⟨[20], [21], [], []⟩, ⟨[21], [22], [3], []⟩, ⟨[5], [23], [], []⟩, ⟨[2, 23], [24], [], []⟩, ⟨[24], [25], [], []⟩, ⟨[25], [26], [3], []⟩, ⟨[22, 26], [27], [], []⟩, ⟨[18, 27], [28], [], []⟩, ⟨[3, 10], [29], [], []⟩, ⟨[29, 28], [], [4], [4]⟩] mixed (by kernel_rfl) ?_
      refine SeqA.cons (loc [5] [] rfl rfl fun S hs hr => op_move (A := rd (kint .i64) f9) rfl rfl (vt ((hs 5 rfl).trans rfl))) ⟨rfl, rfl, rfl, rfl⟩ ?_
      refine SeqA.cons (loc [5] [] rfl rfl fun S hs hr => op_move (A := rd (kint .i64) f9) rfl rfl (vt ((hs 5 rfl).trans rfl))) ⟨rfl, rfl, rfl, rfl⟩ ?_
      refine SeqA.cons (loc [3, 11] [] rfl rfl fun S hs hr => op_index' rfl rfl ar59 (vt ((hs 3 rfl).trans rfl)) (vt ((hs 11 rfl).trans rfl)) hj11) ⟨rfl, rfl, rfl, rfl⟩ ?_
      refine SeqA.cons (loc [12] [4] rfl rfl fun S hs hr => op_load rfl rfl ty52 (vt ((hs 12 rfl).trans rfl)) (i := 4) ((hr 4 rfl).trans rfl)) ⟨rfl, rfl, rfl, rfl⟩ ?_
      refine SeqA.cons (loc [5] [] rfl rfl fun S hs hr => op_move (A := rd (kint .i64) f9) rfl rfl (vt ((hs 5 rfl).trans rfl))) ⟨rfl, rfl, rfl, rfl⟩ ?_
      refine SeqA.cons (loc [2, 14] [] rfl rfl fun S hs hr => op_index' rfl rfl ar95 (vt ((hs 2 rfl).trans rfl)) (vt ((hs 14 rfl).trans rfl)) hj12) ⟨rfl, rfl, rfl, rfl⟩ ?_
      refine SeqA.cons (loc [15] [] rfl rfl fun S hs hr => op_field lTern_1 rfl rfl fl54_1 (vt ((hs 15 rfl).trans rfl))) ⟨rfl, rfl, rfl, rfl⟩ ?_
      refine SeqA.cons (loc [16] [3] rfl rfl fun S hs hr => op_load rfl rfl ty52 (vt ((hs 16 rfl).trans rfl)) (i := 3) ((hr 3 rfl).trans rfl)) ⟨rfl, rfl, rfl, rfl⟩ ?_
      refine SeqA.cons (loc [13, 17] [] rfl rfl fun S hs hr => op_call (xs := [.tmp 13, .tmp 17]) (c133 _ _ _ hx13) (Ent.mk Try.func133 rfl rfl) rfl rfl ⟨vt ((hs 13 rfl).trans rfl), vt ((hs 17 rfl).trans rfl), trivial⟩) ⟨rfl, rfl, rfl, rfl⟩ ?_
      refine SeqA.cons (loc [5] [] rfl rfl fun S hs hr => op_move (A := rd (kint .i64) f9) rfl rfl (vt ((hs 5 rfl).trans rfl))) ⟨rfl, rfl, rfl, rfl⟩ ?_
      refine SeqA.cons (loc [2, 19] [] rfl rfl fun S hs hr => op_index' rfl rfl ar95 (vt ((hs 2 rfl).trans rfl)) (vt ((hs 19 rfl).trans rfl)) hj14) ⟨rfl, rfl, rfl, rfl⟩ ?_
      refine SeqA.cons (loc [20] [] rfl rfl fun S hs hr => op_field lTern_0 rfl rfl fl54_0 (vt ((hs 20 rfl).trans rfl))) ⟨rfl, rfl, rfl, rfl⟩ ?_
      refine SeqA.cons (loc [21] [3] rfl rfl fun S hs hr => op_load rfl rfl ty52 (vt ((hs 21 rfl).trans rfl)) (i := 3) ((hr 3 rfl).trans rfl)) ⟨rfl, rfl, rfl, rfl⟩ ?_
      refine SeqA.cons (loc [5] [] rfl rfl fun S hs hr => op_move (A := rd (kint .i64) f9) rfl rfl (vt ((hs 5 rfl).trans rfl))) ⟨rfl, rfl, rfl, rfl⟩ ?_
      refine SeqA.cons (loc [2, 23] [] rfl rfl fun S hs hr => op_index' rfl rfl ar95 (vt ((hs 2 rfl).trans rfl)) (vt ((hs 23 rfl).trans rfl)) hj15) ⟨rfl, rfl, rfl, rfl⟩ ?_
      refine SeqA.cons (loc [24] [] rfl rfl fun S hs hr => op_field lTern_1 rfl rfl fl54_1 (vt ((hs 24 rfl).trans rfl))) ⟨rfl, rfl, rfl, rfl⟩ ?_
      refine SeqA.cons (loc [25] [3] rfl rfl fun S hs hr => op_load rfl rfl ty52 (vt ((hs 25 rfl).trans rfl)) (i := 3) ((hr 3 rfl).trans rfl)) ⟨rfl, rfl, rfl, rfl⟩ ?_
      refine SeqA.cons (loc [22, 26] [] rfl rfl fun S hs hr => op_call (xs := [.tmp 22, .tmp 26]) (c130 _ _ _ hx16) (Ent.mk Try.func130 rfl rfl) rfl rfl ⟨vt ((hs 22 rfl).trans rfl), vt ((hs 26 rfl).trans rfl), trivial⟩) ⟨rfl, rfl, rfl, rfl⟩ ?_
      refine SeqA.cons (loc [18, 27] [] rfl rfl fun S hs hr => op_call (xs := [.tmp 18, .tmp 27]) (c132 _ _ _ hx17) (Ent.mk Try.func132 rfl rfl) rfl rfl ⟨vt ((hs 18 rfl).trans rfl), vt ((hs 27 rfl).trans rfl), trivial⟩) ⟨rfl, rfl, rfl, rfl⟩ ?_
      refine SeqA.cons (loc [3, 10] [] rfl rfl fun S hs hr => op_index' rfl rfl ar59 (vt ((hs 3 rfl).trans rfl)) (vt ((hs 10 rfl).trans rfl)) hj18) ⟨rfl, rfl, rfl, rfl⟩ ?_
      refine SeqA.cons (locr [29, 28] [4] rfl fun S hs hr => op_store rfl rfl ty52 (vt ((hs 29 rfl).trans rfl)) (i := 4) ((hr 4 rfl).trans rfl) (vt ((hs 28 rfl).trans rfl))) ⟨rfl, rfl, rfl, rfl⟩ ?_
      refine AW.region ?_
      refine AOps.cons (op_move (A := rd (kint .i64) f9) rfl rfl (vt rfl)) rfl ?_
      refine AOps.cons (op_add rfl rfl (vt rfl) (vk rfl)) rfl ?_
      refine AOps.cons (op_assign (A := rd (kint .i64) (IntKind.i64.wrap (f9 + 1))) rfl rfl (vt rfl)) rfl ?_
      refine AOps.nil ?_
      subst hgo1
      exact ⟨(m10, (Vector.set b8 j18.1 x17 j18.2), (IntKind.i64.wrap (f9 + 1))), Nat.lt_succ_self _, ⟨trivial, h⟩, ⟨rfl, ⟨rfl, rfl, rfl, rfl, trivial⟩, ⟨rfl, rfl, rfl, trivial⟩⟩⟩
    · have h := cond_f hc h
      refine AW.exit ?_
      refine AW.seq ?_
      refine AW.region ?_
      refine AOps.cons (op_load rfl rfl ty59 (vt rfl) (i := 4) rfl) rfl ?_
      refine AOps.cons (op_store rfl rfl ty59 (vt rfl) (i := 5) rfl (vt rfl)) rfl ?_
      refine AOps.nil ?_
      refine AW.ret ?_
      obtain rfl := Option.some.inj h
      exact ret1 Try.results92 rfl (out_cell rfl (i := 5) rfl ty59)
-- weirbox/weirboxref39.At
def F42_l1 (a1 : (List Atom)) (h3 : (Vector Wide 24)) (b2 : (List Atom)) : Nat → Int → Option Bool
  | 0, _ => none
  | m8 + 1, i7 => (bif (decide (i7 < (a1.length : Int))) then (lget a1 i7).bind fun e9 => (F92 e9.Rewrite h3).bind fun x10 => (lget b2 i7).bind fun e11 => (F92 e11.Rewrite h3).bind fun x12 => (bif (decide (x10 ≠ x12)) then some true else (F42_l1 a1 h3 b2 m8) (IntKind.i64.wrap (i7 + 1))) else some false)
def F42 (a1 : (List Atom)) (b2 : (List Atom)) (h3 : (Vector Wide 24)) : Option Bool :=
  (F40 a1 b2).bind fun x5 => (bif x5 then some true else F42_l1 a1 h3 b2 ((((a1.length : Int) : Int) - 0).toNat + 1) 0)
theorem c42 (a1 : (List Atom)) (b2 : (List Atom)) (h3 : (Vector Wide 24)) (r : Bool) (h : F42 a1 b2 h3 = some r) : PCon Try.prog 42 [rd (ksl kAtom) a1, rd (ksl kAtom) b2, rd (karr 24 kWide) h3] (rd kbool r) := by
  refine PCon.of (Con.intro0 Try.func42 rfl Try.ntmps42 rfl fun w H => ?_)
  unfold F42 at h
  refine AW.seq ?_
  refine AW.region ?_
  refine AOps.consT rfl (op_box 6 rfl rfl (vt rfl)) ?_
  rintro _ ⟨g4, rfl⟩
  refine AOps.cons (op_assign (A := rd kbool false) rfl rfl vb) rfl ?_
  refine AOps.nil ?_
  refine AW.seq ?_
  refine AW.seq ?_
  obtain ⟨x5, hx5, h⟩ := bsome h
  refine AW.region ?_
  refine AOps.cons (op_move (A := rd (ksl kAtom) a1) rfl rfl (vt rfl)) rfl ?_
  refine AOps.cons (op_move (A := rd (ksl kAtom) b2) rfl rfl (vt rfl)) rfl ?_
  refine AOps.cons (op_call (xs := [.tmp 8, .tmp 9]) (c40 _ _ _ hx5) (Ent.mk Try.func40 rfl rfl) rfl rfl ⟨vt rfl, vt rfl, trivial⟩) rfl ?_
  refine AOps.nil ?_
  refine AW.cond (vt rfl) (fun hc => ?_) (fun hc => ?_)
  · have h := cond_t hc h
    refine AW.seq ?_
    refine AW.region ?_
    refine AOps.cons (op_assign (A := rd kbool true) rfl rfl vb) rfl ?_
    refine AOps.nil ?_
    refine AW.ret ?_
    obtain rfl := Option.some.inj h
    exact ret1 Try.results42 rfl (out_tmp rfl)
  · have h := cond_f hc h
    refine AW.skip ?_
    refine AW.seq ?_
    refine AW.seq ?_
    refine AW.region ?_
    refine AOps.cons (op_assign (A := rd (kint .i64) 0) rfl rfl (vk rfl)) rfl ?_
    refine AOps.nil ?_
    refine AW.block ?_
    refine AW.loopG (d := []) (ν := Nat × Int) (fun n => True ∧ F42_l1 a1 h3 b2 n.1 n.2 = some r) (fun n => n.1) (fun n => [(0, rd (ksl kAtom) a1), (1, rd (ksl kAtom) b2), (5, ptrL g4 (Lens.id (karr 24 kWide))), (7, rd (kint .i64) n.2)]) (fun n => [(6, Blk g4 59 (karr 24 kWide) h3)]) (((((a1.length : Int) : Int) - 0).toNat + 1), 0) ⟨trivial, h⟩ ⟨rfl, ⟨rfl, rfl, rfl, rfl, trivial⟩, ⟨rfl, trivial⟩⟩ ?_
    rintro ⟨m8, i7⟩ ⟨hsf1, h⟩
    change True at hsf1
    change F42_l1 a1 h3 b2 m8 i7 = some r at h
    change AW _ _ _ ⟨slots [(0, rd (ksl kAtom) a1), (1, rd (ksl kAtom) b2), (5, ptrL g4 (Lens.id (karr 24 kWide))), (7, rd (kint .i64) i7)], ress [(6, Blk g4 59 (karr 24 kWide) h3)], _⟩
    cases m8 with
    | zero => cases h
    | succ m8 =>
      unfold F42_l1 at h
      generalize hgo1 : F42_l1 a1 h3 b2 m8 = go1 at h
      refine AW.seq ?_
      refine AW.seq ?_
      refine AW.region ?_
      refine AOps.cons (op_move (A := rd (kint .i64) i7) rfl rfl (vt rfl)) rfl ?_
      refine AOps.cons (op_move (A := rd (ksl kAtom) a1) rfl rfl (vt rfl)) rfl ?_
      refine AOps.cons (op_len' rfl rfl sl57 (vt rfl)) rfl ?_
      refine AOps.cons (op_lss rfl rfl (vt rfl) (vt rfl)) rfl ?_
      refine AOps.nil ?_
      refine AW.cond (vt rfl) (fun hc => ?_) (fun hc => ?_)
      · have h := cond_t hc h
        refine AW.skip ?_
        refine AW.seq ?_
        refine AW.block ?_
        refine AW.seq ?_
        obtain ⟨e9, he9, h⟩ := bsome h
        obtain ⟨x10, hx10, h⟩ := bsome h
        obtain ⟨e11, he11, h⟩ := bsome h
        obtain ⟨x12, hx12, h⟩ := bsome h
        refine AW.regionAny [⟨[0], [17], [], []⟩, ⟨[7], [18], [], []⟩, ⟨[17, 18], [19], [], []⟩, ⟨[19], [20], [], []⟩, ⟨[20], [21], [], []⟩, ⟨[5], [22], [6], []⟩, ⟨[21, 22], [23], [], []⟩, ⟨[1], [24], [], []⟩, ⟨[7], [25], [], []⟩, ⟨[24, 25], [26], [], []⟩, ⟨[26], [27], [], []⟩, ⟨[27], [28], [], []⟩, ⟨[5], [29], [6], []⟩, ⟨[28, 29], [30], [], []⟩, ⟨[23, 30], [31], [], []⟩] mixed (by kernel_rfl) ?_
        refine SeqA.cons (loc [0] [] rfl rfl fun S hs hr => op_move (A := rd (ksl kAtom) a1) rfl rfl (vt ((hs 0 rfl).trans rfl))) ⟨rfl, rfl, rfl, rfl⟩ ?_
        refine SeqA.cons (loc [7] [] rfl rfl fun S hs hr => op_move (A := rd (kint .i64) i7) rfl rfl (vt ((hs 7 rfl).trans rfl))) ⟨rfl, rfl, rfl, rfl⟩ ?_
        refine SeqA.cons (loc [17, 18] [] rfl rfl fun S hs hr => op_indexs' rfl rfl sl57 (vt ((hs 17 rfl).trans rfl)) (vt ((hs 18 rfl).trans rfl)) he9) ⟨rfl, rfl, rfl, rfl⟩ ?_
        refine SeqA.cons (loc [19] [] rfl rfl fun S hs hr => op_fieldp lAtom_0 rfl rfl fl97_0 (vt ((hs 19 rfl).trans rfl))) ⟨rfl, rfl, rfl, rfl⟩ ?_
        refine SeqA.cons (loc [20] [] rfl rfl fun S hs hr => op_loadp rfl rfl ty95 (vt ((hs 20 rfl).trans rfl))) ⟨rfl, rfl, rfl, rfl⟩ ?_
        refine SeqA.cons (loc [5] [6] rfl rfl fun S hs hr => op_load rfl rfl ty59 (vt ((hs 5 rfl).trans rfl)) (i := 6) ((hr 6 rfl).trans rfl)) ⟨rfl, rfl, rfl, rfl⟩ ?_
        refine SeqA.cons (loc [21, 22] [] rfl rfl fun S hs hr => op_call (xs := [.tmp 21, .tmp 22]) (c92 _ _ _ hx10) (Ent.mk Try.func92 rfl rfl) rfl rfl ⟨vt ((hs 21 rfl).trans rfl), vt ((hs 22 rfl).trans rfl), trivial⟩) ⟨rfl, rfl, rfl, rfl⟩ ?_
        refine SeqA.cons (loc [1] [] rfl rfl fun S hs hr => op_move (A := rd (ksl kAtom) b2) rfl rfl (vt ((hs 1 rfl).trans rfl))) ⟨rfl, rfl, rfl, rfl⟩ ?_
        refine SeqA.cons (loc [7] [] rfl rfl fun S hs hr => op_move (A := rd (kint .i64) i7) rfl rfl (vt ((hs 7 rfl).trans rfl))) ⟨rfl, rfl, rfl, rfl⟩ ?_
        refine SeqA.cons (loc [24, 25] [] rfl rfl fun S hs hr => op_indexs' rfl rfl sl57 (vt ((hs 24 rfl).trans rfl)) (vt ((hs 25 rfl).trans rfl)) he11) ⟨rfl, rfl, rfl, rfl⟩ ?_
        refine SeqA.cons (loc [26] [] rfl rfl fun S hs hr => op_fieldp lAtom_0 rfl rfl fl97_0 (vt ((hs 26 rfl).trans rfl))) ⟨rfl, rfl, rfl, rfl⟩ ?_
        refine SeqA.cons (loc [27] [] rfl rfl fun S hs hr => op_loadp rfl rfl ty95 (vt ((hs 27 rfl).trans rfl))) ⟨rfl, rfl, rfl, rfl⟩ ?_
        refine SeqA.cons (loc [5] [6] rfl rfl fun S hs hr => op_load rfl rfl ty59 (vt ((hs 5 rfl).trans rfl)) (i := 6) ((hr 6 rfl).trans rfl)) ⟨rfl, rfl, rfl, rfl⟩ ?_
        refine SeqA.cons (loc [28, 29] [] rfl rfl fun S hs hr => op_call (xs := [.tmp 28, .tmp 29]) (c92 _ _ _ hx12) (Ent.mk Try.func92 rfl rfl) rfl rfl ⟨vt ((hs 28 rfl).trans rfl), vt ((hs 29 rfl).trans rfl), trivial⟩) ⟨rfl, rfl, rfl, rfl⟩ ?_
        refine SeqA.cons (loc [23, 30] [] rfl rfl fun S hs hr => op_neqk rfl rfl eqk59 (by decide) rfl eg59 (vt ((hs 23 rfl).trans rfl)) (vt ((hs 30 rfl).trans rfl))) ⟨rfl, rfl, rfl, rfl⟩ ?_
        refine AW.cond (vt rfl) (fun hc => ?_) (fun hc => ?_)
        · have h := cond_t hc h
          refine AW.seq ?_
          refine AW.region ?_
          refine AOps.cons (op_assign (A := rd kbool true) rfl rfl vb) rfl ?_
          refine AOps.nil ?_
          refine AW.ret ?_
          obtain rfl := Option.some.inj h
          exact ret1 Try.results42 rfl (out_tmp rfl)
        · have h := cond_f hc h
          refine AW.skip ?_
          refine AW.region ?_
          refine AOps.cons (op_move (A := rd (kint .i64) i7) rfl rfl (vt rfl)) rfl ?_
          refine AOps.cons (op_add rfl rfl (vt rfl) (vk rfl)) rfl ?_
          refine AOps.cons (op_assign (A := rd (kint .i64) (IntKind.i64.wrap (i7 + 1))) rfl rfl (vt rfl)) rfl ?_
          refine AOps.nil ?_
          subst hgo1
          exact ⟨(m8, (IntKind.i64.wrap (i7 + 1))), Nat.lt_succ_self _, ⟨trivial, h⟩, ⟨rfl, ⟨rfl, rfl, rfl, rfl, trivial⟩, ⟨rfl, trivial⟩⟩⟩
      · have h := cond_f hc h
        refine AW.exit ?_
        refine AW.seq ?_
        refine AW.region ?_
        refine AOps.cons (op_assign (A := rd kbool false) rfl rfl vb) rfl ?_
        refine AOps.nil ?_
        refine AW.ret ?_
        obtain rfl := Option.some.inj h
        exact ret1 Try.results42 rfl (out_tmp rfl)
-- weirbox/weirboxlaw39.DifferTells
def F5 (c1 : (Vector Tern 24)) (a2 : (List Atom)) (b3 : (List Atom)) (h4 : (Vector Wide 24)) : Option Bool :=
  (F32).bind fun x7 => (opt (!(!x7)) (F33 a2)).bind fun x8 => (opt (!((!x7) || (!x8))) (F33 b3)).bind fun x9 => (opt (!(((!x7) || (!x8)) || (!x9))) (F34 c1 a2 b3)).bind fun x10 => (bif ((((!x7) || (!x8)) || (!x9)) || false) then (F32).bind fun x11 => (opt x11 (F34 c1 a2 b3)).bind fun x12 => some (x11 && true) else (F35 c1 a2 b3).bind fun x13 => (F37 c1 a2 b3).bind fun x14 => (F36 x14 x13).bind fun x15 => (opt x15 (F38 c1 a2 b3)).bind fun x16 => (opt x15 (F36 x16 x13)).bind fun x17 => (opt (x15 && x17) (F39 a2 b3)).bind fun x18 => (opt (x15 && x17) (F40 a2 b3)).bind fun x19 => (opt ((x15 && x17) && (x18 == x19)) (F41 a2 b3 h4)).bind fun x20 => (opt ((x15 && x17) && (x18 == x19)) (F42 a2 b3 h4)).bind fun x21 => some (((x15 && x17) && (x18 == x19)) && (x20 == x21)))
theorem c5 (c1 : (Vector Tern 24)) (a2 : (List Atom)) (b3 : (List Atom)) (h4 : (Vector Wide 24)) (r : Bool) (h : F5 c1 a2 b3 h4 = some r) : PCon Try.prog 5 [rd (karr 24 kTern) c1, rd (ksl kAtom) a2, rd (ksl kAtom) b3, rd (karr 24 kWide) h4] (rd kbool r) := by
  refine PCon.of (Con.intro0 Try.func5 rfl Try.ntmps5 rfl fun w H => ?_)
  unfold F5 at h
  refine AW.seq ?_
  refine AW.region ?_
  refine AOps.consT rfl (op_box 5 rfl rfl (vt rfl)) ?_
  rintro _ ⟨g5, rfl⟩
  refine AOps.consT rfl (op_box 8 rfl rfl (vt rfl)) ?_
  rintro _ ⟨g6, rfl⟩
  refine AOps.cons (op_assign (A := rd kbool false) rfl rfl vb) rfl ?_
  refine AOps.nil ?_
  refine AW.seq ?_
  refine AW.seq ?_
  obtain ⟨x7, hx7, h⟩ := bsome h
  obtain ⟨x8, hx8, h⟩ := bsome h
  obtain ⟨x9, hx9, h⟩ := bsome h
  obtain ⟨x10, hx10, h⟩ := bsome h
  refine AW.region ?_
  refine AOps.cons (op_call (xs := []) (c32 _ hx7) (Ent.mk Try.func32 rfl rfl) rfl rfl trivial) rfl ?_
  refine AOps.cons (op_not rfl rfl (vt rfl)) rfl ?_
  refine AOps.cons (op_move (A := rd kbool (!x7)) rfl rfl (vt rfl)) rfl ?_
  refine AOps.consG (OpG.guard rfl rfl rfl rfl rfl fun hq => op_move (A := rd (ksl kAtom) a2) rfl rfl (vt rfl)) ?_
  refine AOps.consG (OpG.guard rfl rfl rfl rfl rfl fun hq => op_call (xs := [.tmp 13]) (c33 _ _ (opt_f hx8 hq)) (Ent.mk Try.func33 rfl rfl) rfl rfl ⟨vgt rfl hq, trivial⟩) ?_
  refine AOps.consG (OpG.guard rfl rfl rfl rfl rfl fun hq => op_not rfl rfl (vgt rfl hq)) ?_
  refine AOps.cons (op_any rfl rfl (vt rfl) (vt rfl)) rfl ?_
  refine AOps.cons (op_move (A := rd kbool ((!x7) || (!x8))) rfl rfl (vt rfl)) rfl ?_
  refine AOps.consG (OpG.guard rfl rfl rfl rfl rfl fun hq => op_move (A := rd (ksl kAtom) b3) rfl rfl (vt rfl)) ?_
  refine AOps.consG (OpG.guard rfl rfl rfl rfl rfl fun hq => op_call (xs := [.tmp 18]) (c33 _ _ (opt_f hx9 hq)) (Ent.mk Try.func33 rfl rfl) rfl rfl ⟨vgt rfl hq, trivial⟩) ?_
  refine AOps.consG (OpG.guard rfl rfl rfl rfl rfl fun hq => op_not rfl rfl (vgt rfl hq)) ?_
  refine AOps.cons (op_any rfl rfl (vt rfl) (vt rfl)) rfl ?_
  refine AOps.cons (op_move (A := rd kbool (((!x7) || (!x8)) || (!x9))) rfl rfl (vt rfl)) rfl ?_
  refine AOps.consG (OpG.guard rfl rfl rfl rfl rfl fun hq => op_load rfl rfl ty56 (vt rfl) (i := 5) rfl) ?_
  refine AOps.consG (OpG.guard rfl rfl rfl rfl rfl fun hq => op_move (A := rd (ksl kAtom) a2) rfl rfl (vt rfl)) ?_
  refine AOps.consG (OpG.guard rfl rfl rfl rfl rfl fun hq => op_move (A := rd (ksl kAtom) b3) rfl rfl (vt rfl)) ?_
  refine AOps.consG (OpG.guard rfl rfl rfl rfl rfl fun hq => op_call (xs := [.tmp 23, .tmp 24, .tmp 25]) (c34 _ _ _ _ (opt_f hx10 hq)) (Ent.mk Try.func34 rfl rfl) rfl rfl ⟨vgt rfl hq, vgt rfl hq, vgt rfl hq, trivial⟩) ?_
  refine AOps.consG (OpG.guard rfl rfl rfl rfl rfl fun hq => op_eqlseq rfl rfl uf62 (vgt rfl hq)) ?_
  refine AOps.cons (op_any rfl rfl (vt rfl) (vt rfl)) rfl ?_
  refine AOps.nil ?_
  refine AW.cond (vt rfl) (fun hc => ?_) (fun hc => ?_)
  · have h := cond_t hc h
    refine AW.seq ?_
    obtain ⟨x11, hx11, h⟩ := bsome h
    obtain ⟨x12, hx12, h⟩ := bsome h
    refine AW.region ?_
    refine AOps.cons (op_call (xs := []) (c32 _ hx11) (Ent.mk Try.func32 rfl rfl) rfl rfl trivial) rfl ?_
    refine AOps.cons (op_move (A := rd kbool x11) rfl rfl (vt rfl)) rfl ?_
    refine AOps.consG (OpG.guard rfl rfl rfl rfl rfl fun hq => op_load rfl rfl ty56 (vt rfl) (i := 5) rfl) ?_
    refine AOps.consG (OpG.guard rfl rfl rfl rfl rfl fun hq => op_move (A := rd (ksl kAtom) a2) rfl rfl (vt rfl)) ?_
    refine AOps.consG (OpG.guard rfl rfl rfl rfl rfl fun hq => op_move (A := rd (ksl kAtom) b3) rfl rfl (vt rfl)) ?_
    refine AOps.consG (OpG.guard rfl rfl rfl rfl rfl fun hq => op_call (xs := [.tmp 31, .tmp 32, .tmp 33]) (c34 _ _ _ _ (opt_t hx12 hq)) (Ent.mk Try.func34 rfl rfl) rfl rfl ⟨vgt rfl hq, vgt rfl hq, vgt rfl hq, trivial⟩) ?_
    refine AOps.consG (OpG.guard rfl rfl rfl rfl rfl fun hq => op_neqseq rfl rfl uf62 (vgt rfl hq)) ?_
    refine AOps.cons (op_all rfl rfl (vt rfl) (vt rfl)) rfl ?_
    refine AOps.cons (op_assign (A := rd kbool (x11 && true)) rfl rfl (vt rfl)) rfl ?_
    refine AOps.nil ?_
    refine AW.ret ?_
    obtain rfl := Option.some.inj h
    exact ret1 Try.results5 rfl (out_tmp rfl)
  · have h := cond_f hc h
    refine AW.skip ?_
    refine AW.seq ?_
    obtain ⟨x13, hx13, h⟩ := bsome h
    refine AW.region ?_
    refine AOps.cons (op_load rfl rfl ty56 (vt rfl) (i := 5) rfl) rfl ?_
    refine AOps.cons (op_move (A := rd (ksl kAtom) a2) rfl rfl (vt rfl)) rfl ?_
    refine AOps.cons (op_move (A := rd (ksl kAtom) b3) rfl rfl (vt rfl)) rfl ?_
    refine AOps.cons (op_call (xs := [.tmp 37, .tmp 38, .tmp 39]) (c35 _ _ _ _ hx13) (Ent.mk Try.func35 rfl rfl) rfl rfl ⟨vt rfl, vt rfl, vt rfl, trivial⟩) rfl ?_
    refine AOps.cons (op_assign (A := rd (ksl (karr 24 kTern)) x13) rfl rfl (vt rfl)) rfl ?_
    refine AOps.nil ?_
    refine AW.seq ?_
    obtain ⟨x14, hx14, h⟩ := bsome h
    obtain ⟨x15, hx15, h⟩ := bsome h
    obtain ⟨x16, hx16, h⟩ := bsome h
    obtain ⟨x17, hx17, h⟩ := bsome h
    obtain ⟨x18, hx18, h⟩ := bsome h
    obtain ⟨x19, hx19, h⟩ := bsome h
    obtain ⟨x20, hx20, h⟩ := bsome h
    obtain ⟨x21, hx21, h⟩ := bsome h
    refine AW.regionAny [⟨[4], [41], [5], []⟩, ⟨[1], [42], [], []⟩, ⟨[2], [43], [], []⟩, ⟨[41, 42, 43], [44], [], []⟩, ⟨[9], [45], [], []⟩, ⟨[44, 45], [46], [], []⟩, ⟨[46], [47], [], []⟩, ⟨[4, 47], [48], [5], []⟩, ⟨[1, 47], [49], [], []⟩, ⟨[2, 47], [50], [], []⟩, ⟨[48, 49, 50, 47], [51], [], []⟩, ⟨[9, 47], [52], [], []⟩, ⟨[51, 52, 47], [53], [], []⟩, ⟨[53, 47], [54], [], []⟩, ⟨[54], [55], [], []⟩, ⟨[1, 55], [56], [], []⟩, ⟨[2, 55], [57], [], []⟩, ⟨[56, 57, 55], [58], [], []⟩, ⟨[1, 55], [59], [], []⟩, ⟨[2, 55], [60], [], []⟩, ⟨[59, 60, 55], [61], [], []⟩, ⟨[58, 61, 55], [62], [], []⟩, ⟨[62, 55], [63], [], []⟩, ⟨[63], [64], [], []⟩, ⟨[1, 64], [65], [], []⟩, ⟨[2, 64], [66], [], []⟩, ⟨[7, 64], [67], [8], []⟩, ⟨[65, 66, 67, 64], [68], [], []⟩, ⟨[1, 64], [69], [], []⟩, ⟨[2, 64], [70], [], []⟩, ⟨[7, 64], [71], [8], []⟩, ⟨[69, 70, 71, 64], [72], [], []⟩, ⟨[68, 72, 64], [73], [], []⟩, ⟨[73, 64], [74], [], []⟩, ⟨[74], [8], [], []⟩] mixed (by kernel_rfl) ?_
    refine SeqA.cons (loc [4] [5] rfl rfl fun S hs hr => op_load rfl rfl ty56 (vt ((hs 4 rfl).trans rfl)) (i := 5) ((hr 5 rfl).trans rfl)) ⟨rfl, rfl, rfl, rfl⟩ ?_
    refine SeqA.cons (loc [1] [] rfl rfl fun S hs hr => op_move (A := rd (ksl kAtom) a2) rfl rfl (vt ((hs 1 rfl).trans rfl))) ⟨rfl, rfl, rfl, rfl⟩ ?_
    refine SeqA.cons (loc [2] [] rfl rfl fun S hs hr => op_move (A := rd (ksl kAtom) b3) rfl rfl (vt ((hs 2 rfl).trans rfl))) ⟨rfl, rfl, rfl, rfl⟩ ?_
    refine SeqA.cons (loc [41, 42, 43] [] rfl rfl fun S hs hr => op_call (xs := [.tmp 41, .tmp 42, .tmp 43]) (c37 _ _ _ _ hx14) (Ent.mk Try.func37 rfl rfl) rfl rfl ⟨vt ((hs 41 rfl).trans rfl), vt ((hs 42 rfl).trans rfl), vt ((hs 43 rfl).trans rfl), trivial⟩) ⟨rfl, rfl, rfl, rfl⟩ ?_
    refine SeqA.cons (loc [9] [] rfl rfl fun S hs hr => op_move (A := rd (ksl (karr 24 kTern)) x13) rfl rfl (vt ((hs 9 rfl).trans rfl))) ⟨rfl, rfl, rfl, rfl⟩ ?_
    refine SeqA.cons (loc [44, 45] [] rfl rfl fun S hs hr => op_call (xs := [.tmp 44, .tmp 45]) (c36 _ _ _ hx15) (Ent.mk Try.func36 rfl rfl) rfl rfl ⟨vt ((hs 44 rfl).trans rfl), vt ((hs 45 rfl).trans rfl), trivial⟩) ⟨rfl, rfl, rfl, rfl⟩ ?_
    refine SeqA.cons (loc [46] [] rfl rfl fun S hs hr => op_move (A := rd kbool x15) rfl rfl (vt ((hs 46 rfl).trans rfl))) ⟨rfl, rfl, rfl, rfl⟩ ?_
    refine SeqA.cons (locg [4, 47] [5] rfl rfl rfl rfl rfl rfl rfl fun hq S hs hr => op_load rfl rfl ty56 (vt ((hs 4 rfl).trans rfl)) (i := 5) ((hr 5 rfl).trans rfl)) ⟨rfl, rfl, rfl, rfl⟩ ?_
    refine SeqA.cons (locg [1, 47] [] rfl rfl rfl rfl rfl rfl rfl fun hq S hs hr => op_move (A := rd (ksl kAtom) a2) rfl rfl (vt ((hs 1 rfl).trans rfl))) ⟨rfl, rfl, rfl, rfl⟩ ?_
    refine SeqA.cons (locg [2, 47] [] rfl rfl rfl rfl rfl rfl rfl fun hq S hs hr => op_move (A := rd (ksl kAtom) b3) rfl rfl (vt ((hs 2 rfl).trans rfl))) ⟨rfl, rfl, rfl, rfl⟩ ?_
    refine SeqA.cons (locg [48, 49, 50, 47] [] rfl rfl rfl rfl rfl rfl rfl fun hq S hs hr => op_call (xs := [.tmp 48, .tmp 49, .tmp 50]) (c38 _ _ _ _ (opt_t hx16 hq)) (Ent.mk Try.func38 rfl rfl) rfl rfl ⟨vgt ((hs 48 rfl).trans rfl) hq, vgt ((hs 49 rfl).trans rfl) hq, vgt ((hs 50 rfl).trans rfl) hq, trivial⟩) ⟨rfl, rfl, rfl, rfl⟩ ?_
    refine SeqA.cons (locg [9, 47] [] rfl rfl rfl rfl rfl rfl rfl fun hq S hs hr => op_move (A := rd (ksl (karr 24 kTern)) x13) rfl rfl (vt ((hs 9 rfl).trans rfl))) ⟨rfl, rfl, rfl, rfl⟩ ?_
    refine SeqA.cons (locg [51, 52, 47] [] rfl rfl rfl rfl rfl rfl rfl fun hq S hs hr => op_call (xs := [.tmp 51, .tmp 52]) (c36 _ _ _ (opt_t hx17 hq)) (Ent.mk Try.func36 rfl rfl) rfl rfl ⟨vgt ((hs 51 rfl).trans rfl) hq, vgt ((hs 52 rfl).trans rfl) hq, trivial⟩) ⟨rfl, rfl, rfl, rfl⟩ ?_
    refine SeqA.cons (loc [53, 47] [] rfl rfl fun S hs hr => op_all rfl rfl (vt ((hs 47 rfl).trans rfl)) (vt ((hs 53 rfl).trans rfl))) ⟨rfl, rfl, rfl, rfl⟩ ?_
    refine SeqA.cons (loc [54] [] rfl rfl fun S hs hr => op_move (A := rd kbool (x15 && x17)) rfl rfl (vt ((hs 54 rfl).trans rfl))) ⟨rfl, rfl, rfl, rfl⟩ ?_
    refine SeqA.cons (locg [1, 55] [] rfl rfl rfl rfl rfl rfl rfl fun hq S hs hr => op_move (A := rd (ksl kAtom) a2) rfl rfl (vt ((hs 1 rfl).trans rfl))) ⟨rfl, rfl, rfl, rfl⟩ ?_
    refine SeqA.cons (locg [2, 55] [] rfl rfl rfl rfl rfl rfl rfl fun hq S hs hr => op_move (A := rd (ksl kAtom) b3) rfl rfl (vt ((hs 2 rfl).trans rfl))) ⟨rfl, rfl, rfl, rfl⟩ ?_
    refine SeqA.cons (locg [56, 57, 55] [] rfl rfl rfl rfl rfl rfl rfl fun hq S hs hr => op_call (xs := [.tmp 56, .tmp 57]) (c39 _ _ _ (opt_t hx18 hq)) (Ent.mk Try.func39 rfl rfl) rfl rfl ⟨vgt ((hs 56 rfl).trans rfl) hq, vgt ((hs 57 rfl).trans rfl) hq, trivial⟩) ⟨rfl, rfl, rfl, rfl⟩ ?_
    refine SeqA.cons (locg [1, 55] [] rfl rfl rfl rfl rfl rfl rfl fun hq S hs hr => op_move (A := rd (ksl kAtom) a2) rfl rfl (vt ((hs 1 rfl).trans rfl))) ⟨rfl, rfl, rfl, rfl⟩ ?_
    refine SeqA.cons (locg [2, 55] [] rfl rfl rfl rfl rfl rfl rfl fun hq S hs hr => op_move (A := rd (ksl kAtom) b3) rfl rfl (vt ((hs 2 rfl).trans rfl))) ⟨rfl, rfl, rfl, rfl⟩ ?_
    refine SeqA.cons (locg [59, 60, 55] [] rfl rfl rfl rfl rfl rfl rfl fun hq S hs hr => op_call (xs := [.tmp 59, .tmp 60]) (c40 _ _ _ (opt_t hx19 hq)) (Ent.mk Try.func40 rfl rfl) rfl rfl ⟨vgt ((hs 59 rfl).trans rfl) hq, vgt ((hs 60 rfl).trans rfl) hq, trivial⟩) ⟨rfl, rfl, rfl, rfl⟩ ?_
    refine SeqA.cons (locg [58, 61, 55] [] rfl rfl rfl rfl rfl rfl rfl fun hq S hs hr => op_eqlb rfl rfl un4 (vgt ((hs 58 rfl).trans rfl) hq) (vgt ((hs 61 rfl).trans rfl) hq)) ⟨rfl, rfl, rfl, rfl⟩ ?_
    refine SeqA.cons (loc [62, 55] [] rfl rfl fun S hs hr => op_all rfl rfl (vt ((hs 55 rfl).trans rfl)) (vt ((hs 62 rfl).trans rfl))) ⟨rfl, rfl, rfl, rfl⟩ ?_
    refine SeqA.cons (loc [63] [] rfl rfl fun S hs hr => op_move (A := rd kbool ((x15 && x17) && (x18 == x19))) rfl rfl (vt ((hs 63 rfl).trans rfl))) ⟨rfl, rfl, rfl, rfl⟩ ?_
    refine SeqA.cons (locg [1, 64] [] rfl rfl rfl rfl rfl rfl rfl fun hq S hs hr => op_move (A := rd (ksl kAtom) a2) rfl rfl (vt ((hs 1 rfl).trans rfl))) ⟨rfl, rfl, rfl, rfl⟩ ?_
    refine SeqA.cons (locg [2, 64] [] rfl rfl rfl rfl rfl rfl rfl fun hq S hs hr => op_move (A := rd (ksl kAtom) b3) rfl rfl (vt ((hs 2 rfl).trans rfl))) ⟨rfl, rfl, rfl, rfl⟩ ?_
    refine SeqA.cons (locg [7, 64] [8] rfl rfl rfl rfl rfl rfl rfl fun hq S hs hr => op_load rfl rfl ty59 (vt ((hs 7 rfl).trans rfl)) (i := 8) ((hr 8 rfl).trans rfl)) ⟨rfl, rfl, rfl, rfl⟩ ?_
    refine SeqA.cons (locg [65, 66, 67, 64] [] rfl rfl rfl rfl rfl rfl rfl fun hq S hs hr => op_call (xs := [.tmp 65, .tmp 66, .tmp 67]) (c41 _ _ _ _ (opt_t hx20 hq)) (Ent.mk Try.func41 rfl rfl) rfl rfl ⟨vgt ((hs 65 rfl).trans rfl) hq, vgt ((hs 66 rfl).trans rfl) hq, vgt ((hs 67 rfl).trans rfl) hq, trivial⟩) ⟨rfl, rfl, rfl, rfl⟩ ?_
    refine SeqA.cons (locg [1, 64] [] rfl rfl rfl rfl rfl rfl rfl fun hq S hs hr => op_move (A := rd (ksl kAtom) a2) rfl rfl (vt ((hs 1 rfl).trans rfl))) ⟨rfl, rfl, rfl, rfl⟩ ?_
    refine SeqA.cons (locg [2, 64] [] rfl rfl rfl rfl rfl rfl rfl fun hq S hs hr => op_move (A := rd (ksl kAtom) b3) rfl rfl (vt ((hs 2 rfl).trans rfl))) ⟨rfl, rfl, rfl, rfl⟩ ?_
    refine SeqA.cons (locg [7, 64] [8] rfl rfl rfl rfl rfl rfl rfl fun hq S hs hr => op_load rfl rfl ty59 (vt ((hs 7 rfl).trans rfl)) (i := 8) ((hr 8 rfl).trans rfl)) ⟨rfl, rfl, rfl, rfl⟩ ?_
    refine SeqA.cons (locg [69, 70, 71, 64] [] rfl rfl rfl rfl rfl rfl rfl fun hq S hs hr => op_call (xs := [.tmp 69, .tmp 70, .tmp 71]) (c42 _ _ _ _ (opt_t hx21 hq)) (Ent.mk Try.func42 rfl rfl) rfl rfl ⟨vgt ((hs 69 rfl).trans rfl) hq, vgt ((hs 70 rfl).trans rfl) hq, vgt ((hs 71 rfl).trans rfl) hq, trivial⟩) ⟨rfl, rfl, rfl, rfl⟩ ?_
    refine SeqA.cons (locg [68, 72, 64] [] rfl rfl rfl rfl rfl rfl rfl fun hq S hs hr => op_eqlb rfl rfl un4 (vgt ((hs 68 rfl).trans rfl) hq) (vgt ((hs 72 rfl).trans rfl) hq)) ⟨rfl, rfl, rfl, rfl⟩ ?_
    refine SeqA.cons (loc [73, 64] [] rfl rfl fun S hs hr => op_all rfl rfl (vt ((hs 64 rfl).trans rfl)) (vt ((hs 73 rfl).trans rfl))) ⟨rfl, rfl, rfl, rfl⟩ ?_
    refine SeqA.cons (loc [74] [] rfl rfl fun S hs hr => op_assign (A := rd kbool (((x15 && x17) && (x18 == x19)) && (x20 == x21))) rfl rfl (vt ((hs 74 rfl).trans rfl))) ⟨rfl, rfl, rfl, rfl⟩ ?_
    refine AW.ret ?_
    obtain rfl := Option.some.inj h
    exact ret1 Try.results5 rfl (out_tmp rfl)
-- weirbox/tern.unlike
def F137 (a1 : Wide) (b2 : Wide) (mask3 : Wide) : Option Wide :=
  (F121 a1 b2).bind fun x8 => (F124 x8 mask3).bind fun x9 => some x9
theorem c137 (a1 : Wide) (b2 : Wide) (mask3 : Wide) (r : Wide) (h : F137 a1 b2 mask3 = some r) : PCon Try.prog 137 [rd kWide a1, rd kWide b2, rd kWide mask3] (rd kWide r) := by
  refine PCon.of (Con.intro0 Try.func137 rfl Try.ntmps137 rfl fun w H => ?_)
  unfold F137 at h
  refine AW.seq ?_
  refine AW.region ?_
  refine AOps.consT rfl (op_box 4 rfl rfl (vt rfl)) ?_
  rintro _ ⟨g4, rfl⟩
  refine AOps.consT rfl (op_box 5 rfl rfl (vt rfl)) ?_
  rintro _ ⟨g5, rfl⟩
  refine AOps.consT rfl (op_box 6 rfl rfl (vt rfl)) ?_
  rintro _ ⟨g6, rfl⟩
  refine AOps.consT rfl (op_alloc 7 rfl rfl zr52) ?_
  rintro _ ⟨g7, rfl⟩
  refine AOps.nil ?_
  refine AW.seq ?_
  obtain ⟨x8, hx8, h⟩ := bsome h
  obtain ⟨x9, hx9, h⟩ := bsome h
  refine AW.regionAny [⟨[3], [7], [4], []⟩, ⟨[4], [8], [5], []⟩, ⟨[7, 8], [9], [], []⟩, ⟨[5], [10], [6], []⟩, ⟨[9, 10], [11], [], []⟩, ⟨[6, 11], [], [7], [7]⟩] mixed (by kernel_rfl) ?_
  refine SeqA.cons (loc [3] [4] rfl rfl fun S hs hr => op_load rfl rfl ty52 (vt ((hs 3 rfl).trans rfl)) (i := 4) ((hr 4 rfl).trans rfl)) ⟨rfl, rfl, rfl, rfl⟩ ?_
  refine SeqA.cons (loc [4] [5] rfl rfl fun S hs hr => op_load rfl rfl ty52 (vt ((hs 4 rfl).trans rfl)) (i := 5) ((hr 5 rfl).trans rfl)) ⟨rfl, rfl, rfl, rfl⟩ ?_
  refine SeqA.cons (loc [7, 8] [] rfl rfl fun S hs hr => op_call (xs := [.tmp 7, .tmp 8]) (c121 _ _ _ hx8) (Ent.mk Try.func121 rfl rfl) rfl rfl ⟨vt ((hs 7 rfl).trans rfl), vt ((hs 8 rfl).trans rfl), trivial⟩) ⟨rfl, rfl, rfl, rfl⟩ ?_
  refine SeqA.cons (loc [5] [6] rfl rfl fun S hs hr => op_load rfl rfl ty52 (vt ((hs 5 rfl).trans rfl)) (i := 6) ((hr 6 rfl).trans rfl)) ⟨rfl, rfl, rfl, rfl⟩ ?_
  refine SeqA.cons (loc [9, 10] [] rfl rfl fun S hs hr => op_call (xs := [.tmp 9, .tmp 10]) (c124 _ _ _ hx9) (Ent.mk Try.func124 rfl rfl) rfl rfl ⟨vt ((hs 9 rfl).trans rfl), vt ((hs 10 rfl).trans rfl), trivial⟩) ⟨rfl, rfl, rfl, rfl⟩ ?_
  refine SeqA.cons (locr [6, 11] [7] rfl fun S hs hr => op_store rfl rfl ty52 (vt ((hs 6 rfl).trans rfl)) (i := 7) ((hr 7 rfl).trans rfl) (vt ((hs 11 rfl).trans rfl))) ⟨rfl, rfl, rfl, rfl⟩ ?_
  refine AW.ret ?_
  obtain rfl := Option.some.inj h
  exact ret1 Try.results137 rfl (out_cell rfl (i := 7) rfl ty52)
-- weirbox/tern.Has
def F94 (t1 : Tern) (v2 : Wide) : Option Bool :=
  (F137 t1.Value v2 t1.Mask).bind fun x5 => (F122 x5).bind fun x6 => some x6
theorem c94 (t1 : Tern) (v2 : Wide) (r : Bool) (h : F94 t1 v2 = some r) : PCon Try.prog 94 [rd kTern t1, rd kWide v2] (rd kbool r) := by
  refine PCon.of (Con.intro0 Try.func94 rfl Try.ntmps94 rfl fun w H => ?_)
  unfold F94 at h
  refine AW.seq ?_
  refine AW.region ?_
  refine AOps.consT rfl (op_box 3 rfl rfl (vt rfl)) ?_
  rintro _ ⟨g3, rfl⟩
  refine AOps.consT rfl (op_box 4 rfl rfl (vt rfl)) ?_
  rintro _ ⟨g4, rfl⟩
  refine AOps.cons (op_assign (A := rd kbool false) rfl rfl vb) rfl ?_
  refine AOps.nil ?_
  refine AW.seq ?_
  obtain ⟨x5, hx5, h⟩ := bsome h
  obtain ⟨x6, hx6, h⟩ := bsome h
  refine AW.region ?_
  refine AOps.cons (op_field lTern_0 rfl rfl fl54_0 (vt rfl)) rfl ?_
  refine AOps.cons (op_load rfl rfl ty52 (vt rfl) (i := 3) rfl) rfl ?_
  refine AOps.cons (op_load rfl rfl ty52 (vt rfl) (i := 4) rfl) rfl ?_
  refine AOps.cons (op_field lTern_1 rfl rfl fl54_1 (vt rfl)) rfl ?_
  refine AOps.cons (op_load rfl rfl ty52 (vt rfl) (i := 3) rfl) rfl ?_
  refine AOps.cons (op_call (xs := [.tmp 6, .tmp 7, .tmp 9]) (c137 _ _ _ _ hx5) (Ent.mk Try.func137 rfl rfl) rfl rfl ⟨vt rfl, vt rfl, vt rfl, trivial⟩) rfl ?_
  refine AOps.cons (op_call (xs := [.tmp 10]) (c122 _ _ hx6) (Ent.mk Try.func122 rfl rfl) rfl rfl ⟨vt rfl, trivial⟩) rfl ?_
  refine AOps.cons (op_assign (A := rd kbool x6) rfl rfl (vt rfl)) rfl ?_
  refine AOps.nil ?_
  refine AW.ret ?_
  obtain rfl := Option.some.inj h
  exact ret1 Try.results94 rfl (out_tmp rfl)
-- weirbox/cube.Has
def F45_l1 (h2 : (Vector Wide 24)) : (List Tern) → Nat → Option Bool
  | [], i5 => some true
  | x7 :: l6, i5 => (chk 24 (i5 : Int)).bind fun j9 => (F94 x7 (Vector.get h2 j9)).bind fun x10 => (bif (!x10) then some false else (F45_l1 h2 l6) (i5 + 1))
def F45 (c1 : (Vector Tern 24)) (h2 : (Vector Wide 24)) : Option Bool :=
  F45_l1 h2 (Vector.toList c1) 0
theorem c45 (c1 : (Vector Tern 24)) (h2 : (Vector Wide 24)) (r : Bool) (h : F45 c1 h2 = some r) : PCon Try.prog 45 [rd (karr 24 kTern) c1, rd (karr 24 kWide) h2] (rd kbool r) := by
  refine PCon.of (Con.intro0 Try.func45 rfl Try.ntmps45 rfl fun w H => ?_)
  unfold F45 at h
  refine AW.seq ?_
  refine AW.region ?_
  refine AOps.consT rfl (op_box 3 rfl rfl (vt rfl)) ?_
  rintro _ ⟨g3, rfl⟩
  refine AOps.consT rfl (op_box 4 rfl rfl (vt rfl)) ?_
  rintro _ ⟨g4, rfl⟩
  refine AOps.cons (op_assign (A := rd kbool false) rfl rfl vb) rfl ?_
  refine AOps.nil ?_
  refine AW.seq ?_
  refine AW.seq ?_
  refine AW.region ?_
  refine AOps.cons (op_load rfl rfl ty56 (vt rfl) (i := 3) rfl) rfl ?_
  refine AOps.cons (op_move (A := rd (kint .i64) 0) rfl rfl (vk rfl)) rfl ?_
  refine AOps.nil ?_
  refine AW.block ?_
  refine AW.loopG (d := []) (ν := (List Tern) × Nat) (fun n => Sfx (Vector.toList c1) n.2 n.1 ∧ F45_l1 h2 n.1 n.2 = some r) (fun n => n.1.length) (fun n => [(3, ptrL g4 (Lens.id (karr 24 kWide))), (7, rd (karr 24 kTern) c1), (8, rd (kint .i64) (n.2 : Int))]) (fun n => [(4, Blk g4 59 (karr 24 kWide) h2)]) ((Vector.toList c1), 0) ⟨Sfx.start _, h⟩ ⟨rfl, ⟨rfl, rfl, rfl, trivial⟩, ⟨rfl, trivial⟩⟩ ?_
  rintro ⟨l6, i5⟩ ⟨hsf1, h⟩
  change Sfx (Vector.toList c1) i5 l6 at hsf1
  change F45_l1 h2 l6 i5 = some r at h
  change AW _ _ _ ⟨slots [(3, ptrL g4 (Lens.id (karr 24 kWide))), (7, rd (karr 24 kTern) c1), (8, rd (kint .i64) (i5 : Int))], ress [(4, Blk g4 59 (karr 24 kWide) h2)], _⟩
  cases l6 with
  | nil =>
    unfold F45_l1 at h
    refine AW.seq ?_
    refine AW.region ?_
    refine AOps.cons (op_lss rfl rfl (vt rfl) (vk rfl)) rfl ?_
    refine AOps.nil ?_
    refine AW.seq ?_
    refine AW.cond (vt rfl) (fun hc => absurd (of_decide_eq_true hc) (hsf1.niln (by simp))) (fun hc => ?_)
    refine AW.exit ?_
    refine AW.seq ?_
    refine AW.region ?_
    refine AOps.cons (op_assign (A := rd kbool true) rfl rfl vb) rfl ?_
    refine AOps.nil ?_
    refine AW.ret ?_
    obtain rfl := Option.some.inj h
    exact ret1 Try.results45 rfl (out_tmp rfl)
  | cons x7 l6 =>
    unfold F45_l1 at h
    generalize hgo1 : F45_l1 h2 l6 = go1 at h
    refine AW.seq ?_
    refine AW.region ?_
    refine AOps.cons (op_lss rfl rfl (vt rfl) (vk rfl)) rfl ?_
    refine AOps.nil ?_
    refine AW.seq ?_
    refine AW.cond (vt rfl) (fun hc => ?_) (fun hc => absurd (hsf1.consn (by simp)) (of_decide_eq_false hc))
    have hlti5 := of_decide_eq_true hc
    refine AW.skip ?_
    refine AW.seq ?_
    refine AW.block ?_
    refine AW.seq ?_
    refine AW.region ?_
    refine AOps.cons (op_move (A := rd (kint .i64) (i5 : Int)) rfl rfl (vt rfl)) rfl ?_
    refine AOps.cons (op_indexv rfl rfl ar56 ty54 (vt rfl) (vt rfl) hsf1.lget) rfl ?_
    refine AOps.consT rfl (op_alloc 7 rfl rfl zr54) ?_
    rintro _ ⟨g8, rfl⟩
    refine AOps.cons (op_assign (A := rd (kint .i64) (i5 : Int)) rfl rfl (vt rfl)) rfl ?_
    refine AOps.cons (op_store rfl rfl ty54 (vt rfl) (i := 7) rfl (vt rfl)) rfl ?_
    refine AOps.nil ?_
    refine AW.seq ?_
    obtain ⟨j9, hj9, h⟩ := bsome h
    obtain ⟨x10, hx10, h⟩ := bsome h
    refine AW.regionAny [⟨[6], [12], [7], []⟩, ⟨[5], [13], [], []⟩, ⟨[3, 13], [14], [], []⟩, ⟨[14], [15], [4], []⟩, ⟨[12, 15], [16], [], []⟩, ⟨[16], [17], [], []⟩] mixed (by kernel_rfl) ?_
    refine SeqA.cons (loc [6] [7] rfl rfl fun S hs hr => op_load rfl rfl ty54 (vt ((hs 6 rfl).trans rfl)) (i := 7) ((hr 7 rfl).trans rfl)) ⟨rfl, rfl, rfl, rfl⟩ ?_
    refine SeqA.cons (loc [5] [] rfl rfl fun S hs hr => op_move (A := rd (kint .i64) (i5 : Int)) rfl rfl (vt ((hs 5 rfl).trans rfl))) ⟨rfl, rfl, rfl, rfl⟩ ?_
    refine SeqA.cons (loc [3, 13] [] rfl rfl fun S hs hr => op_index' rfl rfl ar59 (vt ((hs 3 rfl).trans rfl)) (vt ((hs 13 rfl).trans rfl)) hj9) ⟨rfl, rfl, rfl, rfl⟩ ?_
    refine SeqA.cons (loc [14] [4] rfl rfl fun S hs hr => op_load rfl rfl ty52 (vt ((hs 14 rfl).trans rfl)) (i := 4) ((hr 4 rfl).trans rfl)) ⟨rfl, rfl, rfl, rfl⟩ ?_
    refine SeqA.cons (loc [12, 15] [] rfl rfl fun S hs hr => op_call (xs := [.tmp 12, .tmp 15]) (c94 _ _ _ hx10) (Ent.mk Try.func94 rfl rfl) rfl rfl ⟨vt ((hs 12 rfl).trans rfl), vt ((hs 15 rfl).trans rfl), trivial⟩) ⟨rfl, rfl, rfl, rfl⟩ ?_
    refine SeqA.cons (loc [16] [] rfl rfl fun S hs hr => op_not rfl rfl (vt ((hs 16 rfl).trans rfl))) ⟨rfl, rfl, rfl, rfl⟩ ?_
    refine AW.cond (vt rfl) (fun hc => ?_) (fun hc => ?_)
    · have h := cond_t hc h
      refine AW.seq ?_
      refine AW.region ?_
      refine AOps.cons (op_assign (A := rd kbool false) rfl rfl vb) rfl ?_
      refine AOps.nil ?_
      refine AW.ret ?_
      obtain rfl := Option.some.inj h
      exact ret1 Try.results45 rfl (out_tmp rfl)
    · have h := cond_f hc h
      refine AW.skip ?_
      refine AW.region ?_
      refine AOps.cons (op_incrc rfl rfl (vt rfl) (vk rfl) rfl hlti5) rfl ?_
      refine AOps.cons (op_move (A := rd (kint .i64) ((i5 + 1 : Nat) : Int)) rfl rfl (vt rfl)) rfl ?_
      refine AOps.nil ?_
      subst hgo1
      exact ⟨(l6, i5 + 1), Nat.lt_succ_self _, ⟨hsf1.next, h⟩, ⟨rfl, ⟨rfl, rfl, rfl, trivial⟩, ⟨rfl, trivial⟩⟩⟩
-- weirbox/weirboxlaw39.DifferParts$1
def F44 (x1 : (Vector Tern 24)) (c2 : (Vector Wide 24)) : Option Bool :=
  (F45 x1 c2).bind fun x4 => some x4
theorem c44 (x1 : (Vector Tern 24)) (c2 : (Vector Wide 24)) (r : Bool) (h : F44 x1 c2 = some r) : PCon Try.prog 44 [rd (karr 24 kTern) x1, rp (karr 24 kWide) c2] (rd kbool r) := by
  refine PCon.of (Con.intro0 Try.func44 rfl Try.ntmps44 rfl fun w H => ?_)
  unfold F44 at h
  refine AW.seq ?_
  refine AW.region ?_
  refine AOps.consT rfl (op_box 3 rfl rfl (vt rfl)) ?_
  rintro _ ⟨g3, rfl⟩
  refine AOps.cons (op_assign (A := rd kbool false) rfl rfl vb) rfl ?_
  refine AOps.nil ?_
  refine AW.seq ?_
  obtain ⟨x4, hx4, h⟩ := bsome h
  refine AW.region ?_
  refine AOps.cons (op_load rfl rfl ty56 (vt rfl) (i := 3) rfl) rfl ?_
  refine AOps.cons (op_loadp rfl rfl ty59 (vt rfl)) rfl ?_
  refine AOps.cons (op_call (xs := [.tmp 4, .tmp 5]) (c45 _ _ _ hx4) (Ent.mk Try.func45 rfl rfl) rfl rfl ⟨vt rfl, vt rfl, trivial⟩) rfl ?_
  refine AOps.cons (op_assign (A := rd kbool x4) rfl rfl (vt rfl)) rfl ?_
  refine AOps.nil ?_
  refine AW.ret ?_
  obtain rfl := Option.some.inj h
  exact ret1 Try.results44 rfl (out_tmp rfl)
end Go.Proofs.Ytokmmcflinnfiaa.W
