/- GbF0: a part of the proof. -/
import Derived.Test.YtokmmcflinnfiabGbT
set_option linter.unusedVariables false
set_option maxRecDepth 4000
set_option linter.unusedSimpArgs false
namespace Go.Proofs.Ytokmmcflinnfiab.W
open Go Go.Wb
-- weirbox/rewrite.None
def F17 : Option (Vector Tern 24) :=
  some (Vector.replicate 24 zTern)
theorem c17 (r : (Vector Tern 24)) (h : F17 = some r) : PCon Try.prog 17 [] (rd (karr 24 kTern) r) := by
  refine PCon.of (Con.intro0 Try.func17 rfl Try.ntmps17 rfl fun w H => ?_)
  unfold F17 at h
  refine AW.seq ?_
  refine AW.region ?_
  refine AOps.consT rfl (op_alloc 1 rfl rfl zr29) ?_
  rintro _ ⟨g1, rfl⟩
  refine AOps.nil ?_
  refine AW.seq ?_
  refine AW.region ?_
  refine AOps.cons (op_build (ps := []) (x := (Vector.replicate 24 zTern)) rfl rfl rfl (by kernel_rfl) zr29 rfl) rfl ?_
  refine AOps.cons (op_store rfl rfl ty29 (vt rfl) (i := 1) rfl (vt rfl)) rfl ?_
  refine AOps.nil ?_
  refine AW.ret ?_
  obtain rfl := Option.some.inj h
  exact ret1 Try.results17 rfl (out_cell rfl (i := 1) rfl ty29)
-- weirbox/wide.And
def F32 (a1 : Wide) (b2 : Wide) : Option Wide :=
  some (⟨(a1.Hi &&& b2.Hi), (a1.Lo &&& b2.Lo)⟩ : Wide)
theorem c32 (a1 : Wide) (b2 : Wide) (r : Wide) (h : F32 a1 b2 = some r) : PCon Try.prog 32 [rd kWide a1, rd kWide b2] (rd kWide r) := by
  refine PCon.of (Con.intro0 Try.func32 rfl Try.ntmps32 rfl fun w H => ?_)
  unfold F32 at h
  refine AW.seq ?_
  refine AW.region ?_
  refine AOps.consT rfl (op_box 3 rfl rfl (vt rfl)) ?_
  rintro _ ⟨g3, rfl⟩
  refine AOps.consT rfl (op_box 4 rfl rfl (vt rfl)) ?_
  rintro _ ⟨g4, rfl⟩
  refine AOps.consT rfl (op_alloc 5 rfl rfl zr25) ?_
  rintro _ ⟨g5, rfl⟩
  refine AOps.nil ?_
  refine AW.seq ?_
  refine AW.region ?_
  refine AOps.cons (op_field lWide_0 rfl rfl fl25_0 (vt rfl)) rfl ?_
  refine AOps.cons (op_load rfl rfl ty23 (vt rfl) (i := 3) rfl) rfl ?_
  refine AOps.cons (op_field lWide_0 rfl rfl fl25_0 (vt rfl)) rfl ?_
  refine AOps.cons (op_load rfl rfl ty23 (vt rfl) (i := 4) rfl) rfl ?_
  refine AOps.cons (op_and rfl rfl (vt rfl) (vt rfl)) rfl ?_
  refine AOps.cons (op_field lWide_1 rfl rfl fl25_1 (vt rfl)) rfl ?_
  refine AOps.cons (op_load rfl rfl ty23 (vt rfl) (i := 3) rfl) rfl ?_
  refine AOps.cons (op_field lWide_1 rfl rfl fl25_1 (vt rfl)) rfl ?_
  refine AOps.cons (op_load rfl rfl ty23 (vt rfl) (i := 4) rfl) rfl ?_
  refine AOps.cons (op_and rfl rfl (vt rfl) (vt rfl)) rfl ?_
  refine AOps.cons (op_build (ps := [(0, .tmp 9), (1, .tmp 14)]) (x := (⟨(a1.Hi &&& b2.Hi), (a1.Lo &&& b2.Lo)⟩ : Wide)) rfl rfl rfl (by kernel_rfl) zr25 ⟨_, _, lWide_0, _, by kernel_rfl, (vt rfl), _, _, lWide_1, _, by kernel_rfl, (vt rfl), rfl⟩) rfl ?_
  refine AOps.cons (op_store rfl rfl ty25 (vt rfl) (i := 5) rfl (vt rfl)) rfl ?_
  refine AOps.nil ?_
  refine AW.ret ?_
  obtain rfl := Option.some.inj h
  exact ret1 Try.results32 rfl (out_cell rfl (i := 5) rfl ty25)
-- weirbox/tern.Clean
def F39 (t1 : Tern) : Option Tern :=
  (F32 t1.Value t1.Mask).bind fun x4 => some (⟨x4, t1.Mask⟩ : Tern)
theorem c39 (t1 : Tern) (r : Tern) (h : F39 t1 = some r) : PCon Try.prog 39 [rd kTern t1] (rd kTern r) := by
  refine PCon.of (Con.intro0 Try.func39 rfl Try.ntmps39 rfl fun w H => ?_)
  unfold F39 at h
  refine AW.seq ?_
  refine AW.region ?_
  refine AOps.consT rfl (op_box 2 rfl rfl (vt rfl)) ?_
  rintro _ ⟨g2, rfl⟩
  refine AOps.consT rfl (op_alloc 3 rfl rfl zr27) ?_
  rintro _ ⟨g3, rfl⟩
  refine AOps.nil ?_
  refine AW.seq ?_
  obtain ⟨x4, hx4, h⟩ := bsome h
  refine AW.regionAny [⟨[1], [3], [], []⟩, ⟨[3], [4], [2], []⟩, ⟨[1], [5], [], []⟩, ⟨[5], [6], [2], []⟩, ⟨[4, 6], [7], [], []⟩, ⟨[1], [8], [], []⟩, ⟨[8], [9], [2], []⟩, ⟨[7, 9], [10], [], []⟩, ⟨[2, 10], [], [3], [3]⟩] mixed (by kernel_rfl) ?_
  refine SeqA.cons (loc [1] [] rfl rfl fun S hs hr => op_field lTern_0 rfl rfl fl27_0 (vt ((hs 1 rfl).trans rfl))) ⟨rfl, rfl, rfl, rfl⟩ ?_
  refine SeqA.cons (loc [3] [2] rfl rfl fun S hs hr => op_load rfl rfl ty25 (vt ((hs 3 rfl).trans rfl)) (i := 2) ((hr 2 rfl).trans rfl)) ⟨rfl, rfl, rfl, rfl⟩ ?_
  refine SeqA.cons (loc [1] [] rfl rfl fun S hs hr => op_field lTern_1 rfl rfl fl27_1 (vt ((hs 1 rfl).trans rfl))) ⟨rfl, rfl, rfl, rfl⟩ ?_
  refine SeqA.cons (loc [5] [2] rfl rfl fun S hs hr => op_load rfl rfl ty25 (vt ((hs 5 rfl).trans rfl)) (i := 2) ((hr 2 rfl).trans rfl)) ⟨rfl, rfl, rfl, rfl⟩ ?_
  refine SeqA.cons (loc [4, 6] [] rfl rfl fun S hs hr => op_call (xs := [.tmp 4, .tmp 6]) (c32 _ _ _ hx4) (Ent.mk Try.func32 rfl rfl) rfl rfl ⟨vt ((hs 4 rfl).trans rfl), vt ((hs 6 rfl).trans rfl), trivial⟩) ⟨rfl, rfl, rfl, rfl⟩ ?_
  refine SeqA.cons (loc [1] [] rfl rfl fun S hs hr => op_field lTern_1 rfl rfl fl27_1 (vt ((hs 1 rfl).trans rfl))) ⟨rfl, rfl, rfl, rfl⟩ ?_
  refine SeqA.cons (loc [8] [2] rfl rfl fun S hs hr => op_load rfl rfl ty25 (vt ((hs 8 rfl).trans rfl)) (i := 2) ((hr 2 rfl).trans rfl)) ⟨rfl, rfl, rfl, rfl⟩ ?_
  refine SeqA.cons (loc [7, 9] [] rfl rfl fun S hs hr => op_build (ps := [(0, .tmp 7), (1, .tmp 9)]) (x := (⟨x4, t1.Mask⟩ : Tern)) rfl rfl rfl (by kernel_rfl) zr27 ⟨_, _, lTern_0, _, by kernel_rfl, (vt ((hs 7 rfl).trans rfl)), _, _, lTern_1, _, by kernel_rfl, (vt ((hs 9 rfl).trans rfl)), rfl⟩) ⟨rfl, rfl, rfl, rfl⟩ ?_
  refine SeqA.cons (locr [2, 10] [3] rfl fun S hs hr => op_store rfl rfl ty27 (vt ((hs 2 rfl).trans rfl)) (i := 3) ((hr 3 rfl).trans rfl) (vt ((hs 10 rfl).trans rfl))) ⟨rfl, rfl, rfl, rfl⟩ ?_
  refine AW.ret ?_
  obtain rfl := Option.some.inj h
  exact ret1 Try.results39 rfl (out_cell rfl (i := 3) rfl ty27)
-- weirbox/rewrite.Clean$1
def F38 (i1 : Int) (c2 : (Vector Tern 24)) : Option Tern :=
  (chk 24 i1).bind fun j4 => (F39 (Vector.get c2 j4)).bind fun x5 => some x5
theorem c38 (i1 : Int) (c2 : (Vector Tern 24)) (r : Tern) (h : F38 i1 c2 = some r) : PCon Try.prog 38 [rd (kint .i64) i1, rp (karr 24 kTern) c2] (rd kTern r) := by
  refine PCon.of (Con.intro0 Try.func38 rfl Try.ntmps38 rfl fun w H => ?_)
  unfold F38 at h
  refine AW.seq ?_
  refine AW.region ?_
  refine AOps.consT rfl (op_alloc 4 rfl rfl zr27) ?_
  rintro _ ⟨g3, rfl⟩
  refine AOps.nil ?_
  refine AW.seq ?_
  obtain ⟨j4, hj4, h⟩ := bsome h
  obtain ⟨x5, hx5, h⟩ := bsome h
  refine AW.region ?_
  refine AOps.cons (op_move (A := rd (kint .i64) i1) rfl rfl (vt rfl)) rfl ?_
  refine AOps.cons (op_indexp' rfl rfl ar29 (vt rfl) (vt rfl) hj4) rfl ?_
  refine AOps.cons (op_loadp rfl rfl ty27 (vt rfl)) rfl ?_
  refine AOps.cons (op_call (xs := [.tmp 6]) (c39 _ _ hx5) (Ent.mk Try.func39 rfl rfl) rfl rfl ⟨vt rfl, trivial⟩) rfl ?_
  refine AOps.cons (op_store rfl rfl ty27 (vt rfl) (i := 4) rfl (vt rfl)) rfl ?_
  refine AOps.nil ?_
  refine AW.ret ?_
  obtain rfl := Option.some.inj h
  exact ret1 Try.results38 rfl (out_cell rfl (i := 4) rfl ty27)
-- weirbox/rewrite.each[weirbox/api.Rewrite]
def F37_l1 (f1 : (Int → Option Tern)) : Nat → Nat → (Vector Tern 24) → Option (Vector Tern 24)
  | 0, i6, b5 => some b5
  | m7 + 1, i6, b5 => (f1 (i6 : Int)).bind fun x8 => (chk 24 (i6 : Int)).bind fun j9 => (F37_l1 f1 m7) (i6 + 1) (Vector.set b5 j9.1 x8 j9.2)
def F37 (f1 : (Int → Option Tern)) : Option (Vector Tern 24) :=
  F37_l1 f1 (24 : Int).toNat 0 (Vector.replicate 24 zTern)
theorem c37 (f1 : (Int → Option Tern)) (r : (Vector Tern 24)) (h : F37 f1 = some r) : PCon Try.prog 37 [fn1 Try.prog (kint .i64) kTern f1] (rd (karr 24 kTern) r) := by
  refine PCon.of (Con.intro0 Try.func37 rfl Try.ntmps37 rfl fun w H => ?_)
  unfold F37 at h
  refine AW.seq ?_
  refine AW.region ?_
  refine AOps.consT rfl (op_alloc 3 rfl rfl zr29) ?_
  rintro _ ⟨g2, rfl⟩
  refine AOps.nil ?_
  refine AW.seq ?_
  refine AW.region ?_
  refine AOps.consT rfl (op_alloc 4 rfl rfl zr29) ?_
  rintro _ ⟨g3, rfl⟩
  refine AOps.nil ?_
  refine AW.seq ?_
  refine AW.seq ?_
  refine AW.region ?_
  refine AOps.cons (op_move (A := rd (kint .i64) 0) rfl rfl (vk rfl)) rfl ?_
  refine AOps.nil ?_
  refine AW.block ?_
  refine AW.loopG (d := []) (ν := Nat × Nat × (Vector Tern 24)) (fun n => Cnt 24 n.2.1 n.1 ∧ F37_l1 f1 n.1 n.2.1 n.2.2 = some r) (fun n => n.1) (fun n => [(0, fn1 Try.prog (kint .i64) kTern f1), (2, ptrL g2 (Lens.id (karr 24 kTern))), (3, ptrL g3 (Lens.id (karr 24 kTern))), (5, rd (kint .i64) (n.2.1 : Int))]) (fun n => [(3, Blk g2 29 (karr 24 kTern) (Vector.replicate 24 zTern)), (4, Blk g3 29 (karr 24 kTern) n.2.2)]) ((24 : Int).toNat, 0, (Vector.replicate 24 zTern)) ⟨Cnt.start _, h⟩ ⟨rfl, ⟨rfl, rfl, rfl, rfl, trivial⟩, ⟨rfl, rfl, trivial⟩⟩ ?_
  rintro ⟨m7, i6, b5⟩ ⟨hsf1, h⟩
  change Cnt 24 i6 m7 at hsf1
  change F37_l1 f1 m7 i6 b5 = some r at h
  change AW _ _ _ ⟨slots [(0, fn1 Try.prog (kint .i64) kTern f1), (2, ptrL g2 (Lens.id (karr 24 kTern))), (3, ptrL g3 (Lens.id (karr 24 kTern))), (5, rd (kint .i64) (i6 : Int))], ress [(3, Blk g2 29 (karr 24 kTern) (Vector.replicate 24 zTern)), (4, Blk g3 29 (karr 24 kTern) b5)], _⟩
  cases m7 with
  | zero =>
    unfold F37_l1 at h
    refine AW.seq ?_
    refine AW.region ?_
    refine AOps.cons (op_lss rfl rfl (vt rfl) (vk rfl)) rfl ?_
    refine AOps.nil ?_
    refine AW.seq ?_
    refine AW.cond (vt rfl) (fun hc => absurd (of_decide_eq_true hc) hsf1.zero) (fun hc => ?_)
    refine AW.exit ?_
    refine AW.seq ?_
    refine AW.region ?_
    refine AOps.cons (op_load rfl rfl ty29 (vt rfl) (i := 4) rfl) rfl ?_
    refine AOps.cons (op_store rfl rfl ty29 (vt rfl) (i := 3) rfl (vt rfl)) rfl ?_
    refine AOps.nil ?_
    refine AW.ret ?_
    obtain rfl := Option.some.inj h
    exact ret1 Try.results37 rfl (out_cell rfl (i := 3) rfl ty29)
  | succ m7 =>
    unfold F37_l1 at h
    generalize hgo1 : F37_l1 f1 m7 = go1 at h
    refine AW.seq ?_
    refine AW.region ?_
    refine AOps.cons (op_lss rfl rfl (vt rfl) (vk rfl)) rfl ?_
    refine AOps.nil ?_
    refine AW.seq ?_
    refine AW.cond (vt rfl) (fun hc => ?_) (fun hc => absurd hsf1.succ (of_decide_eq_false hc))
    have hlti6 := of_decide_eq_true hc
    refine AW.skip ?_
    refine AW.seq ?_
    refine AW.block ?_
    refine AW.seq ?_
    refine AW.region ?_
    refine AOps.cons (op_move (A := rd (kint .i64) (i6 : Int)) rfl rfl (vt rfl)) rfl ?_
    refine AOps.cons (op_assign (A := rd (kint .i64) (i6 : Int)) rfl rfl (vt rfl)) rfl ?_
    refine AOps.nil ?_
    obtain ⟨x8, hx8, h⟩ := bsome h
    obtain ⟨j9, hj9, h⟩ := bsome h
    refine AW.region ?_
    refine AOps.cons (op_move (A := rd (kint .i64) (i6 : Int)) rfl rfl (vt rfl)) rfl ?_
    refine AOps.cons (op_move (A := fn1 Try.prog (kint .i64) kTern f1) rfl rfl (vt rfl)) rfl ?_
    refine AOps.cons (op_move (A := rd (kint .i64) (i6 : Int)) rfl rfl (vt rfl)) rfl ?_
    refine AOps.cons (op_call1 hx8 rfl rfl (vt rfl) (vt rfl)) rfl ?_
    refine AOps.cons (op_index' rfl rfl ar29 (vt rfl) (vt rfl) hj9) rfl ?_
    refine AOps.cons (op_store rfl rfl ty27 (vt rfl) (i := 4) rfl (vt rfl)) rfl ?_
    refine AOps.nil ?_
    refine AW.region ?_
    refine AOps.cons (op_incrc rfl rfl (vt rfl) (vk rfl) rfl hlti6) rfl ?_
    refine AOps.cons (op_move (A := rd (kint .i64) ((i6 + 1 : Nat) : Int)) rfl rfl (vt rfl)) rfl ?_
    refine AOps.nil ?_
    subst hgo1
    exact ⟨(m7, i6 + 1, (Vector.set b5 j9.1 x8 j9.2)), Nat.lt_succ_self _, ⟨hsf1.next, h⟩, ⟨rfl, ⟨rfl, rfl, rfl, rfl, trivial⟩, ⟨rfl, rfl, trivial⟩⟩⟩
-- weirbox/rewrite.Clean
def F18 (r1 : (Vector Tern 24)) : Option (Vector Tern 24) :=
  (F37 (fun x => F38 x r1)).bind fun x4 => some x4
theorem c18 (r1 : (Vector Tern 24)) (r : (Vector Tern 24)) (h : F18 r1 = some r) : PCon Try.prog 18 [rd (karr 24 kTern) r1] (rd (karr 24 kTern) r) := by
  refine PCon.of (Con.intro0 Try.func18 rfl Try.ntmps18 rfl fun w H => ?_)
  unfold F18 at h
  refine AW.seq ?_
  refine AW.region ?_
  refine AOps.consT rfl (op_box 2 rfl rfl (vt rfl)) ?_
  rintro _ ⟨g2, rfl⟩
  refine AOps.consT rfl (op_alloc 3 rfl rfl zr29) ?_
  rintro _ ⟨g3, rfl⟩
  refine AOps.nil ?_
  refine AW.seq ?_
  refine AW.freezeB 1 2 rfl rfl rfl ?_
  obtain ⟨x4, hx4, h⟩ := bsome h
  refine AW.region ?_
  refine AOps.cons (op_fn1 (cs := [.tmp 1]) (CAs := [rp (karr 24 kTern) r1]) (fun x => F38 x r1) rfl rfl (Ent.mk Try.func38 rfl rfl) ⟨vt rfl, trivial⟩ (fun x y h => c38 _ _ y h)) rfl ?_
  refine AOps.cons (op_call (xs := [.tmp 3]) (c37 _ _ hx4) (Ent.mk Try.func37 rfl rfl) rfl rfl ⟨vt rfl, trivial⟩) rfl ?_
  refine AOps.cons (op_store rfl rfl ty29 (vt rfl) (i := 3) rfl (vt rfl)) rfl ?_
  refine AOps.nil ?_
  refine AW.ret ?_
  obtain rfl := Option.some.inj h
  exact ret1 Try.results18 rfl (out_cell rfl (i := 3) rfl ty29)
-- weirbox/field.Right
def F69 (f1 : Int) : Option Bool :=
  some ((decide (f1 ≥ 0)) && (decide (f1 < 24)))
theorem c69 (f1 : Int) (r : Bool) (h : F69 f1 = some r) : PCon Try.prog 69 [rd (kint .i64) f1] (rd kbool r) := by
  refine PCon.of (Con.intro0 Try.func69 rfl Try.ntmps69 rfl fun w H => ?_)
  unfold F69 at h
  refine AW.seq ?_
  refine AW.region ?_
  refine AOps.cons (op_assign (A := rd kbool false) rfl rfl vb) rfl ?_
  refine AOps.nil ?_
  refine AW.seq ?_
  refine AW.region ?_
  refine AOps.cons (op_move (A := rd (kint .i64) f1) rfl rfl (vt rfl)) rfl ?_
  refine AOps.cons (op_geq rfl rfl (vt rfl) (vk rfl)) rfl ?_
  refine AOps.cons (op_move (A := rd kbool (decide (f1 ≥ 0))) rfl rfl (vt rfl)) rfl ?_
  refine AOps.consG (OpG.guard rfl rfl rfl rfl rfl fun hq => op_move (A := rd (kint .i64) f1) rfl rfl (vt rfl)) ?_
  refine AOps.consG (OpG.guard rfl rfl rfl rfl rfl fun hq => op_lss rfl rfl (vgt rfl hq) (vk rfl)) ?_
  refine AOps.cons (op_all rfl rfl (vt rfl) (vt rfl)) rfl ?_
  refine AOps.cons (op_assign (A := rd kbool ((decide (f1 ≥ 0)) && (decide (f1 < 24)))) rfl rfl (vt rfl)) rfl ?_
  refine AOps.nil ?_
  refine AW.ret ?_
  obtain rfl := Option.some.inj h
  exact ret1 Try.results69 rfl (out_tmp rfl)
-- weirbox/field.rows
def F97 : Option (Vector field_row 24) :=
  some (Vector.set (Vector.set (Vector.set (Vector.set (Vector.set (Vector.set (Vector.set (Vector.set (Vector.set (Vector.set (Vector.set (Vector.set (Vector.set (Vector.set (Vector.set (Vector.set (Vector.set (Vector.set (Vector.set (Vector.set (Vector.set (Vector.set (Vector.set (Vector.set (Vector.replicate 24 zfield_row) 0 (⟨{ data := #[105, 110, 95, 112, 111, 114, 116] }, 0, 32, false⟩ : field_row) (by decide)) 1 (⟨{ data := #[109, 101, 116, 97, 100, 97, 116, 97] }, 2, 64, true⟩ : field_row) (by decide)) 2 (⟨{ data := #[101, 116, 104, 95, 100, 115, 116] }, 3, 48, true⟩ : field_row) (by decide)) 3 (⟨{ data := #[101, 116, 104, 95, 115, 114, 99] }, 4, 48, true⟩ : field_row) (by decide)) 4 (⟨{ data := #[101, 116, 104, 95, 116, 121, 112, 101] }, 5, 16, false⟩ : field_row) (by decide)) 5 (⟨{ data := #[118, 108, 97, 110, 95, 118, 105, 100] }, 6, 13, true⟩ : field_row) (by decide)) 6 (⟨{ data := #[118, 108, 97, 110, 95, 112, 99, 112] }, 7, 3, false⟩ : field_row) (by decide)) 7 (⟨{ data := #[105, 112, 95, 100, 115, 99, 112] }, 8, 6, false⟩ : field_row) (by decide)) 8 (⟨{ data := #[105, 112, 95, 101, 99, 110] }, 9, 2, false⟩ : field_row) (by decide)) 9 (⟨{ data := #[105, 112, 95, 112, 114, 111, 116, 111] }, 10, 8, false⟩ : field_row) (by decide)) 10 (⟨{ data := #[105, 112, 118, 52, 95, 115, 114, 99] }, 11, 32, true⟩ : field_row) (by decide)) 11 (⟨{ data := #[105, 112, 118, 52, 95, 100, 115, 116] }, 12, 32, true⟩ : field_row) (by decide)) 12 (⟨{ data := #[116, 99, 112, 95, 115, 114, 99] }, 13, 16, false⟩ : field_row) (by decide)) 13 (⟨{ data := #[116, 99, 112, 95, 100, 115, 116] }, 14, 16, false⟩ : field_row) (by decide)) 14 (⟨{ data := #[117, 100, 112, 95, 115, 114, 99] }, 15, 16, false⟩ : field_row) (by decide)) 15 (⟨{ data := #[117, 100, 112, 95, 100, 115, 116] }, 16, 16, false⟩ : field_row) (by decide)) 16 (⟨{ data := #[105, 99, 109, 112, 118, 52, 95, 116, 121, 112, 101] }, 19, 8, false⟩ : field_row) (by decide)) 17 (⟨{ data := #[105, 99, 109, 112, 118, 52, 95, 99, 111, 100, 101] }, 20, 8, false⟩ : field_row) (by decide)) 18 (⟨{ data := #[97, 114, 112, 95, 111, 112] }, 21, 16, false⟩ : field_row) (by decide)) 19 (⟨{ data := #[97, 114, 112, 95, 115, 112, 97] }, 22, 32, true⟩ : field_row) (by decide)) 20 (⟨{ data := #[97, 114, 112, 95, 116, 112, 97] }, 23, 32, true⟩ : field_row) (by decide)) 21 (⟨{ data := #[105, 112, 118, 54, 95, 115, 114, 99] }, 26, 128, true⟩ : field_row) (by decide)) 22 (⟨{ data := #[105, 112, 118, 54, 95, 100, 115, 116] }, 27, 128, true⟩ : field_row) (by decide)) 23 (⟨{ data := #[109, 112, 108, 115, 95, 108, 97, 98, 101, 108] }, 34, 20, false⟩ : field_row) (by decide))
theorem c97 (r : (Vector field_row 24)) (h : F97 = some r) : PCon Try.prog 97 [] (rd (karr 24 kfield_row) r) := by
  refine PCon.of (Con.intro0 Try.func97 rfl Try.ntmps97 rfl fun w H => ?_)
  unfold F97 at h
  refine AW.seq ?_
  refine AW.region ?_
  refine AOps.consT rfl (op_alloc 1 rfl rfl zr133) ?_
  rintro _ ⟨g1, rfl⟩
  refine AOps.nil ?_
  refine AW.seq ?_
  refine AW.region ?_
  refine AOps.cons (op_build (ps := [(0, .const (Value.string { data := #[105, 110, 95, 112, 111, 114, 116] })), (1, .const (Value.int IntKind.i64 0)), (2, .const (Value.int IntKind.i64 32)), (3, .const (Value.bool false))]) (x := (⟨{ data := #[105, 110, 95, 112, 111, 114, 116] }, 0, 32, false⟩ : field_row)) rfl rfl rfl (by kernel_rfl) zr127 ⟨_, _, lfield_row_0, _, by kernel_rfl, (vs (by decide)), _, _, lfield_row_1, _, by kernel_rfl, (vk rfl), _, _, lfield_row_2, _, by kernel_rfl, (vk rfl), _, _, lfield_row_3, _, by kernel_rfl, vb, rfl⟩) rfl ?_
  refine AOps.cons (op_build (ps := [(0, .const (Value.string { data := #[109, 101, 116, 97, 100, 97, 116, 97] })), (1, .const (Value.int IntKind.i64 2)), (2, .const (Value.int IntKind.i64 64)), (3, .const (Value.bool true))]) (x := (⟨{ data := #[109, 101, 116, 97, 100, 97, 116, 97] }, 2, 64, true⟩ : field_row)) rfl rfl rfl (by kernel_rfl) zr127 ⟨_, _, lfield_row_0, _, by kernel_rfl, (vs (by decide)), _, _, lfield_row_1, _, by kernel_rfl, (vk rfl), _, _, lfield_row_2, _, by kernel_rfl, (vk rfl), _, _, lfield_row_3, _, by kernel_rfl, vb, rfl⟩) rfl ?_
  refine AOps.cons (op_build (ps := [(0, .const (Value.string { data := #[101, 116, 104, 95, 100, 115, 116] })), (1, .const (Value.int IntKind.i64 3)), (2, .const (Value.int IntKind.i64 48)), (3, .const (Value.bool true))]) (x := (⟨{ data := #[101, 116, 104, 95, 100, 115, 116] }, 3, 48, true⟩ : field_row)) rfl rfl rfl (by kernel_rfl) zr127 ⟨_, _, lfield_row_0, _, by kernel_rfl, (vs (by decide)), _, _, lfield_row_1, _, by kernel_rfl, (vk rfl), _, _, lfield_row_2, _, by kernel_rfl, (vk rfl), _, _, lfield_row_3, _, by kernel_rfl, vb, rfl⟩) rfl ?_
  refine AOps.cons (op_build (ps := [(0, .const (Value.string { data := #[101, 116, 104, 95, 115, 114, 99] })), (1, .const (Value.int IntKind.i64 4)), (2, .const (Value.int IntKind.i64 48)), (3, .const (Value.bool true))]) (x := (⟨{ data := #[101, 116, 104, 95, 115, 114, 99] }, 4, 48, true⟩ : field_row)) rfl rfl rfl (by kernel_rfl) zr127 ⟨_, _, lfield_row_0, _, by kernel_rfl, (vs (by decide)), _, _, lfield_row_1, _, by kernel_rfl, (vk rfl), _, _, lfield_row_2, _, by kernel_rfl, (vk rfl), _, _, lfield_row_3, _, by kernel_rfl, vb, rfl⟩) rfl ?_
  refine AOps.cons (op_build (ps := [(0, .const (Value.string { data := #[101, 116, 104, 95, 116, 121, 112, 101] })), (1, .const (Value.int IntKind.i64 5)), (2, .const (Value.int IntKind.i64 16)), (3, .const (Value.bool false))]) (x := (⟨{ data := #[101, 116, 104, 95, 116, 121, 112, 101] }, 5, 16, false⟩ : field_row)) rfl rfl rfl (by kernel_rfl) zr127 ⟨_, _, lfield_row_0, _, by kernel_rfl, (vs (by decide)), _, _, lfield_row_1, _, by kernel_rfl, (vk rfl), _, _, lfield_row_2, _, by kernel_rfl, (vk rfl), _, _, lfield_row_3, _, by kernel_rfl, vb, rfl⟩) rfl ?_
  refine AOps.cons (op_build (ps := [(0, .const (Value.string { data := #[118, 108, 97, 110, 95, 118, 105, 100] })), (1, .const (Value.int IntKind.i64 6)), (2, .const (Value.int IntKind.i64 13)), (3, .const (Value.bool true))]) (x := (⟨{ data := #[118, 108, 97, 110, 95, 118, 105, 100] }, 6, 13, true⟩ : field_row)) rfl rfl rfl (by kernel_rfl) zr127 ⟨_, _, lfield_row_0, _, by kernel_rfl, (vs (by decide)), _, _, lfield_row_1, _, by kernel_rfl, (vk rfl), _, _, lfield_row_2, _, by kernel_rfl, (vk rfl), _, _, lfield_row_3, _, by kernel_rfl, vb, rfl⟩) rfl ?_
  refine AOps.cons (op_build (ps := [(0, .const (Value.string { data := #[118, 108, 97, 110, 95, 112, 99, 112] })), (1, .const (Value.int IntKind.i64 7)), (2, .const (Value.int IntKind.i64 3)), (3, .const (Value.bool false))]) (x := (⟨{ data := #[118, 108, 97, 110, 95, 112, 99, 112] }, 7, 3, false⟩ : field_row)) rfl rfl rfl (by kernel_rfl) zr127 ⟨_, _, lfield_row_0, _, by kernel_rfl, (vs (by decide)), _, _, lfield_row_1, _, by kernel_rfl, (vk rfl), _, _, lfield_row_2, _, by kernel_rfl, (vk rfl), _, _, lfield_row_3, _, by kernel_rfl, vb, rfl⟩) rfl ?_
  refine AOps.cons (op_build (ps := [(0, .const (Value.string { data := #[105, 112, 95, 100, 115, 99, 112] })), (1, .const (Value.int IntKind.i64 8)), (2, .const (Value.int IntKind.i64 6)), (3, .const (Value.bool false))]) (x := (⟨{ data := #[105, 112, 95, 100, 115, 99, 112] }, 8, 6, false⟩ : field_row)) rfl rfl rfl (by kernel_rfl) zr127 ⟨_, _, lfield_row_0, _, by kernel_rfl, (vs (by decide)), _, _, lfield_row_1, _, by kernel_rfl, (vk rfl), _, _, lfield_row_2, _, by kernel_rfl, (vk rfl), _, _, lfield_row_3, _, by kernel_rfl, vb, rfl⟩) rfl ?_
  refine AOps.cons (op_build (ps := [(0, .const (Value.string { data := #[105, 112, 95, 101, 99, 110] })), (1, .const (Value.int IntKind.i64 9)), (2, .const (Value.int IntKind.i64 2)), (3, .const (Value.bool false))]) (x := (⟨{ data := #[105, 112, 95, 101, 99, 110] }, 9, 2, false⟩ : field_row)) rfl rfl rfl (by kernel_rfl) zr127 ⟨_, _, lfield_row_0, _, by kernel_rfl, (vs (by decide)), _, _, lfield_row_1, _, by kernel_rfl, (vk rfl), _, _, lfield_row_2, _, by kernel_rfl, (vk rfl), _, _, lfield_row_3, _, by kernel_rfl, vb, rfl⟩) rfl ?_
  refine AOps.cons (op_build (ps := [(0, .const (Value.string { data := #[105, 112, 95, 112, 114, 111, 116, 111] })), (1, .const (Value.int IntKind.i64 10)), (2, .const (Value.int IntKind.i64 8)), (3, .const (Value.bool false))]) (x := (⟨{ data := #[105, 112, 95, 112, 114, 111, 116, 111] }, 10, 8, false⟩ : field_row)) rfl rfl rfl (by kernel_rfl) zr127 ⟨_, _, lfield_row_0, _, by kernel_rfl, (vs (by decide)), _, _, lfield_row_1, _, by kernel_rfl, (vk rfl), _, _, lfield_row_2, _, by kernel_rfl, (vk rfl), _, _, lfield_row_3, _, by kernel_rfl, vb, rfl⟩) rfl ?_
  refine AOps.cons (op_build (ps := [(0, .const (Value.string { data := #[105, 112, 118, 52, 95, 115, 114, 99] })), (1, .const (Value.int IntKind.i64 11)), (2, .const (Value.int IntKind.i64 32)), (3, .const (Value.bool true))]) (x := (⟨{ data := #[105, 112, 118, 52, 95, 115, 114, 99] }, 11, 32, true⟩ : field_row)) rfl rfl rfl (by kernel_rfl) zr127 ⟨_, _, lfield_row_0, _, by kernel_rfl, (vs (by decide)), _, _, lfield_row_1, _, by kernel_rfl, (vk rfl), _, _, lfield_row_2, _, by kernel_rfl, (vk rfl), _, _, lfield_row_3, _, by kernel_rfl, vb, rfl⟩) rfl ?_
  refine AOps.cons (op_build (ps := [(0, .const (Value.string { data := #[105, 112, 118, 52, 95, 100, 115, 116] })), (1, .const (Value.int IntKind.i64 12)), (2, .const (Value.int IntKind.i64 32)), (3, .const (Value.bool true))]) (x := (⟨{ data := #[105, 112, 118, 52, 95, 100, 115, 116] }, 12, 32, true⟩ : field_row)) rfl rfl rfl (by kernel_rfl) zr127 ⟨_, _, lfield_row_0, _, by kernel_rfl, (vs (by decide)), _, _, lfield_row_1, _, by kernel_rfl, (vk rfl), _, _, lfield_row_2, _, by kernel_rfl, (vk rfl), _, _, lfield_row_3, _, by kernel_rfl, vb, rfl⟩) rfl ?_
  refine AOps.cons (op_build (ps := [(0, .const (Value.string { data := #[116, 99, 112, 95, 115, 114, 99] })), (1, .const (Value.int IntKind.i64 13)), (2, .const (Value.int IntKind.i64 16)), (3, .const (Value.bool false))]) (x := (⟨{ data := #[116, 99, 112, 95, 115, 114, 99] }, 13, 16, false⟩ : field_row)) rfl rfl rfl (by kernel_rfl) zr127 ⟨_, _, lfield_row_0, _, by kernel_rfl, (vs (by decide)), _, _, lfield_row_1, _, by kernel_rfl, (vk rfl), _, _, lfield_row_2, _, by kernel_rfl, (vk rfl), _, _, lfield_row_3, _, by kernel_rfl, vb, rfl⟩) rfl ?_
  refine AOps.cons (op_build (ps := [(0, .const (Value.string { data := #[116, 99, 112, 95, 100, 115, 116] })), (1, .const (Value.int IntKind.i64 14)), (2, .const (Value.int IntKind.i64 16)), (3, .const (Value.bool false))]) (x := (⟨{ data := #[116, 99, 112, 95, 100, 115, 116] }, 14, 16, false⟩ : field_row)) rfl rfl rfl (by kernel_rfl) zr127 ⟨_, _, lfield_row_0, _, by kernel_rfl, (vs (by decide)), _, _, lfield_row_1, _, by kernel_rfl, (vk rfl), _, _, lfield_row_2, _, by kernel_rfl, (vk rfl), _, _, lfield_row_3, _, by kernel_rfl, vb, rfl⟩) rfl ?_
  refine AOps.cons (op_build (ps := [(0, .const (Value.string { data := #[117, 100, 112, 95, 115, 114, 99] })), (1, .const (Value.int IntKind.i64 15)), (2, .const (Value.int IntKind.i64 16)), (3, .const (Value.bool false))]) (x := (⟨{ data := #[117, 100, 112, 95, 115, 114, 99] }, 15, 16, false⟩ : field_row)) rfl rfl rfl (by kernel_rfl) zr127 ⟨_, _, lfield_row_0, _, by kernel_rfl, (vs (by decide)), _, _, lfield_row_1, _, by kernel_rfl, (vk rfl), _, _, lfield_row_2, _, by kernel_rfl, (vk rfl), _, _, lfield_row_3, _, by kernel_rfl, vb, rfl⟩) rfl ?_
  refine AOps.cons (op_build (ps := [(0, .const (Value.string { data := #[117, 100, 112, 95, 100, 115, 116] })), (1, .const (Value.int IntKind.i64 16)), (2, .const (Value.int IntKind.i64 16)), (3, .const (Value.bool false))]) (x := (⟨{ data := #[117, 100, 112, 95, 100, 115, 116] }, 16, 16, false⟩ : field_row)) rfl rfl rfl (by kernel_rfl) zr127 ⟨_, _, lfield_row_0, _, by kernel_rfl, (vs (by decide)), _, _, lfield_row_1, _, by kernel_rfl, (vk rfl), _, _, lfield_row_2, _, by kernel_rfl, (vk rfl), _, _, lfield_row_3, _, by kernel_rfl, vb, rfl⟩) rfl ?_
  refine AOps.cons (op_build (ps := [(0, .const (Value.string { data := #[105, 99, 109, 112, 118, 52, 95, 116, 121, 112, 101] })), (1, .const (Value.int IntKind.i64 19)), (2, .const (Value.int IntKind.i64 8)), (3, .const (Value.bool false))]) (x := (⟨{ data := #[105, 99, 109, 112, 118, 52, 95, 116, 121, 112, 101] }, 19, 8, false⟩ : field_row)) rfl rfl rfl (by kernel_rfl) zr127 ⟨_, _, lfield_row_0, _, by kernel_rfl, (vs (by decide)), _, _, lfield_row_1, _, by kernel_rfl, (vk rfl), _, _, lfield_row_2, _, by kernel_rfl, (vk rfl), _, _, lfield_row_3, _, by kernel_rfl, vb, rfl⟩) rfl ?_
  refine AOps.cons (op_build (ps := [(0, .const (Value.string { data := #[105, 99, 109, 112, 118, 52, 95, 99, 111, 100, 101] })), (1, .const (Value.int IntKind.i64 20)), (2, .const (Value.int IntKind.i64 8)), (3, .const (Value.bool false))]) (x := (⟨{ data := #[105, 99, 109, 112, 118, 52, 95, 99, 111, 100, 101] }, 20, 8, false⟩ : field_row)) rfl rfl rfl (by kernel_rfl) zr127 ⟨_, _, lfield_row_0, _, by kernel_rfl, (vs (by decide)), _, _, lfield_row_1, _, by kernel_rfl, (vk rfl), _, _, lfield_row_2, _, by kernel_rfl, (vk rfl), _, _, lfield_row_3, _, by kernel_rfl, vb, rfl⟩) rfl ?_
  refine AOps.cons (op_build (ps := [(0, .const (Value.string { data := #[97, 114, 112, 95, 111, 112] })), (1, .const (Value.int IntKind.i64 21)), (2, .const (Value.int IntKind.i64 16)), (3, .const (Value.bool false))]) (x := (⟨{ data := #[97, 114, 112, 95, 111, 112] }, 21, 16, false⟩ : field_row)) rfl rfl rfl (by kernel_rfl) zr127 ⟨_, _, lfield_row_0, _, by kernel_rfl, (vs (by decide)), _, _, lfield_row_1, _, by kernel_rfl, (vk rfl), _, _, lfield_row_2, _, by kernel_rfl, (vk rfl), _, _, lfield_row_3, _, by kernel_rfl, vb, rfl⟩) rfl ?_
  refine AOps.cons (op_build (ps := [(0, .const (Value.string { data := #[97, 114, 112, 95, 115, 112, 97] })), (1, .const (Value.int IntKind.i64 22)), (2, .const (Value.int IntKind.i64 32)), (3, .const (Value.bool true))]) (x := (⟨{ data := #[97, 114, 112, 95, 115, 112, 97] }, 22, 32, true⟩ : field_row)) rfl rfl rfl (by kernel_rfl) zr127 ⟨_, _, lfield_row_0, _, by kernel_rfl, (vs (by decide)), _, _, lfield_row_1, _, by kernel_rfl, (vk rfl), _, _, lfield_row_2, _, by kernel_rfl, (vk rfl), _, _, lfield_row_3, _, by kernel_rfl, vb, rfl⟩) rfl ?_
  refine AOps.cons (op_build (ps := [(0, .const (Value.string { data := #[97, 114, 112, 95, 116, 112, 97] })), (1, .const (Value.int IntKind.i64 23)), (2, .const (Value.int IntKind.i64 32)), (3, .const (Value.bool true))]) (x := (⟨{ data := #[97, 114, 112, 95, 116, 112, 97] }, 23, 32, true⟩ : field_row)) rfl rfl rfl (by kernel_rfl) zr127 ⟨_, _, lfield_row_0, _, by kernel_rfl, (vs (by decide)), _, _, lfield_row_1, _, by kernel_rfl, (vk rfl), _, _, lfield_row_2, _, by kernel_rfl, (vk rfl), _, _, lfield_row_3, _, by kernel_rfl, vb, rfl⟩) rfl ?_
  refine AOps.cons (op_build (ps := [(0, .const (Value.string { data := #[105, 112, 118, 54, 95, 115, 114, 99] })), (1, .const (Value.int IntKind.i64 26)), (2, .const (Value.int IntKind.i64 128)), (3, .const (Value.bool true))]) (x := (⟨{ data := #[105, 112, 118, 54, 95, 115, 114, 99] }, 26, 128, true⟩ : field_row)) rfl rfl rfl (by kernel_rfl) zr127 ⟨_, _, lfield_row_0, _, by kernel_rfl, (vs (by decide)), _, _, lfield_row_1, _, by kernel_rfl, (vk rfl), _, _, lfield_row_2, _, by kernel_rfl, (vk rfl), _, _, lfield_row_3, _, by kernel_rfl, vb, rfl⟩) rfl ?_
  refine AOps.cons (op_build (ps := [(0, .const (Value.string { data := #[105, 112, 118, 54, 95, 100, 115, 116] })), (1, .const (Value.int IntKind.i64 27)), (2, .const (Value.int IntKind.i64 128)), (3, .const (Value.bool true))]) (x := (⟨{ data := #[105, 112, 118, 54, 95, 100, 115, 116] }, 27, 128, true⟩ : field_row)) rfl rfl rfl (by kernel_rfl) zr127 ⟨_, _, lfield_row_0, _, by kernel_rfl, (vs (by decide)), _, _, lfield_row_1, _, by kernel_rfl, (vk rfl), _, _, lfield_row_2, _, by kernel_rfl, (vk rfl), _, _, lfield_row_3, _, by kernel_rfl, vb, rfl⟩) rfl ?_
  refine AOps.cons (op_build (ps := [(0, .const (Value.string { data := #[109, 112, 108, 115, 95, 108, 97, 98, 101, 108] })), (1, .const (Value.int IntKind.i64 34)), (2, .const (Value.int IntKind.i64 20)), (3, .const (Value.bool false))]) (x := (⟨{ data := #[109, 112, 108, 115, 95, 108, 97, 98, 101, 108] }, 34, 20, false⟩ : field_row)) rfl rfl rfl (by kernel_rfl) zr127 ⟨_, _, lfield_row_0, _, by kernel_rfl, (vs (by decide)), _, _, lfield_row_1, _, by kernel_rfl, (vk rfl), _, _, lfield_row_2, _, by kernel_rfl, (vk rfl), _, _, lfield_row_3, _, by kernel_rfl, vb, rfl⟩) rfl ?_
  refine AOps.cons (op_build (ps := [(0, .tmp 1), (1, .tmp 2), (2, .tmp 3), (3, .tmp 4), (4, .tmp 5), (5, .tmp 6), (6, .tmp 7), (7, .tmp 8), (8, .tmp 9), (9, .tmp 10), (10, .tmp 11), (11, .tmp 12), (12, .tmp 13), (13, .tmp 14), (14, .tmp 15), (15, .tmp 16), (16, .tmp 17), (17, .tmp 18), (18, .tmp 19), (19, .tmp 20), (20, .tmp 21), (21, .tmp 22), (22, .tmp 23), (23, .tmp 24)]) (x := (Vector.set (Vector.set (Vector.set (Vector.set (Vector.set (Vector.set (Vector.set (Vector.set (Vector.set (Vector.set (Vector.set (Vector.set (Vector.set (Vector.set (Vector.set (Vector.set (Vector.set (Vector.set (Vector.set (Vector.set (Vector.set (Vector.set (Vector.set (Vector.set (Vector.replicate 24 zfield_row) 0 (⟨{ data := #[105, 110, 95, 112, 111, 114, 116] }, 0, 32, false⟩ : field_row) (by decide)) 1 (⟨{ data := #[109, 101, 116, 97, 100, 97, 116, 97] }, 2, 64, true⟩ : field_row) (by decide)) 2 (⟨{ data := #[101, 116, 104, 95, 100, 115, 116] }, 3, 48, true⟩ : field_row) (by decide)) 3 (⟨{ data := #[101, 116, 104, 95, 115, 114, 99] }, 4, 48, true⟩ : field_row) (by decide)) 4 (⟨{ data := #[101, 116, 104, 95, 116, 121, 112, 101] }, 5, 16, false⟩ : field_row) (by decide)) 5 (⟨{ data := #[118, 108, 97, 110, 95, 118, 105, 100] }, 6, 13, true⟩ : field_row) (by decide)) 6 (⟨{ data := #[118, 108, 97, 110, 95, 112, 99, 112] }, 7, 3, false⟩ : field_row) (by decide)) 7 (⟨{ data := #[105, 112, 95, 100, 115, 99, 112] }, 8, 6, false⟩ : field_row) (by decide)) 8 (⟨{ data := #[105, 112, 95, 101, 99, 110] }, 9, 2, false⟩ : field_row) (by decide)) 9 (⟨{ data := #[105, 112, 95, 112, 114, 111, 116, 111] }, 10, 8, false⟩ : field_row) (by decide)) 10 (⟨{ data := #[105, 112, 118, 52, 95, 115, 114, 99] }, 11, 32, true⟩ : field_row) (by decide)) 11 (⟨{ data := #[105, 112, 118, 52, 95, 100, 115, 116] }, 12, 32, true⟩ : field_row) (by decide)) 12 (⟨{ data := #[116, 99, 112, 95, 115, 114, 99] }, 13, 16, false⟩ : field_row) (by decide)) 13 (⟨{ data := #[116, 99, 112, 95, 100, 115, 116] }, 14, 16, false⟩ : field_row) (by decide)) 14 (⟨{ data := #[117, 100, 112, 95, 115, 114, 99] }, 15, 16, false⟩ : field_row) (by decide)) 15 (⟨{ data := #[117, 100, 112, 95, 100, 115, 116] }, 16, 16, false⟩ : field_row) (by decide)) 16 (⟨{ data := #[105, 99, 109, 112, 118, 52, 95, 116, 121, 112, 101] }, 19, 8, false⟩ : field_row) (by decide)) 17 (⟨{ data := #[105, 99, 109, 112, 118, 52, 95, 99, 111, 100, 101] }, 20, 8, false⟩ : field_row) (by decide)) 18 (⟨{ data := #[97, 114, 112, 95, 111, 112] }, 21, 16, false⟩ : field_row) (by decide)) 19 (⟨{ data := #[97, 114, 112, 95, 115, 112, 97] }, 22, 32, true⟩ : field_row) (by decide)) 20 (⟨{ data := #[97, 114, 112, 95, 116, 112, 97] }, 23, 32, true⟩ : field_row) (by decide)) 21 (⟨{ data := #[105, 112, 118, 54, 95, 115, 114, 99] }, 26, 128, true⟩ : field_row) (by decide)) 22 (⟨{ data := #[105, 112, 118, 54, 95, 100, 115, 116] }, 27, 128, true⟩ : field_row) (by decide)) 23 (⟨{ data := #[109, 112, 108, 115, 95, 108, 97, 98, 101, 108] }, 34, 20, false⟩ : field_row) (by decide))) rfl rfl rfl (by kernel_rfl) zr133 ⟨_, _, Lens.idx 24 kfield_row 0 (by decide), _, by kernel_rfl, (vt rfl), _, _, Lens.idx 24 kfield_row 1 (by decide), _, by kernel_rfl, (vt rfl), _, _, Lens.idx 24 kfield_row 2 (by decide), _, by kernel_rfl, (vt rfl), _, _, Lens.idx 24 kfield_row 3 (by decide), _, by kernel_rfl, (vt rfl), _, _, Lens.idx 24 kfield_row 4 (by decide), _, by kernel_rfl, (vt rfl), _, _, Lens.idx 24 kfield_row 5 (by decide), _, by kernel_rfl, (vt rfl), _, _, Lens.idx 24 kfield_row 6 (by decide), _, by kernel_rfl, (vt rfl), _, _, Lens.idx 24 kfield_row 7 (by decide), _, by kernel_rfl, (vt rfl), _, _, Lens.idx 24 kfield_row 8 (by decide), _, by kernel_rfl, (vt rfl), _, _, Lens.idx 24 kfield_row 9 (by decide), _, by kernel_rfl, (vt rfl), _, _, Lens.idx 24 kfield_row 10 (by decide), _, by kernel_rfl, (vt rfl), _, _, Lens.idx 24 kfield_row 11 (by decide), _, by kernel_rfl, (vt rfl), _, _, Lens.idx 24 kfield_row 12 (by decide), _, by kernel_rfl, (vt rfl), _, _, Lens.idx 24 kfield_row 13 (by decide), _, by kernel_rfl, (vt rfl), _, _, Lens.idx 24 kfield_row 14 (by decide), _, by kernel_rfl, (vt rfl), _, _, Lens.idx 24 kfield_row 15 (by decide), _, by kernel_rfl, (vt rfl), _, _, Lens.idx 24 kfield_row 16 (by decide), _, by kernel_rfl, (vt rfl), _, _, Lens.idx 24 kfield_row 17 (by decide), _, by kernel_rfl, (vt rfl), _, _, Lens.idx 24 kfield_row 18 (by decide), _, by kernel_rfl, (vt rfl), _, _, Lens.idx 24 kfield_row 19 (by decide), _, by kernel_rfl, (vt rfl), _, _, Lens.idx 24 kfield_row 20 (by decide), _, by kernel_rfl, (vt rfl), _, _, Lens.idx 24 kfield_row 21 (by decide), _, by kernel_rfl, (vt rfl), _, _, Lens.idx 24 kfield_row 22 (by decide), _, by kernel_rfl, (vt rfl), _, _, Lens.idx 24 kfield_row 23 (by decide), _, by kernel_rfl, (vt rfl), rfl⟩) rfl ?_
  refine AOps.cons (op_store rfl rfl ty133 (vt rfl) (i := 1) rfl (vt rfl)) rfl ?_
  refine AOps.nil ?_
  refine AW.ret ?_
  obtain rfl := Option.some.inj h
  exact ret1 Try.results97 rfl (out_cell rfl (i := 1) rfl ty133)
-- weirbox/field.at
def F88 (f1 : Int) : Option field_row :=
  (F69 f1).bind fun x3 => (bif (!x3) then some (⟨(⟨#[]⟩ : ByteArray), (-1), 0, false⟩ : field_row) else (F97).bind fun x4 => (lget (Vector.toList x4) f1).bind fun e5 => some e5)
theorem c88 (f1 : Int) (r : field_row) (h : F88 f1 = some r) : PCon Try.prog 88 [rd (kint .i64) f1] (rd kfield_row r) := by
  refine PCon.of (Con.intro0 Try.func88 rfl Try.ntmps88 rfl fun w H => ?_)
  unfold F88 at h
  refine AW.seq ?_
  refine AW.region ?_
  refine AOps.consT rfl (op_alloc 3 rfl rfl zr127) ?_
  rintro _ ⟨g2, rfl⟩
  refine AOps.nil ?_
  refine AW.seq ?_
  refine AW.seq ?_
  obtain ⟨x3, hx3, h⟩ := bsome h
  refine AW.region ?_
  refine AOps.cons (op_move (A := rd (kint .i64) f1) rfl rfl (vt rfl)) rfl ?_
  refine AOps.cons (op_call (xs := [.tmp 3]) (c69 _ _ hx3) (Ent.mk Try.func69 rfl rfl) rfl rfl ⟨vt rfl, trivial⟩) rfl ?_
  refine AOps.cons (op_not rfl rfl (vt rfl)) rfl ?_
  refine AOps.nil ?_
  refine AW.cond (vt rfl) (fun hc => ?_) (fun hc => ?_)
  · have h := cond_t hc h
    refine AW.seq ?_
    refine AW.region ?_
    refine AOps.cons (op_build (ps := [(1, .const (Value.int IntKind.i64 (-1)))]) (x := (⟨(⟨#[]⟩ : ByteArray), (-1), 0, false⟩ : field_row)) rfl rfl rfl (by kernel_rfl) zr127 ⟨_, _, lfield_row_1, _, by kernel_rfl, (vk rfl), rfl⟩) rfl ?_
    refine AOps.cons (op_store rfl rfl ty127 (vt rfl) (i := 3) rfl (vt rfl)) rfl ?_
    refine AOps.nil ?_
    refine AW.ret ?_
    obtain rfl := Option.some.inj h
    exact ret1 Try.results88 rfl (out_cell rfl (i := 3) rfl ty127)
  · have h := cond_f hc h
    refine AW.skip ?_
    refine AW.seq ?_
    obtain ⟨x4, hx4, h⟩ := bsome h
    obtain ⟨e5, he5, h⟩ := bsome h
    refine AW.region ?_
    refine AOps.cons (op_call (xs := []) (c97 _ hx4) (Ent.mk Try.func97 rfl rfl) rfl rfl trivial) rfl ?_
    refine AOps.cons (op_move (A := rd (kint .i64) f1) rfl rfl (vt rfl)) rfl ?_
    refine AOps.cons (op_indexv rfl rfl ar133 ty127 (vt rfl) (vt rfl) he5) rfl ?_
    refine AOps.cons (op_store rfl rfl ty127 (vt rfl) (i := 3) rfl (vt rfl)) rfl ?_
    refine AOps.nil ?_
    refine AW.ret ?_
    obtain rfl := Option.some.inj h
    exact ret1 Try.results88 rfl (out_cell rfl (i := 3) rfl ty127)
end Go.Proofs.Ytokmmcflinnfiab.W
