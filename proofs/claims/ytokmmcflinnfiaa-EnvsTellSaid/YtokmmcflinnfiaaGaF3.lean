/- GaF3: a part of the proof. -/
import Derived.Test.YtokmmcflinnfiaaGaF2
set_option linter.unusedVariables false
set_option linter.unusedSimpArgs false
namespace Go.Proofs.Ytokmmcflinnfiaa.W
open Go Go.Wb
-- slices.DeleteFunc[[]int,int]
def F64_l1 (del3 : (Int → Option Bool)) : Nat → (List Int) → Int → Int → Option (List Int)
  | 0, _, _, _ => none
  | m13 + 1, l9, i11, j12 => (bif (decide (j12 < (l9.length : Int))) then (lget l9 j12).bind fun e14 => (del3 e14).bind fun x15 => (bif (!x15) then (lget l9 i11).bind fun e16 => (F64_l1 del3 m13) (List.set l9 i11.toNat e14) (IntKind.i64.wrap (i11 + 1)) (IntKind.i64.wrap (j12 + 1)) else (F64_l1 del3 m13) l9 i11 (IntKind.i64.wrap (j12 + 1))) else (odrop l9 i11).bind fun s17 => (otake (List.take i11.toNat l9 ++ List.replicate (l9.length - i11.toNat) 0) i11).bind fun s18 => some s18)
def F64 (s1 : (List Int)) (del3 : (Int → Option Bool)) : Option (List Int) :=
  (F67 s1 del3).bind fun x4 => (bif (decide (x4 = (-1))) then some s1 else F64_l1 del3 ((((s1.length : Int) : Int) - (IntKind.i64.wrap (x4 + 1))).toNat + 1) s1 x4 (IntKind.i64.wrap (x4 + 1)))
theorem c64o (v2 : Value) (s1 : (List Int)) (del3 : (Int → Option Bool)) (r : (List Int)) (h : F64 s1 del3 = some r) : Con Try.prog 64 [raw v2, fn1 Try.prog (kint .i64) kbool del3] (Row v2 3 (kint .i64) s1) (fun v => raw v) (fun v => Row v 3 (kint .i64) r) := by
  refine Con.intro Try.func64 rfl Try.ntmps64 rfl fun w H X => ?_
  unfold F64 at h
  refine AW.seq ?_
  refine AW.newnil 1001 3 (kint .i64) ?_
  refine AW.region ?_
  refine AOps.cons (op_assign rfl rfl vc) rfl ?_
  refine AOps.nil ?_
  refine AW.seq ?_
  obtain ⟨x4, hx4, h⟩ := bsome h
  refine AW.region ?_
  refine AOps.cons (op_move (A := raw v2) rfl rfl (vt rfl)) rfl ?_
  refine AOps.cons (op_move (A := fn1 Try.prog (kint .i64) kbool del3) rfl rfl (vt rfl)) rfl ?_
  refine AOps.cons (op_callB (xs := [.tmp 8, .tmp 9]) 0 (c67 _ _ _ hx4) (Ent.mk Try.func67 rfl rfl) rfl rfl ⟨vL rfl rfl, vB (vt rfl), trivial⟩) rfl ?_
  refine AOps.cons (op_assign (A := rd (kint .i64) x4) rfl rfl (vt rfl)) rfl ?_
  refine AOps.nil ?_
  refine AW.seq ?_
  refine AW.seq ?_
  refine AW.region ?_
  refine AOps.cons (op_move (A := rd (kint .i64) x4) rfl rfl (vt rfl)) rfl ?_
  refine AOps.cons (op_eql rfl rfl (vt rfl) (vk rfl)) rfl ?_
  refine AOps.nil ?_
  refine AW.cond (vt rfl) (fun hc => ?_) (fun hc => ?_)
  · have h := cond_t hc h
    refine AW.seq ?_
    refine AW.region ?_
    refine AOps.cons (op_move (A := raw v2) rfl rfl (vt rfl)) rfl ?_
    refine AOps.cons (op_assign (A := raw v2) rfl rfl (vt rfl)) rfl ?_
    refine AOps.nil ?_
    refine AW.ret ?_
    obtain rfl := Option.some.inj h
    exact ret1R (i := 0) Try.results64 rfl rfl rfl
  · have h := cond_f hc h
    refine AW.skip ?_
    refine AW.seq ?_
    refine AW.seq ?_
    refine AW.region ?_
    refine AOps.cons (op_move (A := rd (kint .i64) x4) rfl rfl (vt rfl)) rfl ?_
    refine AOps.cons (op_add rfl rfl (vt rfl) (vk rfl)) rfl ?_
    refine AOps.cons (op_assign (A := rd (kint .i64) (IntKind.i64.wrap (x4 + 1))) rfl rfl (vt rfl)) rfl ?_
    refine AOps.nil ?_
    refine AW.block ?_
    refine AW.loopG (d := []) (ν := Nat × (List Int) × Int × Int × Value) (fun n => True ∧ F64_l1 del3 n.1 n.2.1 n.2.2.1 n.2.2.2.1 = some r) (fun n => n.1) (fun n => [(0, raw n.2.2.2.2), (1, fn1 Try.prog (kint .i64) kbool del3), (5, rd (kint .i64) n.2.2.1), (6, rd (kint .i64) n.2.2.2.1)]) (fun n => [(0, Row n.2.2.2.2 3 (kint .i64) n.2.1)]) (((((s1.length : Int) : Int) - (IntKind.i64.wrap (x4 + 1))).toNat + 1), s1, x4, (IntKind.i64.wrap (x4 + 1)), v2) ⟨trivial, h⟩ ⟨rfl, ⟨rfl, rfl, rfl, rfl, trivial⟩, ⟨rfl, trivial⟩⟩ ?_
    rintro ⟨m13, l9, i11, j12, v10⟩ ⟨hsf1, h⟩
    change True at hsf1
    change F64_l1 del3 m13 l9 i11 j12 = some r at h
    change AW _ _ _ ⟨slots [(0, raw v10), (1, fn1 Try.prog (kint .i64) kbool del3), (5, rd (kint .i64) i11), (6, rd (kint .i64) j12)], ress [(0, Row v10 3 (kint .i64) l9)], _⟩
    cases m13 with
    | zero => cases h
    | succ m13 =>
      unfold F64_l1 at h
      generalize hgo1 : F64_l1 del3 m13 = go1 at h
      refine AW.seq ?_
      refine AW.seq ?_
      refine AW.region ?_
      refine AOps.cons (op_move (A := rd (kint .i64) j12) rfl rfl (vt rfl)) rfl ?_
      refine AOps.cons (op_move (A := raw v10) rfl rfl (vt rfl)) rfl ?_
      refine AOps.cons (op_leno 0 rfl rfl sl29 (vt rfl) rfl) rfl ?_
      refine AOps.cons (op_lss rfl rfl (vt rfl) (vt rfl)) rfl ?_
      refine AOps.nil ?_
      refine AW.cond (vt rfl) (fun hc => ?_) (fun hc => ?_)
      · have h := cond_t hc h
        refine AW.skip ?_
        refine AW.seq ?_
        refine AW.block ?_
        refine AW.seq ?_
        obtain ⟨e14, he14, h⟩ := bsome h
        refine AW.region ?_
        refine AOps.cons (op_move (A := raw v10) rfl rfl (vt rfl)) rfl ?_
        refine AOps.cons (op_move (A := rd (kint .i64) j12) rfl rfl (vt rfl)) rfl ?_
        refine AOps.cons (op_indexo' 0 rfl rfl sl29 (vt rfl) rfl (vt rfl) he14) rfl ?_
        refine AOps.cons (op_loado' 0 rfl rfl ty3 (vt rfl) rfl (lget_of he14).2) rfl ?_
        refine AOps.cons (op_assign (A := rd (kint .i64) e14) rfl rfl (vt rfl)) rfl ?_
        refine AOps.nil ?_
        refine AW.seq ?_
        obtain ⟨x15, hx15, h⟩ := bsome h
        refine AW.region ?_
        refine AOps.cons (op_move (A := fn1 Try.prog (kint .i64) kbool del3) rfl rfl (vt rfl)) rfl ?_
        refine AOps.cons (op_move (A := rd (kint .i64) e14) rfl rfl (vt rfl)) rfl ?_
        refine AOps.cons (op_call1 hx15 rfl rfl (vt rfl) (vt rfl)) rfl ?_
        refine AOps.cons (op_not rfl rfl (vt rfl)) rfl ?_
        refine AOps.nil ?_
        refine AW.cond (vt rfl) (fun hc => ?_) (fun hc => ?_)
        · have h := cond_t hc h
          refine AW.seq ?_
          obtain ⟨e16, he16, h⟩ := bsome h
          refine AW.region ?_
          refine AOps.cons (op_move (A := raw v10) rfl rfl (vt rfl)) rfl ?_
          refine AOps.cons (op_move (A := rd (kint .i64) i11) rfl rfl (vt rfl)) rfl ?_
          refine AOps.cons (op_move (A := rd (kint .i64) e14) rfl rfl (vt rfl)) rfl ?_
          refine AOps.cons (op_indexo' 0 rfl rfl sl29 (vt rfl) rfl (vt rfl) he16) rfl ?_
          refine AOps.cons (op_storeo' 0 rfl rfl ty3 (vt rfl) rfl (lget_of he16).2 (vt rfl)) rfl ?_
          refine AOps.nil ?_
          refine AW.region ?_
          refine AOps.cons (op_move (A := rd (kint .i64) i11) rfl rfl (vt rfl)) rfl ?_
          refine AOps.cons (op_add rfl rfl (vt rfl) (vk rfl)) rfl ?_
          refine AOps.cons (op_assign (A := rd (kint .i64) (IntKind.i64.wrap (i11 + 1))) rfl rfl (vt rfl)) rfl ?_
          refine AOps.nil ?_
          refine AW.region ?_
          refine AOps.cons (op_move (A := rd (kint .i64) j12) rfl rfl (vt rfl)) rfl ?_
          refine AOps.cons (op_add rfl rfl (vt rfl) (vk rfl)) rfl ?_
          refine AOps.cons (op_assign (A := rd (kint .i64) (IntKind.i64.wrap (j12 + 1))) rfl rfl (vt rfl)) rfl ?_
          refine AOps.nil ?_
          subst hgo1
          exact ⟨(m13, (List.set l9 i11.toNat e14), (IntKind.i64.wrap (i11 + 1)), (IntKind.i64.wrap (j12 + 1)), v10), Nat.lt_succ_self _, ⟨trivial, h⟩, ⟨rfl, ⟨rfl, rfl, rfl, rfl, trivial⟩, ⟨rfl, trivial⟩⟩⟩
        · have h := cond_f hc h
          refine AW.skip ?_
          refine AW.region ?_
          refine AOps.cons (op_move (A := rd (kint .i64) j12) rfl rfl (vt rfl)) rfl ?_
          refine AOps.cons (op_add rfl rfl (vt rfl) (vk rfl)) rfl ?_
          refine AOps.cons (op_assign (A := rd (kint .i64) (IntKind.i64.wrap (j12 + 1))) rfl rfl (vt rfl)) rfl ?_
          refine AOps.nil ?_
          subst hgo1
          exact ⟨(m13, l9, i11, (IntKind.i64.wrap (j12 + 1)), v10), Nat.lt_succ_self _, ⟨trivial, h⟩, ⟨rfl, ⟨rfl, rfl, rfl, rfl, trivial⟩, ⟨rfl, trivial⟩⟩⟩
      · have h := cond_f hc h
        refine AW.exit ?_
        refine AW.seq ?_
        obtain ⟨s17, hs17, h⟩ := bsome h
        refine AW.region ?_
        refine AOps.cons (op_move (A := raw v10) rfl rfl (vt rfl)) rfl ?_
        refine AOps.cons (op_move (A := rd (kint .i64) i11) rfl rfl (vt rfl)) rfl ?_
        refine AOps.cons (op_sliceo_l 0 hs17 rfl rfl sl29 (vt rfl) rfl (vt rfl)) rfl ?_
        refine AOps.cons (op_clearo 0 rfl rfl sl29 zr3 rfl (vt rfl) rfl (odrop_of hs17).2.1) rfl ?_
        refine AOps.nil ?_
        refine AW.seq ?_
        obtain ⟨s18, hs18, h⟩ := bsome h
        refine AW.region ?_
        refine AOps.cons (op_move (A := raw v10) rfl rfl (vt rfl)) rfl ?_
        refine AOps.cons (op_move (A := rd (kint .i64) i11) rfl rfl (vt rfl)) rfl ?_
        refine AOps.consT rfl (op_sliceo_h 0 hs18 rfl rfl sl29 (vt rfl) rfl (vt rfl)) ?_
        rintro _ ⟨v19, rfl⟩
        refine AOps.cons (op_assign (A := raw v19) rfl rfl (vt rfl)) rfl ?_
        refine AOps.nil ?_
        refine AW.ret ?_
        obtain rfl := Option.some.inj h
        exact ret1R (i := 0) Try.results64 rfl rfl rfl
-- weirbox/env.Which
def F66 (e1 : Env) (n2 : Int) : Option Int :=
  (bif (decide (n2 < 1)) then some 0 else (omod e1.Turn n2).bind fun q4 => (bif (decide (q4 < 0)) then some (IntKind.i64.wrap (q4 + n2)) else some q4))
theorem c66 (e1 : Env) (n2 : Int) (r : Int) (h : F66 e1 n2 = some r) : PCon Try.prog 66 [rd kEnv e1, rd (kint .i64) n2] (rd (kint .i64) r) := by
  refine PCon.of (Con.intro0 Try.func66 rfl Try.ntmps66 rfl fun w H => ?_)
  unfold F66 at h
  refine AW.seq ?_
  refine AW.region ?_
  refine AOps.consT rfl (op_box 3 rfl rfl (vt rfl)) ?_
  rintro _ ⟨g3, rfl⟩
  refine AOps.cons (op_assign (A := rd (kint .i64) 0) rfl rfl (vk rfl)) rfl ?_
  refine AOps.nil ?_
  refine AW.seq ?_
  refine AW.seq ?_
  refine AW.region ?_
  refine AOps.cons (op_move (A := rd (kint .i64) n2) rfl rfl (vt rfl)) rfl ?_
  refine AOps.cons (op_lss rfl rfl (vt rfl) (vk rfl)) rfl ?_
  refine AOps.nil ?_
  refine AW.cond (vt rfl) (fun hc => ?_) (fun hc => ?_)
  · have h := cond_t hc h
    refine AW.seq ?_
    refine AW.region ?_
    refine AOps.cons (op_assign (A := rd (kint .i64) 0) rfl rfl (vk rfl)) rfl ?_
    refine AOps.nil ?_
    refine AW.ret ?_
    obtain rfl := Option.some.inj h
    exact ret1 Try.results66 rfl (out_tmp rfl)
  · have h := cond_f hc h
    refine AW.skip ?_
    refine AW.seq ?_
    obtain ⟨q4, hq4, h⟩ := bsome h
    refine AW.region ?_
    refine AOps.cons (op_field lEnv_0 rfl rfl fl31_0 (vt rfl)) rfl ?_
    refine AOps.cons (op_load rfl rfl ty3 (vt rfl) (i := 3) rfl) rfl ?_
    refine AOps.cons (op_move (A := rd (kint .i64) n2) rfl rfl (vt rfl)) rfl ?_
    refine AOps.cons (op_rem rfl rfl (vt rfl) (vt rfl) hq4) rfl ?_
    refine AOps.cons (op_assign (A := rd (kint .i64) q4) rfl rfl (vt rfl)) rfl ?_
    refine AOps.nil ?_
    refine AW.seq ?_
    refine AW.seq ?_
    refine AW.region ?_
    refine AOps.cons (op_move (A := rd (kint .i64) q4) rfl rfl (vt rfl)) rfl ?_
    refine AOps.cons (op_lss rfl rfl (vt rfl) (vk rfl)) rfl ?_
    refine AOps.nil ?_
    refine AW.cond (vt rfl) (fun hc => ?_) (fun hc => ?_)
    · have h := cond_t hc h
      refine AW.region ?_
      refine AOps.cons (op_move (A := rd (kint .i64) q4) rfl rfl (vt rfl)) rfl ?_
      refine AOps.cons (op_move (A := rd (kint .i64) n2) rfl rfl (vt rfl)) rfl ?_
      refine AOps.cons (op_add rfl rfl (vt rfl) (vt rfl)) rfl ?_
      refine AOps.cons (op_assign (A := rd (kint .i64) (IntKind.i64.wrap (q4 + n2))) rfl rfl (vt rfl)) rfl ?_
      refine AOps.nil ?_
      refine AW.seq ?_
      refine AW.region ?_
      refine AOps.cons (op_move (A := rd (kint .i64) (IntKind.i64.wrap (q4 + n2))) rfl rfl (vt rfl)) rfl ?_
      refine AOps.cons (op_assign (A := rd (kint .i64) (IntKind.i64.wrap (q4 + n2))) rfl rfl (vt rfl)) rfl ?_
      refine AOps.nil ?_
      refine AW.ret ?_
      obtain rfl := Option.some.inj h
      exact ret1 Try.results66 rfl (out_tmp rfl)
    · have h := cond_f hc h
      refine AW.skip ?_
      refine AW.seq ?_
      refine AW.region ?_
      refine AOps.cons (op_move (A := rd (kint .i64) q4) rfl rfl (vt rfl)) rfl ?_
      refine AOps.cons (op_assign (A := rd (kint .i64) q4) rfl rfl (vt rfl)) rfl ?_
      refine AOps.nil ?_
      refine AW.ret ?_
      obtain rfl := Option.some.inj h
      exact ret1 Try.results66 rfl (out_tmp rfl)
-- weirbox/envs.Fold
def F16 (e1 : Env) (l2 : (List Group)) : Option Env :=
  (F25 l2).bind fun x5 => (F64 x5 (fun x => F65 x e1)).bind fun x7 => (F27 l2).bind fun x9 => (F66 e1 x9).bind fun x10 => some (⟨x10, x7⟩ : Env)
theorem c16 (e1 : Env) (l2 : (List Group)) (r : Env) (h : F16 e1 l2 = some r) : PCon Try.prog 16 [rd kEnv e1, rd (ksl kGroup) l2] (rd kEnv r) := by
  refine PCon.of (Con.intro0 Try.func16 rfl Try.ntmps16 rfl fun w H => ?_)
  unfold F16 at h
  refine AW.seq ?_
  refine AW.region ?_
  refine AOps.consT rfl (op_box 3 rfl rfl (vt rfl)) ?_
  rintro _ ⟨g3, rfl⟩
  refine AOps.consT rfl (op_alloc 5 rfl rfl zr31) ?_
  rintro _ ⟨g4, rfl⟩
  refine AOps.nil ?_
  refine AW.seq ?_
  refine AW.freezeB 2 3 rfl rfl rfl ?_
  obtain ⟨x5, hx5, h⟩ := bsome h
  obtain ⟨x7, hx7, h⟩ := bsome h
  refine AW.region ?_
  refine AOps.cons (op_move (A := rd (ksl kGroup) l2) rfl rfl (vt rfl)) rfl ?_
  refine AOps.consT rfl (op_callR 1001 (xs := [.tmp 6]) (c25o _ _ hx5) (Ent.mk Try.func25 rfl rfl) rfl rfl ⟨vt rfl, trivial⟩ rfl) ?_
  rintro _ ⟨v6, rfl⟩
  refine AOps.cons (op_fn1 (cs := [.tmp 2]) (CAs := [rp kEnv e1]) (fun x => F65 x e1) rfl rfl (Ent.mk Try.func65 rfl rfl) ⟨vt rfl, trivial⟩ (fun x y h => c65 _ _ y h)) rfl ?_
  refine AOps.consT rfl (op_callR 1001 (xs := [.tmp 7, .tmp 8]) (c64o _ _ _ _ hx7) (Ent.mk Try.func64 rfl rfl) rfl rfl ⟨vt rfl, vt rfl, trivial⟩ rfl) ?_
  rintro _ ⟨v8, rfl⟩
  refine AOps.cons (op_assign (A := raw v8) rfl rfl (vt rfl)) rfl ?_
  refine AOps.nil ?_
  refine AW.seq ?_
  refine AW.freezes [5, 9] 1001 rfl ⟨rfl, rfl, trivial⟩ rfl ?_
  obtain ⟨x9, hx9, h⟩ := bsome h
  obtain ⟨x10, hx10, h⟩ := bsome h
  refine AW.regionAny [⟨[2], [10], [], []⟩, ⟨[1], [11], [], []⟩, ⟨[11], [12], [], []⟩, ⟨[10, 12], [13], [], []⟩, ⟨[5], [14], [], []⟩, ⟨[13, 14], [15], [], []⟩, ⟨[4, 15], [], [5], [5]⟩] mixed (by kernel_rfl) ?_
  refine SeqA.cons (loc [2] [] rfl rfl fun S hs hr => op_loadp rfl rfl ty31 (vt ((hs 2 rfl).trans rfl))) ⟨rfl, rfl, rfl, rfl⟩ ?_
  refine SeqA.cons (loc [1] [] rfl rfl fun S hs hr => op_move (A := rd (ksl kGroup) l2) rfl rfl (vt ((hs 1 rfl).trans rfl))) ⟨rfl, rfl, rfl, rfl⟩ ?_
  refine SeqA.cons (loc [11] [] rfl rfl fun S hs hr => op_call (xs := [.tmp 11]) (c27 _ _ hx9) (Ent.mk Try.func27 rfl rfl) rfl rfl ⟨vt ((hs 11 rfl).trans rfl), trivial⟩) ⟨rfl, rfl, rfl, rfl⟩ ?_
  refine SeqA.cons (loc [10, 12] [] rfl rfl fun S hs hr => op_call (xs := [.tmp 10, .tmp 12]) (c66 _ _ _ hx10) (Ent.mk Try.func66 rfl rfl) rfl rfl ⟨vt ((hs 10 rfl).trans rfl), vt ((hs 12 rfl).trans rfl), trivial⟩) ⟨rfl, rfl, rfl, rfl⟩ ?_
  refine SeqA.cons (loc [5] [] rfl rfl fun S hs hr => op_move (A := rd (ksl (kint .i64)) x7) rfl rfl (vt ((hs 5 rfl).trans rfl))) ⟨rfl, rfl, rfl, rfl⟩ ?_
  refine SeqA.cons (loc [13, 14] [] rfl rfl fun S hs hr => op_build (ps := [(0, .tmp 13), (1, .tmp 14)]) (x := (⟨x10, x7⟩ : Env)) rfl rfl rfl (by kernel_rfl) zr31 ⟨_, _, lEnv_0, _, by kernel_rfl, (vt ((hs 13 rfl).trans rfl)), _, _, lEnv_1, _, by kernel_rfl, (vt ((hs 14 rfl).trans rfl)), rfl⟩) ⟨rfl, rfl, rfl, rfl⟩ ?_
  refine SeqA.cons (locr [4, 15] [5] rfl fun S hs hr => op_store rfl rfl ty31 (vt ((hs 4 rfl).trans rfl)) (i := 5) ((hr 5 rfl).trans rfl) (vt ((hs 15 rfl).trans rfl))) ⟨rfl, rfl, rfl, rfl⟩ ?_
  refine AW.ret ?_
  obtain rfl := Option.some.inj h
  exact ret1 Try.results16 rfl (out_cell rfl (i := 5) rfl ty31)
-- slices.Equal[[]int,int]
def F24_l1 (s11 : (List Int)) (s22 : (List Int)) : Nat → Nat → Option Bool
  | 0, i3 => some true
  | m4 + 1, i3 => (lget s11 (i3 : Int)).bind fun e5 => (lget s22 (i3 : Int)).bind fun e6 => (bif (decide (e5 ≠ e6)) then some false else (F24_l1 s11 s22 m4) (i3 + 1))
def F24 (s11 : (List Int)) (s22 : (List Int)) : Option Bool :=
  (bif (decide ((s11.length : Int) ≠ (s22.length : Int))) then some false else F24_l1 s11 s22 ((s11.length : Int) : Int).toNat 0)
theorem c24 (s11 : (List Int)) (s22 : (List Int)) (r : Bool) (h : F24 s11 s22 = some r) : PCon Try.prog 24 [rd (ksl (kint .i64)) s11, rd (ksl (kint .i64)) s22] (rd kbool r) := by
  refine PCon.of (Con.intro0 Try.func24 rfl Try.ntmps24 rfl fun w H => ?_)
  unfold F24 at h
  refine AW.seq ?_
  refine AW.region ?_
  refine AOps.cons (op_assign (A := rd kbool false) rfl rfl vb) rfl ?_
  refine AOps.nil ?_
  refine AW.seq ?_
  refine AW.seq ?_
  refine AW.region ?_
  refine AOps.cons (op_move (A := rd (ksl (kint .i64)) s11) rfl rfl (vt rfl)) rfl ?_
  refine AOps.cons (op_len' rfl rfl sl29 (vt rfl)) rfl ?_
  refine AOps.cons (op_move (A := rd (ksl (kint .i64)) s22) rfl rfl (vt rfl)) rfl ?_
  refine AOps.cons (op_len' rfl rfl sl29 (vt rfl)) rfl ?_
  refine AOps.cons (op_neq rfl rfl (vt rfl) (vt rfl)) rfl ?_
  refine AOps.nil ?_
  refine AW.cond (vt rfl) (fun hc => ?_) (fun hc => ?_)
  · have h := cond_t hc h
    refine AW.seq ?_
    refine AW.region ?_
    refine AOps.cons (op_assign (A := rd kbool false) rfl rfl vb) rfl ?_
    refine AOps.nil ?_
    refine AW.ret ?_
    obtain rfl := Option.some.inj h
    exact ret1 Try.results24 rfl (out_tmp rfl)
  · have h := cond_f hc h
    refine AW.skip ?_
    refine AW.seq ?_
    refine AW.seq ?_
    refine AW.region ?_
    refine AOps.cons (op_move (A := rd (ksl (kint .i64)) s11) rfl rfl (vt rfl)) rfl ?_
    refine AOps.cons (op_len' rfl rfl sl29 (vt rfl)) rfl ?_
    refine AOps.cons (op_move (A := rd (kint .i64) 0) rfl rfl (vk rfl)) rfl ?_
    refine AOps.nil ?_
    refine AW.block ?_
    refine AW.loopG (d := []) (ν := Nat × Nat) (fun n => Cnt (s11.length : Int) n.2 n.1 ∧ F24_l1 s11 s22 n.1 n.2 = some r) (fun n => n.1) (fun n => [(0, rd (ksl (kint .i64)) s11), (1, rd (ksl (kint .i64)) s22), (12, rd (kint .i64) (s11.length : Int)), (13, rd (kint .i64) (n.2 : Int))]) (fun n => []) (((s11.length : Int) : Int).toNat, 0) ⟨Cnt.start _, h⟩ ⟨rfl, ⟨rfl, rfl, rfl, rfl, trivial⟩, trivial⟩ ?_
    rintro ⟨m4, i3⟩ ⟨hsf1, h⟩
    change Cnt (s11.length : Int) i3 m4 at hsf1
    change F24_l1 s11 s22 m4 i3 = some r at h
    change AW _ _ _ ⟨slots [(0, rd (ksl (kint .i64)) s11), (1, rd (ksl (kint .i64)) s22), (12, rd (kint .i64) (s11.length : Int)), (13, rd (kint .i64) (i3 : Int))], ress [], _⟩
    cases m4 with
    | zero =>
      unfold F24_l1 at h
      refine AW.seq ?_
      refine AW.region ?_
      refine AOps.cons (op_lss rfl rfl (vt rfl) (vt rfl)) rfl ?_
      refine AOps.nil ?_
      refine AW.seq ?_
      refine AW.cond (vt rfl) (fun hc => absurd (of_decide_eq_true hc) hsf1.zero) (fun hc => ?_)
      refine AW.exit ?_
      refine AW.seq ?_
      refine AW.region ?_
      refine AOps.cons (op_assign (A := rd kbool true) rfl rfl vb) rfl ?_
      refine AOps.nil ?_
      refine AW.ret ?_
      obtain rfl := Option.some.inj h
      exact ret1 Try.results24 rfl (out_tmp rfl)
    | succ m4 =>
      unfold F24_l1 at h
      generalize hgo1 : F24_l1 s11 s22 m4 = go1 at h
      refine AW.seq ?_
      refine AW.region ?_
      refine AOps.cons (op_lss rfl rfl (vt rfl) (vt rfl)) rfl ?_
      refine AOps.nil ?_
      refine AW.seq ?_
      refine AW.cond (vt rfl) (fun hc => ?_) (fun hc => absurd hsf1.succ (of_decide_eq_false hc))
      have hlti3 := of_decide_eq_true hc
      refine AW.skip ?_
      refine AW.seq ?_
      refine AW.block ?_
      refine AW.seq ?_
      refine AW.region ?_
      refine AOps.cons (op_move (A := rd (kint .i64) (i3 : Int)) rfl rfl (vt rfl)) rfl ?_
      refine AOps.cons (op_assign (A := rd (kint .i64) (i3 : Int)) rfl rfl (vt rfl)) rfl ?_
      refine AOps.nil ?_
      refine AW.seq ?_
      obtain ⟨e5, he5, h⟩ := bsome h
      obtain ⟨e6, he6, h⟩ := bsome h
      refine AW.regionAny [⟨[0], [16], [], []⟩, ⟨[5], [17], [], []⟩, ⟨[16, 17], [18], [], []⟩, ⟨[18], [19], [], []⟩, ⟨[1], [20], [], []⟩, ⟨[5], [21], [], []⟩, ⟨[20, 21], [22], [], []⟩, ⟨[22], [23], [], []⟩, ⟨[19, 23], [24], [], []⟩] mixed (by kernel_rfl) ?_
      refine SeqA.cons (loc [0] [] rfl rfl fun S hs hr => op_move (A := rd (ksl (kint .i64)) s11) rfl rfl (vt ((hs 0 rfl).trans rfl))) ⟨rfl, rfl, rfl, rfl⟩ ?_
      refine SeqA.cons (loc [5] [] rfl rfl fun S hs hr => op_move (A := rd (kint .i64) (i3 : Int)) rfl rfl (vt ((hs 5 rfl).trans rfl))) ⟨rfl, rfl, rfl, rfl⟩ ?_
      refine SeqA.cons (loc [16, 17] [] rfl rfl fun S hs hr => op_indexs' rfl rfl sl29 (vt ((hs 16 rfl).trans rfl)) (vt ((hs 17 rfl).trans rfl)) he5) ⟨rfl, rfl, rfl, rfl⟩ ?_
      refine SeqA.cons (loc [18] [] rfl rfl fun S hs hr => op_loadp rfl rfl ty3 (vt ((hs 18 rfl).trans rfl))) ⟨rfl, rfl, rfl, rfl⟩ ?_
      refine SeqA.cons (loc [1] [] rfl rfl fun S hs hr => op_move (A := rd (ksl (kint .i64)) s22) rfl rfl (vt ((hs 1 rfl).trans rfl))) ⟨rfl, rfl, rfl, rfl⟩ ?_
      refine SeqA.cons (loc [5] [] rfl rfl fun S hs hr => op_move (A := rd (kint .i64) (i3 : Int)) rfl rfl (vt ((hs 5 rfl).trans rfl))) ⟨rfl, rfl, rfl, rfl⟩ ?_
      refine SeqA.cons (loc [20, 21] [] rfl rfl fun S hs hr => op_indexs' rfl rfl sl29 (vt ((hs 20 rfl).trans rfl)) (vt ((hs 21 rfl).trans rfl)) he6) ⟨rfl, rfl, rfl, rfl⟩ ?_
      refine SeqA.cons (loc [22] [] rfl rfl fun S hs hr => op_loadp rfl rfl ty3 (vt ((hs 22 rfl).trans rfl))) ⟨rfl, rfl, rfl, rfl⟩ ?_
      refine SeqA.cons (loc [19, 23] [] rfl rfl fun S hs hr => op_neq rfl rfl (vt ((hs 19 rfl).trans rfl)) (vt ((hs 23 rfl).trans rfl))) ⟨rfl, rfl, rfl, rfl⟩ ?_
      refine AW.cond (vt rfl) (fun hc => ?_) (fun hc => ?_)
      · have h := cond_t hc h
        refine AW.seq ?_
        refine AW.region ?_
        refine AOps.cons (op_assign (A := rd kbool false) rfl rfl vb) rfl ?_
        refine AOps.nil ?_
        refine AW.ret ?_
        obtain rfl := Option.some.inj h
        exact ret1 Try.results24 rfl (out_tmp rfl)
      · have h := cond_f hc h
        refine AW.skip ?_
        refine AW.region ?_
        refine AOps.cons (op_incr (t := 12) rfl rfl (vt rfl) (vk rfl) (vt rfl) hlti3) rfl ?_
        refine AOps.cons (op_move (A := rd (kint .i64) ((i3 + 1 : Nat) : Int)) rfl rfl (vt rfl)) rfl ?_
        refine AOps.nil ?_
        subst hgo1
        exact ⟨(m4, i3 + 1), Nat.lt_succ_self _, ⟨hsf1.next, h⟩, ⟨rfl, ⟨rfl, rfl, rfl, rfl, trivial⟩, trivial⟩⟩
-- weirbox/weirboxlaw40.awake
def F13 : Option Bool :=
  (F14 [(⟨0, 3, [(⟨0, 2, 0, []⟩ : Bucket)]⟩ : Group), (⟨0, 1, [(⟨0, 0, 0, []⟩ : Bucket), (⟨0, 0, 0, []⟩ : Bucket)]⟩ : Group)]).bind fun x1 => (F16 (⟨5, [2, 9]⟩ : Env) [(⟨0, 3, [(⟨0, 2, 0, []⟩ : Bucket)]⟩ : Group), (⟨0, 1, [(⟨0, 0, 0, []⟩ : Bucket), (⟨0, 0, 0, []⟩ : Bucket)]⟩ : Group)]).bind fun x2 => (opt (decide ((x1.length : Int) = 4)) (F25 [(⟨0, 3, [(⟨0, 2, 0, []⟩ : Bucket)]⟩ : Group), (⟨0, 1, [(⟨0, 0, 0, []⟩ : Bucket), (⟨0, 0, 0, []⟩ : Bucket)]⟩ : Group)])).bind fun x4 => (opt (decide ((x1.length : Int) = 4)) (F24 x4 [2])).bind fun x5 => (opt ((decide ((x1.length : Int) = 4)) && x5) (F27 [(⟨0, 3, [(⟨0, 2, 0, []⟩ : Bucket)]⟩ : Group), (⟨0, 1, [(⟨0, 0, 0, []⟩ : Bucket), (⟨0, 0, 0, []⟩ : Bucket)]⟩ : Group)])).bind fun x6 => (opt ((((decide ((x1.length : Int) = 4)) && x5) && (decide (x6 = 2))) && (decide (x2.Turn = 1))) (F24 x2.Down [2])).bind fun x7 => (opt (((((decide ((x1.length : Int) = 4)) && x5) && (decide (x6 = 2))) && (decide (x2.Turn = 1))) && x7) (F22 [(⟨0, 3, [(⟨0, 2, 0, []⟩ : Bucket)]⟩ : Group), (⟨0, 1, [(⟨0, 0, 0, []⟩ : Bucket), (⟨0, 0, 0, []⟩ : Bucket)]⟩ : Group)])).bind fun x8 => some ((((((decide ((x1.length : Int) = 4)) && x5) && (decide (x6 = 2))) && (decide (x2.Turn = 1))) && x7) && true)
theorem c13 (r : Bool) (h : F13 = some r) : PCon Try.prog 13 [] (rd kbool r) := by
  refine PCon.of (Con.intro0 Try.func13 rfl Try.ntmps13 rfl fun w H => ?_)
  unfold F13 at h
  refine AW.seq ?_
  refine AW.region ?_
  refine AOps.cons (op_assign (A := rd kbool false) rfl rfl vb) rfl ?_
  refine AOps.nil ?_
  refine AW.seq ?_
  refine AW.region ?_
  refine AOps.cons (op_build (ps := [(1, .const (Value.int IntKind.i64 2))]) (x := (⟨0, 2, 0, []⟩ : Bucket)) rfl rfl rfl (by kernel_rfl) zr104 ⟨_, _, lBucket_1, _, by kernel_rfl, (vk rfl), rfl⟩) rfl ?_
  refine AOps.cons (op_buildSliceR (ps := [(0, .tmp 4)]) (l := [(⟨0, 2, 0, []⟩ : Bucket)]) rfl rfl sl38 zr104 rfl rfl ⟨_, _, Lens.idx 1 kBucket 0 (by decide), _, rfl, (vt rfl), rfl⟩ rfl) rfl ?_
  refine AOps.cons (op_build (ps := [(1, .const (Value.int IntKind.i64 3)), (2, .tmp 5)]) (x := (⟨0, 3, [(⟨0, 2, 0, []⟩ : Bucket)]⟩ : Group)) rfl rfl rfl (by kernel_rfl) zr40 ⟨_, _, lGroup_1, _, by kernel_rfl, (vk rfl), _, _, lGroup_2, _, by kernel_rfl, (vt rfl), rfl⟩) rfl ?_
  refine AOps.cons (op_build (ps := []) (x := (⟨0, 0, 0, []⟩ : Bucket)) rfl rfl rfl (by kernel_rfl) zr104 rfl) rfl ?_
  refine AOps.cons (op_build (ps := []) (x := (⟨0, 0, 0, []⟩ : Bucket)) rfl rfl rfl (by kernel_rfl) zr104 rfl) rfl ?_
  refine AOps.cons (op_buildSliceR (ps := [(0, .tmp 7), (1, .tmp 8)]) (l := [(⟨0, 0, 0, []⟩ : Bucket), (⟨0, 0, 0, []⟩ : Bucket)]) rfl rfl sl38 zr104 rfl rfl ⟨_, _, Lens.idx 2 kBucket 0 (by decide), _, rfl, (vt rfl), _, _, Lens.idx 2 kBucket 1 (by decide), _, rfl, (vt rfl), rfl⟩ rfl) rfl ?_
  refine AOps.cons (op_build (ps := [(1, .const (Value.int IntKind.i64 1)), (2, .tmp 9)]) (x := (⟨0, 1, [(⟨0, 0, 0, []⟩ : Bucket), (⟨0, 0, 0, []⟩ : Bucket)]⟩ : Group)) rfl rfl rfl (by kernel_rfl) zr40 ⟨_, _, lGroup_1, _, by kernel_rfl, (vk rfl), _, _, lGroup_2, _, by kernel_rfl, (vt rfl), rfl⟩) rfl ?_
  refine AOps.cons (op_buildSliceR (ps := [(0, .tmp 6), (1, .tmp 10)]) (l := [(⟨0, 3, [(⟨0, 2, 0, []⟩ : Bucket)]⟩ : Group), (⟨0, 1, [(⟨0, 0, 0, []⟩ : Bucket), (⟨0, 0, 0, []⟩ : Bucket)]⟩ : Group)]) rfl rfl sl22 zr40 rfl rfl ⟨_, _, Lens.idx 2 kGroup 0 (by decide), _, rfl, (vt rfl), _, _, Lens.idx 2 kGroup 1 (by decide), _, rfl, (vt rfl), rfl⟩ rfl) rfl ?_
  refine AOps.cons (op_assign (A := rd (ksl kGroup) [(⟨0, 3, [(⟨0, 2, 0, []⟩ : Bucket)]⟩ : Group), (⟨0, 1, [(⟨0, 0, 0, []⟩ : Bucket), (⟨0, 0, 0, []⟩ : Bucket)]⟩ : Group)]) rfl rfl (vt rfl)) rfl ?_
  refine AOps.nil ?_
  refine AW.seq ?_
  obtain ⟨x1, hx1, h⟩ := bsome h
  refine AW.region ?_
  refine AOps.cons (op_move (A := rd (ksl kGroup) [(⟨0, 3, [(⟨0, 2, 0, []⟩ : Bucket)]⟩ : Group), (⟨0, 1, [(⟨0, 0, 0, []⟩ : Bucket), (⟨0, 0, 0, []⟩ : Bucket)]⟩ : Group)]) rfl rfl (vt rfl)) rfl ?_
  refine AOps.cons (op_call (xs := [.tmp 12]) (c14 _ _ hx1) (Ent.mk Try.func14 rfl rfl) rfl rfl ⟨vt rfl, trivial⟩) rfl ?_
  refine AOps.cons (op_assign (A := rd (ksl kEnv) x1) rfl rfl (vt rfl)) rfl ?_
  refine AOps.nil ?_
  refine AW.seq ?_
  obtain ⟨x2, hx2, h⟩ := bsome h
  refine AW.region ?_
  refine AOps.cons (op_buildSliceR (ps := [(0, .const (Value.int IntKind.i64 2)), (1, .const (Value.int IntKind.i64 9))]) (l := [2, 9]) rfl rfl sl29 zr3 rfl rfl ⟨_, _, Lens.idx 2 (kint .i64) 0 (by decide), _, rfl, (vk rfl), _, _, Lens.idx 2 (kint .i64) 1 (by decide), _, rfl, (vk rfl), rfl⟩ rfl) rfl ?_
  refine AOps.cons (op_build (ps := [(0, .const (Value.int IntKind.i64 5)), (1, .tmp 14)]) (x := (⟨5, [2, 9]⟩ : Env)) rfl rfl rfl (by kernel_rfl) zr31 ⟨_, _, lEnv_0, _, by kernel_rfl, (vk rfl), _, _, lEnv_1, _, by kernel_rfl, (vt rfl), rfl⟩) rfl ?_
  refine AOps.cons (op_move (A := rd (ksl kGroup) [(⟨0, 3, [(⟨0, 2, 0, []⟩ : Bucket)]⟩ : Group), (⟨0, 1, [(⟨0, 0, 0, []⟩ : Bucket), (⟨0, 0, 0, []⟩ : Bucket)]⟩ : Group)]) rfl rfl (vt rfl)) rfl ?_
  refine AOps.cons (op_call (xs := [.tmp 15, .tmp 16]) (c16 _ _ _ hx2) (Ent.mk Try.func16 rfl rfl) rfl rfl ⟨vt rfl, vt rfl, trivial⟩) rfl ?_
  refine AOps.consT rfl (op_alloc 4 rfl rfl zr31) ?_
  rintro _ ⟨g3, rfl⟩
  refine AOps.cons (op_store rfl rfl ty31 (vt rfl) (i := 4) rfl (vt rfl)) rfl ?_
  refine AOps.nil ?_
  refine AW.seq ?_
  obtain ⟨x4, hx4, h⟩ := bsome h
  obtain ⟨x5, hx5, h⟩ := bsome h
  obtain ⟨x6, hx6, h⟩ := bsome h
  obtain ⟨x7, hx7, h⟩ := bsome h
  obtain ⟨x8, hx8, h⟩ := bsome h
  refine AW.region ?_
  refine AOps.cons (op_move (A := rd (ksl kEnv) x1) rfl rfl (vt rfl)) rfl ?_
  refine AOps.cons (op_len' rfl rfl sl26 (vt rfl)) rfl ?_
  refine AOps.cons (op_eql rfl rfl (vt rfl) (vk rfl)) rfl ?_
  refine AOps.cons (op_move (A := rd kbool (decide ((x1.length : Int) = 4))) rfl rfl (vt rfl)) rfl ?_
  refine AOps.consG (OpG.guard rfl rfl rfl rfl rfl fun hq => op_move (A := rd (ksl kGroup) [(⟨0, 3, [(⟨0, 2, 0, []⟩ : Bucket)]⟩ : Group), (⟨0, 1, [(⟨0, 0, 0, []⟩ : Bucket), (⟨0, 0, 0, []⟩ : Bucket)]⟩ : Group)]) rfl rfl (vt rfl)) ?_
  refine AOps.consG (OpG.guard rfl rfl rfl rfl rfl fun hq => op_call (xs := [.tmp 22]) (c25 _ _ (opt_t hx4 hq)) (Ent.mk Try.func25 rfl rfl) rfl rfl ⟨vgt rfl hq, trivial⟩) ?_
  refine AOps.consG (OpG.guard rfl rfl rfl rfl rfl fun hq => op_buildSliceR (ps := [(0, .const (Value.int IntKind.i64 2))]) (l := [2]) rfl rfl sl29 zr3 rfl rfl ⟨_, _, Lens.idx 1 (kint .i64) 0 (by decide), _, rfl, (vk rfl), rfl⟩ rfl) ?_
  refine AOps.consG (OpG.guard rfl rfl rfl rfl rfl fun hq => op_call (xs := [.tmp 23, .tmp 24]) (c24 _ _ _ (opt_t hx5 hq)) (Ent.mk Try.func24 rfl rfl) rfl rfl ⟨vgt rfl hq, vgt rfl hq, trivial⟩) ?_
  refine AOps.cons (op_all rfl rfl (vt rfl) (vt rfl)) rfl ?_
  refine AOps.cons (op_move (A := rd kbool ((decide ((x1.length : Int) = 4)) && x5)) rfl rfl (vt rfl)) rfl ?_
  refine AOps.consG (OpG.guard rfl rfl rfl rfl rfl fun hq => op_move (A := rd (ksl kGroup) [(⟨0, 3, [(⟨0, 2, 0, []⟩ : Bucket)]⟩ : Group), (⟨0, 1, [(⟨0, 0, 0, []⟩ : Bucket), (⟨0, 0, 0, []⟩ : Bucket)]⟩ : Group)]) rfl rfl (vt rfl)) ?_
  refine AOps.consG (OpG.guard rfl rfl rfl rfl rfl fun hq => op_call (xs := [.tmp 28]) (c27 _ _ (opt_t hx6 hq)) (Ent.mk Try.func27 rfl rfl) rfl rfl ⟨vgt rfl hq, trivial⟩) ?_
  refine AOps.consG (OpG.guard rfl rfl rfl rfl rfl fun hq => op_eql rfl rfl (vgt rfl hq) (vk rfl)) ?_
  refine AOps.cons (op_all rfl rfl (vt rfl) (vt rfl)) rfl ?_
  refine AOps.cons (op_move (A := rd kbool (((decide ((x1.length : Int) = 4)) && x5) && (decide (x6 = 2)))) rfl rfl (vt rfl)) rfl ?_
  refine AOps.consG (OpG.guard rfl rfl rfl rfl rfl fun hq => op_field lEnv_0 rfl rfl fl31_0 (vt rfl)) ?_
  refine AOps.consG (OpG.guard rfl rfl rfl rfl rfl fun hq => op_load rfl rfl ty3 (vgt rfl hq) (i := 4) rfl) ?_
  refine AOps.consG (OpG.guard rfl rfl rfl rfl rfl fun hq => op_eql rfl rfl (vgt rfl hq) (vk rfl)) ?_
  refine AOps.cons (op_all rfl rfl (vt rfl) (vt rfl)) rfl ?_
  refine AOps.cons (op_move (A := rd kbool ((((decide ((x1.length : Int) = 4)) && x5) && (decide (x6 = 2))) && (decide (x2.Turn = 1)))) rfl rfl (vt rfl)) rfl ?_
  refine AOps.consG (OpG.guard rfl rfl rfl rfl rfl fun hq => op_field lEnv_1 rfl rfl fl31_1 (vt rfl)) ?_
  refine AOps.consG (OpG.guard rfl rfl rfl rfl rfl fun hq => op_load rfl rfl ty29 (vgt rfl hq) (i := 4) rfl) ?_
  refine AOps.consG (OpG.guard rfl rfl rfl rfl rfl fun hq => op_buildSliceR (ps := [(0, .const (Value.int IntKind.i64 2))]) (l := [2]) rfl rfl sl29 zr3 rfl rfl ⟨_, _, Lens.idx 1 (kint .i64) 0 (by decide), _, rfl, (vk rfl), rfl⟩ rfl) ?_
  refine AOps.consG (OpG.guard rfl rfl rfl rfl rfl fun hq => op_call (xs := [.tmp 39, .tmp 40]) (c24 _ _ _ (opt_t hx7 hq)) (Ent.mk Try.func24 rfl rfl) rfl rfl ⟨vgt rfl hq, vgt rfl hq, trivial⟩) ?_
  refine AOps.cons (op_all rfl rfl (vt rfl) (vt rfl)) rfl ?_
  refine AOps.cons (op_move (A := rd kbool (((((decide ((x1.length : Int) = 4)) && x5) && (decide (x6 = 2))) && (decide (x2.Turn = 1))) && x7)) rfl rfl (vt rfl)) rfl ?_
  refine AOps.consG (OpG.guard rfl rfl rfl rfl rfl fun hq => op_move (A := rd (ksl kGroup) [(⟨0, 3, [(⟨0, 2, 0, []⟩ : Bucket)]⟩ : Group), (⟨0, 1, [(⟨0, 0, 0, []⟩ : Bucket), (⟨0, 0, 0, []⟩ : Bucket)]⟩ : Group)]) rfl rfl (vt rfl)) ?_
  refine AOps.consG (OpG.guard rfl rfl rfl rfl rfl fun hq => op_call (xs := [.tmp 44]) (c22 _ _ (opt_t hx8 hq)) (Ent.mk Try.func22 rfl rfl) rfl rfl ⟨vgt rfl hq, trivial⟩) ?_
  refine AOps.consG (OpG.guard rfl rfl rfl rfl rfl fun hq => op_neqseq rfl rfl uf43 (vgt rfl hq)) ?_
  refine AOps.cons (op_all rfl rfl (vt rfl) (vt rfl)) rfl ?_
  refine AOps.cons (op_assign (A := rd kbool ((((((decide ((x1.length : Int) = 4)) && x5) && (decide (x6 = 2))) && (decide (x2.Turn = 1))) && x7) && true)) rfl rfl (vt rfl)) rfl ?_
  refine AOps.nil ?_
  refine AW.ret ?_
  obtain rfl := Option.some.inj h
  exact ret1 Try.results13 rfl (out_tmp rfl)
-- weirbox/weirboxlaw40.same
def F15 (a1 : Env) (b2 : Env) : Option Bool :=
  (opt (decide (a1.Turn = b2.Turn)) (F24 a1.Down b2.Down)).bind fun x5 => some ((decide (a1.Turn = b2.Turn)) && x5)
theorem c15 (a1 : Env) (b2 : Env) (r : Bool) (h : F15 a1 b2 = some r) : PCon Try.prog 15 [rd kEnv a1, rd kEnv b2] (rd kbool r) := by
  refine PCon.of (Con.intro0 Try.func15 rfl Try.ntmps15 rfl fun w H => ?_)
  unfold F15 at h
  refine AW.seq ?_
  refine AW.region ?_
  refine AOps.consT rfl (op_box 3 rfl rfl (vt rfl)) ?_
  rintro _ ⟨g3, rfl⟩
  refine AOps.consT rfl (op_box 4 rfl rfl (vt rfl)) ?_
  rintro _ ⟨g4, rfl⟩
  refine AOps.cons (op_assign (A := rd kbool false) rfl rfl vb) rfl ?_
  refine AOps.nil ?_
  refine AW.seq ?_
  obtain ⟨x5, hx5, h⟩ := bsome h
  refine AW.region ?_
  refine AOps.cons (op_field lEnv_0 rfl rfl fl31_0 (vt rfl)) rfl ?_
  refine AOps.cons (op_load rfl rfl ty3 (vt rfl) (i := 3) rfl) rfl ?_
  refine AOps.cons (op_field lEnv_0 rfl rfl fl31_0 (vt rfl)) rfl ?_
  refine AOps.cons (op_load rfl rfl ty3 (vt rfl) (i := 4) rfl) rfl ?_
  refine AOps.cons (op_eql rfl rfl (vt rfl) (vt rfl)) rfl ?_
  refine AOps.cons (op_move (A := rd kbool (decide (a1.Turn = b2.Turn))) rfl rfl (vt rfl)) rfl ?_
  refine AOps.consG (OpG.guard rfl rfl rfl rfl rfl fun hq => op_field lEnv_1 rfl rfl fl31_1 (vt rfl)) ?_
  refine AOps.consG (OpG.guard rfl rfl rfl rfl rfl fun hq => op_load rfl rfl ty29 (vgt rfl hq) (i := 3) rfl) ?_
  refine AOps.consG (OpG.guard rfl rfl rfl rfl rfl fun hq => op_field lEnv_1 rfl rfl fl31_1 (vt rfl)) ?_
  refine AOps.consG (OpG.guard rfl rfl rfl rfl rfl fun hq => op_load rfl rfl ty29 (vgt rfl hq) (i := 4) rfl) ?_
  refine AOps.consG (OpG.guard rfl rfl rfl rfl rfl fun hq => op_call (xs := [.tmp 12, .tmp 14]) (c24 _ _ _ (opt_t hx5 hq)) (Ent.mk Try.func24 rfl rfl) rfl rfl ⟨vgt rfl hq, vgt rfl hq, trivial⟩) ?_
  refine AOps.cons (op_all rfl rfl (vt rfl) (vt rfl)) rfl ?_
  refine AOps.cons (op_assign (A := rd kbool ((decide (a1.Turn = b2.Turn)) && x5)) rfl rfl (vt rfl)) rfl ?_
  refine AOps.nil ?_
  refine AW.ret ?_
  obtain rfl := Option.some.inj h
  exact ret1 Try.results15 rfl (out_tmp rfl)
-- weirbox/weirboxlaw40.EnvsApart$1
def F18 (n1 : Int) (c2 : (List Env)) (c3 : Int) : Option Bool :=
  (lget c2 c3).bind fun e4 => (F19 e4 n1).bind fun x5 => some x5
theorem c18 (n1 : Int) (c2 : (List Env)) (c3 : Int) (r : Bool) (h : F18 n1 c2 c3 = some r) : PCon Try.prog 18 [rd (kint .i64) n1, rp (ksl kEnv) c2, rp (kint .i64) c3] (rd kbool r) := by
  refine PCon.of (Con.intro0 Try.func18 rfl Try.ntmps18 rfl fun w H => ?_)
  unfold F18 at h
  refine AW.seq ?_
  refine AW.region ?_
  refine AOps.cons (op_assign (A := rd kbool false) rfl rfl vb) rfl ?_
  refine AOps.nil ?_
  refine AW.seq ?_
  obtain ⟨e4, he4, h⟩ := bsome h
  obtain ⟨x5, hx5, h⟩ := bsome h
  refine AW.region ?_
  refine AOps.cons (op_loadp rfl rfl ty26 (vt rfl)) rfl ?_
  refine AOps.cons (op_loadp rfl rfl ty3 (vt rfl)) rfl ?_
  refine AOps.cons (op_indexs' rfl rfl sl26 (vt rfl) (vt rfl) he4) rfl ?_
  refine AOps.cons (op_loadp rfl rfl ty31 (vt rfl)) rfl ?_
  refine AOps.cons (op_move (A := rd (kint .i64) n1) rfl rfl (vt rfl)) rfl ?_
  refine AOps.cons (op_call (xs := [.tmp 8, .tmp 9]) (c19 _ _ _ hx5) (Ent.mk Try.func19 rfl rfl) rfl rfl ⟨vt rfl, vt rfl, trivial⟩) rfl ?_
  refine AOps.cons (op_assign (A := rd kbool x5) rfl rfl (vt rfl)) rfl ?_
  refine AOps.nil ?_
  refine AW.ret ?_
  obtain rfl := Option.some.inj h
  exact ret1 Try.results18 rfl (out_tmp rfl)
-- slices.ContainsFunc[[]int,int]
def F17 (s1 : (List Int)) (f2 : (Int → Option Bool)) : Option Bool :=
  (F67 s1 f2).bind fun x3 => some (decide (x3 ≥ 0))
theorem c17 (s1 : (List Int)) (f2 : (Int → Option Bool)) (r : Bool) (h : F17 s1 f2 = some r) : PCon Try.prog 17 [rd (ksl (kint .i64)) s1, fn1 Try.prog (kint .i64) kbool f2] (rd kbool r) := by
  refine PCon.of (Con.intro0 Try.func17 rfl Try.ntmps17 rfl fun w H => ?_)
  unfold F17 at h
  refine AW.seq ?_
  refine AW.region ?_
  refine AOps.cons (op_assign (A := rd kbool false) rfl rfl vb) rfl ?_
  refine AOps.nil ?_
  refine AW.seq ?_
  obtain ⟨x3, hx3, h⟩ := bsome h
  refine AW.region ?_
  refine AOps.cons (op_move (A := rd (ksl (kint .i64)) s1) rfl rfl (vt rfl)) rfl ?_
  refine AOps.cons (op_move (A := fn1 Try.prog (kint .i64) kbool f2) rfl rfl (vt rfl)) rfl ?_
  refine AOps.cons (op_call (xs := [.tmp 5, .tmp 6]) (c67 _ _ _ hx3) (Ent.mk Try.func67 rfl rfl) rfl rfl ⟨vt rfl, vt rfl, trivial⟩) rfl ?_
  refine AOps.cons (op_geq rfl rfl (vt rfl) (vk rfl)) rfl ?_
  refine AOps.cons (op_assign (A := rd kbool (decide (x3 ≥ 0))) rfl rfl (vt rfl)) rfl ?_
  refine AOps.nil ?_
  refine AW.ret ?_
  obtain rfl := Option.some.inj h
  exact ret1 Try.results17 rfl (out_tmp rfl)
-- weirbox/weirboxlaw40.EnvsApart
def F3 (l1 : (List Group)) (i2 : Int) (j3 : Int) : Option Bool :=
  (F12 l1 8 4).bind fun x4 => (bif (!x4) then (F13).bind fun x5 => some x5 else (F14 l1).bind fun x6 => (bif (decide ((x6.length : Int) = 0)) then some false else (omod (IntKind.i64.wrap i2) (x6.length : Int)).bind fun q8 => (omod (IntKind.i64.wrap j3) (x6.length : Int)).bind fun q9 => (lget x6 q8).bind fun e11 => (lget x6 q9).bind fun e12 => (F15 e11 e12).bind fun x13 => (opt (x13 == (decide (q8 = q9))) (lget x6 q8)).bind fun e14 => (opt (x13 == (decide (q8 = q9))) (F16 e14 l1)).bind fun x15 => (opt (x13 == (decide (q8 = q9))) (lget x6 q8)).bind fun e16 => (opt (x13 == (decide (q8 = q9))) (F15 x15 e16)).bind fun x17 => (opt ((x13 == (decide (q8 = q9))) && x17) (lget x6 q8)).bind fun e18 => (opt ((x13 == (decide (q8 = q9))) && x17) (F17 e18.Down (fun x => F18 x x6 q8))).bind fun x19 => (opt (((x13 == (decide (q8 = q9))) && x17) && (!x19)) (F13)).bind fun x20 => some ((((x13 == (decide (q8 = q9))) && x17) && (!x19)) && x20)))
theorem c3 (l1 : (List Group)) (i2 : Int) (j3 : Int) (r : Bool) (h : F3 l1 i2 j3 = some r) : PCon Try.prog 3 [rd (ksl kGroup) l1, rd (kint .u16) i2, rd (kint .u16) j3] (rd kbool r) := by
  refine PCon.of (Con.intro0 Try.func3 rfl Try.ntmps3 rfl fun w H => ?_)
  unfold F3 at h
  refine AW.seq ?_
  refine AW.region ?_
  refine AOps.cons (op_assign (A := rd kbool false) rfl rfl vb) rfl ?_
  refine AOps.nil ?_
  refine AW.seq ?_
  refine AW.seq ?_
  obtain ⟨x4, hx4, h⟩ := bsome h
  refine AW.region ?_
  refine AOps.cons (op_move (A := rd (ksl kGroup) l1) rfl rfl (vt rfl)) rfl ?_
  refine AOps.cons (op_call (xs := [.tmp 10, .const (Value.int IntKind.i64 8), .const (Value.int IntKind.i64 4)]) (c12 _ _ _ _ hx4) (Ent.mk Try.func12 rfl rfl) rfl rfl ⟨vt rfl, vk rfl, vk rfl, trivial⟩) rfl ?_
  refine AOps.cons (op_not rfl rfl (vt rfl)) rfl ?_
  refine AOps.nil ?_
  refine AW.cond (vt rfl) (fun hc => ?_) (fun hc => ?_)
  · have h := cond_t hc h
    refine AW.seq ?_
    obtain ⟨x5, hx5, h⟩ := bsome h
    refine AW.region ?_
    refine AOps.cons (op_call (xs := []) (c13 _ hx5) (Ent.mk Try.func13 rfl rfl) rfl rfl trivial) rfl ?_
    refine AOps.cons (op_assign (A := rd kbool x5) rfl rfl (vt rfl)) rfl ?_
    refine AOps.nil ?_
    refine AW.ret ?_
    obtain rfl := Option.some.inj h
    exact ret1 Try.results3 rfl (out_tmp rfl)
  · have h := cond_f hc h
    refine AW.skip ?_
    refine AW.seq ?_
    obtain ⟨x6, hx6, h⟩ := bsome h
    refine AW.region ?_
    refine AOps.cons (op_move (A := rd (ksl kGroup) l1) rfl rfl (vt rfl)) rfl ?_
    refine AOps.cons (op_call (xs := [.tmp 14]) (c14 _ _ hx6) (Ent.mk Try.func14 rfl rfl) rfl rfl ⟨vt rfl, trivial⟩) rfl ?_
    refine AOps.consT rfl (op_alloc 8 rfl rfl zr26) ?_
    rintro _ ⟨g7, rfl⟩
    refine AOps.cons (op_store rfl rfl ty26 (vt rfl) (i := 8) rfl (vt rfl)) rfl ?_
    refine AOps.nil ?_
    refine AW.seq ?_
    refine AW.seq ?_
    refine AW.region ?_
    refine AOps.cons (op_load rfl rfl ty26 (vt rfl) (i := 8) rfl) rfl ?_
    refine AOps.cons (op_len' rfl rfl sl26 (vt rfl)) rfl ?_
    refine AOps.cons (op_eql rfl rfl (vt rfl) (vk rfl)) rfl ?_
    refine AOps.nil ?_
    refine AW.cond (vt rfl) (fun hc => ?_) (fun hc => ?_)
    · have h := cond_t hc h
      refine AW.seq ?_
      refine AW.region ?_
      refine AOps.cons (op_assign (A := rd kbool false) rfl rfl vb) rfl ?_
      refine AOps.nil ?_
      refine AW.ret ?_
      obtain rfl := Option.some.inj h
      exact ret1 Try.results3 rfl (out_tmp rfl)
    · have h := cond_f hc h
      refine AW.skip ?_
      refine AW.seq ?_
      obtain ⟨q8, hq8, h⟩ := bsome h
      obtain ⟨q9, hq9, h⟩ := bsome h
      refine AW.regionAny [⟨[1], [19], [], []⟩, ⟨[19], [20], [], []⟩, ⟨[7], [21], [8], []⟩, ⟨[21], [22], [], []⟩, ⟨[20, 22], [23], [], []⟩, ⟨[2], [24], [], []⟩, ⟨[24], [25], [], []⟩, ⟨[7], [26], [8], []⟩, ⟨[26], [27], [], []⟩, ⟨[25, 27], [28], [], []⟩, ⟨[], [8], [], []⟩, ⟨[8, 23], [8], [], []⟩, ⟨[28], [9], [], []⟩] mixed (by kernel_rfl) ?_
      refine SeqA.cons (loc [1] [] rfl rfl fun S hs hr => op_move (A := rd (kint .u16) i2) rfl rfl (vt ((hs 1 rfl).trans rfl))) ⟨rfl, rfl, rfl, rfl⟩ ?_
      refine SeqA.cons (loc [19] [] rfl rfl fun S hs hr => op_conv rfl rfl us23 un3 (vt ((hs 19 rfl).trans rfl))) ⟨rfl, rfl, rfl, rfl⟩ ?_
      refine SeqA.cons (loc [7] [8] rfl rfl fun S hs hr => op_load rfl rfl ty26 (vt ((hs 7 rfl).trans rfl)) (i := 8) ((hr 8 rfl).trans rfl)) ⟨rfl, rfl, rfl, rfl⟩ ?_
      refine SeqA.cons (loc [21] [] rfl rfl fun S hs hr => op_len' rfl rfl sl26 (vt ((hs 21 rfl).trans rfl))) ⟨rfl, rfl, rfl, rfl⟩ ?_
      refine SeqA.cons (loc [20, 22] [] rfl rfl fun S hs hr => op_rem rfl rfl (vt ((hs 20 rfl).trans rfl)) (vt ((hs 22 rfl).trans rfl)) hq8) ⟨rfl, rfl, rfl, rfl⟩ ?_
      refine SeqA.cons (loc [2] [] rfl rfl fun S hs hr => op_move (A := rd (kint .u16) j3) rfl rfl (vt ((hs 2 rfl).trans rfl))) ⟨rfl, rfl, rfl, rfl⟩ ?_
      refine SeqA.cons (loc [24] [] rfl rfl fun S hs hr => op_conv rfl rfl us23 un3 (vt ((hs 24 rfl).trans rfl))) ⟨rfl, rfl, rfl, rfl⟩ ?_
      refine SeqA.cons (loc [7] [8] rfl rfl fun S hs hr => op_load rfl rfl ty26 (vt ((hs 7 rfl).trans rfl)) (i := 8) ((hr 8 rfl).trans rfl)) ⟨rfl, rfl, rfl, rfl⟩ ?_
      refine SeqA.cons (loc [26] [] rfl rfl fun S hs hr => op_len' rfl rfl sl26 (vt ((hs 26 rfl).trans rfl))) ⟨rfl, rfl, rfl, rfl⟩ ?_
      refine SeqA.cons (loc [25, 27] [] rfl rfl fun S hs hr => op_rem rfl rfl (vt ((hs 25 rfl).trans rfl)) (vt ((hs 27 rfl).trans rfl)) hq9) ⟨rfl, rfl, rfl, rfl⟩ ?_
      refine SeqA.cons (locs (us := [(8, ownP 3 (kint .i64) 0)]) (ur := []) [] [] rfl fun S hs hr => op_allocO rfl rfl rfl zr3) ⟨rfl, rfl, rfl, rfl⟩ ?_
      refine SeqA.cons (locs (us := [(8, ownP 3 (kint .i64) q8)]) (ur := []) [8, 23] [] rfl fun S hs hr => op_storeO rfl rfl ty3 ((hs 8 rfl).trans rfl) (vt ((hs 23 rfl).trans rfl))) ⟨rfl, rfl, rfl, rfl⟩ ?_
      refine SeqA.cons (loc [28] [] rfl rfl fun S hs hr => op_assign (A := rd (kint .i64) q9) rfl rfl (vt ((hs 28 rfl).trans rfl))) ⟨rfl, rfl, rfl, rfl⟩ ?_
      refine AW.unpackP 8 9 rfl rfl fun g10 => ?_
      refine AW.seq ?_
      refine AW.freezeB 7 8 rfl rfl rfl ?_
      refine AW.freezeB 8 9 rfl rfl rfl ?_
      obtain ⟨e11, he11, h⟩ := bsome h
      obtain ⟨e12, he12, h⟩ := bsome h
      obtain ⟨x13, hx13, h⟩ := bsome h
      obtain ⟨e14, he14, h⟩ := bsome h
      obtain ⟨x15, hx15, h⟩ := bsome h
      obtain ⟨e16, he16, h⟩ := bsome h
      obtain ⟨x17, hx17, h⟩ := bsome h
      obtain ⟨e18, he18, h⟩ := bsome h
      obtain ⟨x19, hx19, h⟩ := bsome h
      obtain ⟨x20, hx20, h⟩ := bsome h
      refine AW.regionAny [⟨[7], [29], [], []⟩, ⟨[8], [30], [], []⟩, ⟨[29, 30], [31], [], []⟩, ⟨[31], [32], [], []⟩, ⟨[7], [33], [], []⟩, ⟨[9], [34], [], []⟩, ⟨[33, 34], [35], [], []⟩, ⟨[35], [36], [], []⟩, ⟨[32, 36], [37], [], []⟩, ⟨[8], [38], [], []⟩, ⟨[9], [39], [], []⟩, ⟨[38, 39], [40], [], []⟩, ⟨[37, 40], [41], [], []⟩, ⟨[41], [42], [], []⟩, ⟨[7, 42], [43], [], []⟩, ⟨[8, 42], [44], [], []⟩, ⟨[43, 44, 42], [45], [], []⟩, ⟨[45, 42], [46], [], []⟩, ⟨[0, 42], [47], [], []⟩, ⟨[46, 47, 42], [48], [], []⟩, ⟨[7, 42], [49], [], []⟩, ⟨[8, 42], [50], [], []⟩, ⟨[49, 50, 42], [51], [], []⟩, ⟨[51, 42], [52], [], []⟩, ⟨[48, 52, 42], [53], [], []⟩, ⟨[53, 42], [54], [], []⟩, ⟨[54], [55], [], []⟩, ⟨[7, 55], [56], [], []⟩, ⟨[8, 55], [57], [], []⟩, ⟨[56, 57, 55], [58], [], []⟩, ⟨[58, 55], [59], [], []⟩, ⟨[59, 55], [60], [], []⟩, ⟨[7, 8, 55], [61], [], []⟩, ⟨[60, 61, 55], [62], [], []⟩, ⟨[62, 55], [63], [], []⟩, ⟨[63, 55], [64], [], []⟩, ⟨[64], [65], [], []⟩, ⟨[65], [66], [], []⟩, ⟨[66, 65], [67], [], []⟩, ⟨[67], [6], [], []⟩] mixed (by kernel_rfl) ?_
      refine SeqA.cons (loc [7] [] rfl rfl fun S hs hr => op_loadp rfl rfl ty26 (vt ((hs 7 rfl).trans rfl))) ⟨rfl, rfl, rfl, rfl⟩ ?_
      refine SeqA.cons (loc [8] [] rfl rfl fun S hs hr => op_loadp rfl rfl ty3 (vt ((hs 8 rfl).trans rfl))) ⟨rfl, rfl, rfl, rfl⟩ ?_
      refine SeqA.cons (loc [29, 30] [] rfl rfl fun S hs hr => op_indexs' rfl rfl sl26 (vt ((hs 29 rfl).trans rfl)) (vt ((hs 30 rfl).trans rfl)) he11) ⟨rfl, rfl, rfl, rfl⟩ ?_
      refine SeqA.cons (loc [31] [] rfl rfl fun S hs hr => op_loadp rfl rfl ty31 (vt ((hs 31 rfl).trans rfl))) ⟨rfl, rfl, rfl, rfl⟩ ?_
      refine SeqA.cons (loc [7] [] rfl rfl fun S hs hr => op_loadp rfl rfl ty26 (vt ((hs 7 rfl).trans rfl))) ⟨rfl, rfl, rfl, rfl⟩ ?_
      refine SeqA.cons (loc [9] [] rfl rfl fun S hs hr => op_move (A := rd (kint .i64) q9) rfl rfl (vt ((hs 9 rfl).trans rfl))) ⟨rfl, rfl, rfl, rfl⟩ ?_
      refine SeqA.cons (loc [33, 34] [] rfl rfl fun S hs hr => op_indexs' rfl rfl sl26 (vt ((hs 33 rfl).trans rfl)) (vt ((hs 34 rfl).trans rfl)) he12) ⟨rfl, rfl, rfl, rfl⟩ ?_
      refine SeqA.cons (loc [35] [] rfl rfl fun S hs hr => op_loadp rfl rfl ty31 (vt ((hs 35 rfl).trans rfl))) ⟨rfl, rfl, rfl, rfl⟩ ?_
      refine SeqA.cons (loc [32, 36] [] rfl rfl fun S hs hr => op_call (xs := [.tmp 32, .tmp 36]) (c15 _ _ _ hx13) (Ent.mk Try.func15 rfl rfl) rfl rfl ⟨vt ((hs 32 rfl).trans rfl), vt ((hs 36 rfl).trans rfl), trivial⟩) ⟨rfl, rfl, rfl, rfl⟩ ?_
      refine SeqA.cons (loc [8] [] rfl rfl fun S hs hr => op_loadp rfl rfl ty3 (vt ((hs 8 rfl).trans rfl))) ⟨rfl, rfl, rfl, rfl⟩ ?_
      refine SeqA.cons (loc [9] [] rfl rfl fun S hs hr => op_move (A := rd (kint .i64) q9) rfl rfl (vt ((hs 9 rfl).trans rfl))) ⟨rfl, rfl, rfl, rfl⟩ ?_
      refine SeqA.cons (loc [38, 39] [] rfl rfl fun S hs hr => op_eql rfl rfl (vt ((hs 38 rfl).trans rfl)) (vt ((hs 39 rfl).trans rfl))) ⟨rfl, rfl, rfl, rfl⟩ ?_
      refine SeqA.cons (loc [37, 40] [] rfl rfl fun S hs hr => op_eqlb rfl rfl un4 (vt ((hs 37 rfl).trans rfl)) (vt ((hs 40 rfl).trans rfl))) ⟨rfl, rfl, rfl, rfl⟩ ?_
      refine SeqA.cons (loc [41] [] rfl rfl fun S hs hr => op_move (A := rd kbool (x13 == (decide (q8 = q9)))) rfl rfl (vt ((hs 41 rfl).trans rfl))) ⟨rfl, rfl, rfl, rfl⟩ ?_
      refine SeqA.cons (locg [7, 42] [] rfl rfl rfl rfl rfl rfl rfl fun hq S hs hr => op_loadp rfl rfl ty26 (vt ((hs 7 rfl).trans rfl))) ⟨rfl, rfl, rfl, rfl⟩ ?_
      refine SeqA.cons (locg [8, 42] [] rfl rfl rfl rfl rfl rfl rfl fun hq S hs hr => op_loadp rfl rfl ty3 (vt ((hs 8 rfl).trans rfl))) ⟨rfl, rfl, rfl, rfl⟩ ?_
      refine SeqA.cons (locg [43, 44, 42] [] rfl rfl rfl rfl rfl rfl rfl fun hq S hs hr => op_indexs' rfl rfl sl26 (vgt ((hs 43 rfl).trans rfl) hq) (vgt ((hs 44 rfl).trans rfl) hq) (opt_t he14 hq)) ⟨rfl, rfl, rfl, rfl⟩ ?_
      refine SeqA.cons (locg [45, 42] [] rfl rfl rfl rfl rfl rfl rfl fun hq S hs hr => op_loadp rfl rfl ty31 (vgt ((hs 45 rfl).trans rfl) hq)) ⟨rfl, rfl, rfl, rfl⟩ ?_
      refine SeqA.cons (locg [0, 42] [] rfl rfl rfl rfl rfl rfl rfl fun hq S hs hr => op_move (A := rd (ksl kGroup) l1) rfl rfl (vt ((hs 0 rfl).trans rfl))) ⟨rfl, rfl, rfl, rfl⟩ ?_
      refine SeqA.cons (locg [46, 47, 42] [] rfl rfl rfl rfl rfl rfl rfl fun hq S hs hr => op_call (xs := [.tmp 46, .tmp 47]) (c16 _ _ _ (opt_t hx15 hq)) (Ent.mk Try.func16 rfl rfl) rfl rfl ⟨vgt ((hs 46 rfl).trans rfl) hq, vgt ((hs 47 rfl).trans rfl) hq, trivial⟩) ⟨rfl, rfl, rfl, rfl⟩ ?_
      refine SeqA.cons (locg [7, 42] [] rfl rfl rfl rfl rfl rfl rfl fun hq S hs hr => op_loadp rfl rfl ty26 (vt ((hs 7 rfl).trans rfl))) ⟨rfl, rfl, rfl, rfl⟩ ?_
      refine SeqA.cons (locg [8, 42] [] rfl rfl rfl rfl rfl rfl rfl fun hq S hs hr => op_loadp rfl rfl ty3 (vt ((hs 8 rfl).trans rfl))) ⟨rfl, rfl, rfl, rfl⟩ ?_
      refine SeqA.cons (locg [49, 50, 42] [] rfl rfl rfl rfl rfl rfl rfl fun hq S hs hr => op_indexs' rfl rfl sl26 (vgt ((hs 49 rfl).trans rfl) hq) (vgt ((hs 50 rfl).trans rfl) hq) (opt_t he16 hq)) ⟨rfl, rfl, rfl, rfl⟩ ?_
      refine SeqA.cons (locg [51, 42] [] rfl rfl rfl rfl rfl rfl rfl fun hq S hs hr => op_loadp rfl rfl ty31 (vgt ((hs 51 rfl).trans rfl) hq)) ⟨rfl, rfl, rfl, rfl⟩ ?_
      refine SeqA.cons (locg [48, 52, 42] [] rfl rfl rfl rfl rfl rfl rfl fun hq S hs hr => op_call (xs := [.tmp 48, .tmp 52]) (c15 _ _ _ (opt_t hx17 hq)) (Ent.mk Try.func15 rfl rfl) rfl rfl ⟨vgt ((hs 48 rfl).trans rfl) hq, vgt ((hs 52 rfl).trans rfl) hq, trivial⟩) ⟨rfl, rfl, rfl, rfl⟩ ?_
      refine SeqA.cons (loc [53, 42] [] rfl rfl fun S hs hr => op_all rfl rfl (vt ((hs 42 rfl).trans rfl)) (vt ((hs 53 rfl).trans rfl))) ⟨rfl, rfl, rfl, rfl⟩ ?_
      refine SeqA.cons (loc [54] [] rfl rfl fun S hs hr => op_move (A := rd kbool ((x13 == (decide (q8 = q9))) && x17)) rfl rfl (vt ((hs 54 rfl).trans rfl))) ⟨rfl, rfl, rfl, rfl⟩ ?_
      refine SeqA.cons (locg [7, 55] [] rfl rfl rfl rfl rfl rfl rfl fun hq S hs hr => op_loadp rfl rfl ty26 (vt ((hs 7 rfl).trans rfl))) ⟨rfl, rfl, rfl, rfl⟩ ?_
      refine SeqA.cons (locg [8, 55] [] rfl rfl rfl rfl rfl rfl rfl fun hq S hs hr => op_loadp rfl rfl ty3 (vt ((hs 8 rfl).trans rfl))) ⟨rfl, rfl, rfl, rfl⟩ ?_
      refine SeqA.cons (locg [56, 57, 55] [] rfl rfl rfl rfl rfl rfl rfl fun hq S hs hr => op_indexs' rfl rfl sl26 (vgt ((hs 56 rfl).trans rfl) hq) (vgt ((hs 57 rfl).trans rfl) hq) (opt_t he18 hq)) ⟨rfl, rfl, rfl, rfl⟩ ?_
      refine SeqA.cons (locg [58, 55] [] rfl rfl rfl rfl rfl rfl rfl fun hq S hs hr => op_fieldp lEnv_1 rfl rfl fl31_1 (vgt ((hs 58 rfl).trans rfl) hq)) ⟨rfl, rfl, rfl, rfl⟩ ?_
      refine SeqA.cons (locg [59, 55] [] rfl rfl rfl rfl rfl rfl rfl fun hq S hs hr => op_loadp rfl rfl ty29 (vgt ((hs 59 rfl).trans rfl) hq)) ⟨rfl, rfl, rfl, rfl⟩ ?_
      refine SeqA.cons (locg [7, 8, 55] [] rfl rfl rfl rfl rfl rfl rfl fun hq S hs hr => op_fn1 (cs := [.tmp 7, .tmp 8]) (CAs := [rp (ksl kEnv) x6, rp (kint .i64) q8]) (fun x => F18 x x6 q8) rfl rfl (Ent.mk Try.func18 rfl rfl) ⟨vt ((hs 7 rfl).trans rfl), vt ((hs 8 rfl).trans rfl), trivial⟩ (fun x y h => c18 _ _ _ y h)) ⟨rfl, rfl, rfl, rfl⟩ ?_
      refine SeqA.cons (locg [60, 61, 55] [] rfl rfl rfl rfl rfl rfl rfl fun hq S hs hr => op_call (xs := [.tmp 60, .tmp 61]) (c17 _ _ _ (opt_t hx19 hq)) (Ent.mk Try.func17 rfl rfl) rfl rfl ⟨vgt ((hs 60 rfl).trans rfl) hq, vgt ((hs 61 rfl).trans rfl) hq, trivial⟩) ⟨rfl, rfl, rfl, rfl⟩ ?_
      refine SeqA.cons (locg [62, 55] [] rfl rfl rfl rfl rfl rfl rfl fun hq S hs hr => op_not rfl rfl (vgt ((hs 62 rfl).trans rfl) hq)) ⟨rfl, rfl, rfl, rfl⟩ ?_
      refine SeqA.cons (loc [63, 55] [] rfl rfl fun S hs hr => op_all rfl rfl (vt ((hs 55 rfl).trans rfl)) (vt ((hs 63 rfl).trans rfl))) ⟨rfl, rfl, rfl, rfl⟩ ?_
      refine SeqA.cons (loc [64] [] rfl rfl fun S hs hr => op_move (A := rd kbool (((x13 == (decide (q8 = q9))) && x17) && (!x19))) rfl rfl (vt ((hs 64 rfl).trans rfl))) ⟨rfl, rfl, rfl, rfl⟩ ?_
      refine SeqA.cons (locg [65] [] rfl rfl rfl rfl rfl rfl rfl fun hq S hs hr => op_call (xs := []) (c13 _ (opt_t hx20 hq)) (Ent.mk Try.func13 rfl rfl) rfl rfl trivial) ⟨rfl, rfl, rfl, rfl⟩ ?_
      refine SeqA.cons (loc [66, 65] [] rfl rfl fun S hs hr => op_all rfl rfl (vt ((hs 65 rfl).trans rfl)) (vt ((hs 66 rfl).trans rfl))) ⟨rfl, rfl, rfl, rfl⟩ ?_
      refine SeqA.cons (loc [67] [] rfl rfl fun S hs hr => op_assign (A := rd kbool ((((x13 == (decide (q8 = q9))) && x17) && (!x19)) && x20)) rfl rfl (vt ((hs 67 rfl).trans rfl))) ⟨rfl, rfl, rfl, rfl⟩ ?_
      refine AW.ret ?_
      obtain rfl := Option.some.inj h
      exact ret1 Try.results3 rfl (out_tmp rfl)
end Go.Proofs.Ytokmmcflinnfiaa.W
