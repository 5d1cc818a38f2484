/- GbF5: a part of the proof. -/
import Derived.Test.YtokmmcflinnfiabGbF4
set_option linter.unusedVariables false
set_option maxRecDepth 4000
set_option linter.unusedSimpArgs false
namespace Go.Proofs.Ytokmmcflinnfiab.W
open Go Go.Wb
-- weirbox/aset.Write
def F68_l1 : (List Action) → Nat → (List Action) → Option (List Action)
  | [], i9, l7 => some l7
  | x11 :: l10, i9, l7 => (F86 l7 (fun x => F87 x x11)).bind fun x13 => (bif (decide (x13 < 0)) then (appd l7 [x11]).bind fun l14 => (F68_l1 l10) (i9 + 1) l14 else (lget l7 x13).bind fun e16 => (F68_l1 l10) (i9 + 1) (List.set l7 x13.toNat x11))
def F68 (set1 : (List Action)) (l2 : (List Action)) : Option (List Action) :=
  (F80 set1).bind fun x3 => F68_l1 l2 0 x3
theorem c68 (set1 : (List Action)) (l2 : (List Action)) (r : (List Action)) (h : F68 set1 l2 = some r) : PCon Try.prog 68 [rd (ksl kAction) set1, rd (ksl kAction) l2] (rd (ksl kAction) r) := by
  refine PCon.of (Con.intro0 Try.func68 rfl Try.ntmps68 rfl fun w H => ?_)
  unfold F68 at h
  refine AW.seq ?_
  refine AW.region ?_
  refine AOps.cons (op_assign (A := rd (ksl kAction) []) rfl rfl vnil) rfl ?_
  refine AOps.nil ?_
  refine AW.seq ?_
  obtain ⟨x3, hx3, h⟩ := bsome h
  refine AW.region ?_
  refine AOps.cons (op_move (A := rd (ksl kAction) set1) rfl rfl (vt rfl)) rfl ?_
  refine AOps.consT rfl (op_callR 1001 (xs := [.tmp 9]) (c80o _ _ hx3) (Ent.mk Try.func80 rfl rfl) rfl rfl ⟨vt rfl, trivial⟩ rfl) ?_
  rintro _ ⟨v4, rfl⟩
  refine AOps.cons (op_assign (A := raw v4) rfl rfl (vt rfl)) rfl ?_
  refine AOps.nil ?_
  refine AW.seq ?_
  refine AW.seq ?_
  refine AW.region ?_
  refine AOps.cons (op_move (A := rd (ksl kAction) l2) rfl rfl (vt rfl)) rfl ?_
  refine AOps.cons (op_len' rfl rfl sl22 (vt rfl)) rfl ?_
  refine AOps.cons (op_move (A := rd (kint .i64) 0) rfl rfl (vk rfl)) rfl ?_
  refine AOps.nil ?_
  refine AW.block ?_
  refine AW.loopG (d := []) (ν := (List Action) × Nat × (List Action) × Value) (fun n => Sfx l2 n.2.1 n.1 ∧ F68_l1 n.1 n.2.1 n.2.2.1 = some r) (fun n => n.1.length) (fun n => [(5, raw n.2.2.2), (11, rd (ksl kAction) l2), (12, rd (kint .i64) (l2.length : Int)), (13, rd (kint .i64) (n.2.1 : Int))]) (fun n => [(1001, Row n.2.2.2 56 kAction n.2.2.1)]) (l2, 0, x3, v4) ⟨Sfx.start _, h⟩ ⟨rfl, ⟨rfl, rfl, rfl, rfl, trivial⟩, ⟨rfl, trivial⟩⟩ ?_
  rintro ⟨l10, i9, l7, v8⟩ ⟨hsf1, h⟩
  change Sfx l2 i9 l10 at hsf1
  change F68_l1 l10 i9 l7 = some r at h
  change AW _ _ _ ⟨slots [(5, raw v8), (11, rd (ksl kAction) l2), (12, rd (kint .i64) (l2.length : Int)), (13, rd (kint .i64) (i9 : Int))], ress [(1001, Row v8 56 kAction l7)], _⟩
  cases l10 with
  | nil =>
    unfold F68_l1 at h
    refine AW.seq ?_
    refine AW.region ?_
    refine AOps.cons (op_lss rfl rfl (vt rfl) (vt rfl)) rfl ?_
    refine AOps.nil ?_
    refine AW.seq ?_
    refine AW.cond (vt rfl) (fun hc => absurd (of_decide_eq_true hc) hsf1.nil) (fun hc => ?_)
    refine AW.exit ?_
    refine AW.seq ?_
    refine AW.region ?_
    refine AOps.cons (op_move (A := raw v8) rfl rfl (vt rfl)) rfl ?_
    refine AOps.cons (op_assign (A := raw v8) rfl rfl (vt rfl)) rfl ?_
    refine AOps.nil ?_
    refine AW.freezes [4, 5, 31] 1001 rfl ⟨rfl, rfl, rfl, trivial⟩ rfl ?_
    refine AW.ret ?_
    obtain rfl := Option.some.inj h
    exact ret1 Try.results68 rfl (out_tmp rfl)
  | cons x11 l10 =>
    unfold F68_l1 at h
    generalize hgo1 : F68_l1 l10 = go1 at h
    refine AW.seq ?_
    refine AW.region ?_
    refine AOps.cons (op_lss rfl rfl (vt rfl) (vt rfl)) rfl ?_
    refine AOps.nil ?_
    refine AW.seq ?_
    refine AW.cond (vt rfl) (fun hc => ?_) (fun hc => absurd hsf1.cons (of_decide_eq_false hc))
    have hlti9 := of_decide_eq_true hc
    refine AW.skip ?_
    refine AW.seq ?_
    refine AW.block ?_
    refine AW.seq ?_
    refine AW.region ?_
    refine AOps.cons (op_indexs' rfl rfl sl22 (vt rfl) (vt rfl) hsf1.lget) rfl ?_
    refine AOps.cons (op_loadp rfl rfl ty56 (vt rfl)) rfl ?_
    refine AOps.consT rfl (op_alloc 8 rfl rfl zr56) ?_
    rintro _ ⟨g12, rfl⟩
    refine AOps.cons (op_store rfl rfl ty56 (vt rfl) (i := 8) rfl (vt rfl)) rfl ?_
    refine AOps.nil ?_
    refine AW.seq ?_
    refine AW.freezeB 7 8 rfl rfl rfl ?_
    obtain ⟨x13, hx13, h⟩ := bsome h
    refine AW.region ?_
    refine AOps.cons (op_move (A := raw v8) rfl rfl (vt rfl)) rfl ?_
    refine AOps.cons (op_fn1 (cs := [.tmp 7]) (CAs := [rp kAction x11]) (fun x => F87 x x11) rfl rfl (Ent.mk Try.func87 rfl rfl) ⟨vt rfl, trivial⟩ (fun x y h => c87 _ _ y h)) rfl ?_
    refine AOps.cons (op_callB (xs := [.tmp 17, .tmp 18]) 1001 (c86 _ _ _ hx13) (Ent.mk Try.func86 rfl rfl) rfl rfl ⟨vL rfl rfl, vB (vt rfl), trivial⟩) rfl ?_
    refine AOps.cons (op_assign (A := rd (kint .i64) x13) rfl rfl (vt rfl)) rfl ?_
    refine AOps.nil ?_
    refine AW.seq ?_
    refine AW.region ?_
    refine AOps.cons (op_move (A := rd (kint .i64) x13) rfl rfl (vt rfl)) rfl ?_
    refine AOps.cons (op_lss rfl rfl (vt rfl) (vk rfl)) rfl ?_
    refine AOps.nil ?_
    refine AW.cond (vt rfl) (fun hc => ?_) (fun hc => ?_)
    · have h := cond_t hc h
      obtain ⟨l14, hl14, h⟩ := bsome h
      refine AW.region ?_
      refine AOps.cons (op_move (A := raw v8) rfl rfl (vt rfl)) rfl ?_
      refine AOps.cons (op_loadp rfl rfl ty56 (vt rfl)) rfl ?_
      refine AOps.cons (op_buildSliceR (ps := [(0, .tmp 23)]) (l := [x11]) rfl rfl sl22 zr56 rfl rfl ⟨_, _, Lens.idx 1 kAction 0 (by decide), _, rfl, (vt rfl), rfl⟩ rfl) rfl ?_
      refine AOps.consT rfl (op_append' 1001 hl14 rfl rfl el22 (vt rfl) rfl (vt rfl)) ?_
      rintro _ ⟨v15, rfl⟩
      refine AOps.cons (op_assign (A := raw v15) rfl rfl (vt rfl)) rfl ?_
      refine AOps.nil ?_
      refine AW.region ?_
      refine AOps.cons (op_incr (t := 12) rfl rfl (vt rfl) (vk rfl) (vt rfl) hlti9) rfl ?_
      refine AOps.cons (op_move (A := rd (kint .i64) ((i9 + 1 : Nat) : Int)) rfl rfl (vt rfl)) rfl ?_
      refine AOps.nil ?_
      subst hgo1
      exact ⟨(l10, i9 + 1, l14, v15), Nat.lt_succ_self _, ⟨hsf1.next, h⟩, ⟨rfl, ⟨rfl, rfl, rfl, rfl, trivial⟩, ⟨rfl, trivial⟩⟩⟩
    · have h := cond_f hc h
      obtain ⟨e16, he16, h⟩ := bsome h
      refine AW.region ?_
      refine AOps.cons (op_move (A := raw v8) rfl rfl (vt rfl)) rfl ?_
      refine AOps.cons (op_move (A := rd (kint .i64) x13) rfl rfl (vt rfl)) rfl ?_
      refine AOps.cons (op_loadp rfl rfl ty56 (vt rfl)) rfl ?_
      refine AOps.cons (op_indexo' 1001 rfl rfl sl22 (vt rfl) rfl (vt rfl) he16) rfl ?_
      refine AOps.cons (op_storeo' 1001 rfl rfl ty56 (vt rfl) rfl (lget_of he16).2 (vt rfl)) rfl ?_
      refine AOps.nil ?_
      refine AW.region ?_
      refine AOps.cons (op_incr (t := 12) rfl rfl (vt rfl) (vk rfl) (vt rfl) hlti9) rfl ?_
      refine AOps.cons (op_move (A := rd (kint .i64) ((i9 + 1 : Nat) : Int)) rfl rfl (vt rfl)) rfl ?_
      refine AOps.nil ?_
      subst hgo1
      exact ⟨(l10, i9 + 1, (List.set l7 x13.toNat x11), v8), Nat.lt_succ_self _, ⟨hsf1.next, h⟩, ⟨rfl, ⟨rfl, rfl, rfl, rfl, trivial⟩, ⟨rfl, trivial⟩⟩⟩
-- slices.ContainsFunc[[]weirbox/api.Action,weirbox/api.Action]
def F77 (s1 : (List Action)) (f2 : (Action → Option Bool)) : Option Bool :=
  (F86 s1 f2).bind fun x3 => some (decide (x3 ≥ 0))
theorem c77 (s1 : (List Action)) (f2 : (Action → Option Bool)) (r : Bool) (h : F77 s1 f2 = some r) : PCon Try.prog 77 [rd (ksl kAction) s1, fn1 Try.prog kAction kbool f2] (rd kbool r) := by
  refine PCon.of (Con.intro0 Try.func77 rfl Try.ntmps77 rfl fun w H => ?_)
  unfold F77 at h
  refine AW.seq ?_
  refine AW.region ?_
  refine AOps.cons (op_assign (A := rd kbool false) rfl rfl vb) rfl ?_
  refine AOps.nil ?_
  refine AW.seq ?_
  obtain ⟨x3, hx3, h⟩ := bsome h
  refine AW.region ?_
  refine AOps.cons (op_move (A := rd (ksl kAction) s1) rfl rfl (vt rfl)) rfl ?_
  refine AOps.cons (op_move (A := fn1 Try.prog kAction kbool f2) rfl rfl (vt rfl)) rfl ?_
  refine AOps.cons (op_call (xs := [.tmp 5, .tmp 6]) (c86 _ _ _ hx3) (Ent.mk Try.func86 rfl rfl) rfl rfl ⟨vt rfl, vt rfl, trivial⟩) rfl ?_
  refine AOps.cons (op_geq rfl rfl (vt rfl) (vk rfl)) rfl ?_
  refine AOps.cons (op_assign (A := rd kbool (decide (x3 ≥ 0))) rfl rfl (vt rfl)) rfl ?_
  refine AOps.nil ?_
  refine AW.ret ?_
  obtain rfl := Option.some.inj h
  exact ret1 Try.results77 rfl (out_tmp rfl)
-- weirbox/aset.List$1
def F78 (a1 : Action) : Option Bool :=
  some (decide (a1.Kind = 22))
theorem c78 (a1 : Action) (r : Bool) (h : F78 a1 = some r) : PCon Try.prog 78 [rd kAction a1] (rd kbool r) := by
  refine PCon.of (Con.intro0 Try.func78 rfl Try.ntmps78 rfl fun w H => ?_)
  unfold F78 at h
  refine AW.seq ?_
  refine AW.region ?_
  refine AOps.consT rfl (op_box 2 rfl rfl (vt rfl)) ?_
  rintro _ ⟨g2, rfl⟩
  refine AOps.cons (op_assign (A := rd kbool false) rfl rfl vb) rfl ?_
  refine AOps.nil ?_
  refine AW.seq ?_
  refine AW.region ?_
  refine AOps.cons (op_field lAction_0 rfl rfl fl56_0 (vt rfl)) rfl ?_
  refine AOps.cons (op_load rfl rfl ty3 (vt rfl) (i := 2) rfl) rfl ?_
  refine AOps.cons (op_eql rfl rfl (vt rfl) (vk rfl)) rfl ?_
  refine AOps.cons (op_assign (A := rd kbool (decide (a1.Kind = 22))) rfl rfl (vt rfl)) rfl ?_
  refine AOps.nil ?_
  refine AW.ret ?_
  obtain rfl := Option.some.inj h
  exact ret1 Try.results78 rfl (out_tmp rfl)
-- weirbox/aset.turn
def F82 (kind1 : Int) : Option Int :=
  (F95 [18, 17, 25, 22, 0] kind1).bind fun x2 => some x2
theorem c82 (kind1 : Int) (r : Int) (h : F82 kind1 = some r) : PCon Try.prog 82 [rd (kint .i64) kind1] (rd (kint .i64) r) := by
  refine PCon.of (Con.intro0 Try.func82 rfl Try.ntmps82 rfl fun w H => ?_)
  unfold F82 at h
  refine AW.seq ?_
  refine AW.region ?_
  refine AOps.cons (op_assign (A := rd (kint .i64) 0) rfl rfl (vk rfl)) rfl ?_
  refine AOps.nil ?_
  refine AW.seq ?_
  obtain ⟨x2, hx2, h⟩ := bsome h
  refine AW.region ?_
  refine AOps.cons (op_buildSliceR (ps := [(0, .const (Value.int IntKind.i64 18)), (1, .const (Value.int IntKind.i64 17)), (2, .const (Value.int IntKind.i64 25)), (3, .const (Value.int IntKind.i64 22)), (4, .const (Value.int IntKind.i64 0))]) (l := [18, 17, 25, 22, 0]) rfl rfl sl39 zr3 rfl rfl ⟨_, _, Lens.idx 5 (kint .i64) 0 (by decide), _, rfl, (vk rfl), _, _, Lens.idx 5 (kint .i64) 1 (by decide), _, rfl, (vk rfl), _, _, Lens.idx 5 (kint .i64) 2 (by decide), _, rfl, (vk rfl), _, _, Lens.idx 5 (kint .i64) 3 (by decide), _, rfl, (vk rfl), _, _, Lens.idx 5 (kint .i64) 4 (by decide), _, rfl, (vk rfl), rfl⟩ rfl) rfl ?_
  refine AOps.cons (op_move (A := rd (kint .i64) kind1) rfl rfl (vt rfl)) rfl ?_
  refine AOps.cons (op_call (xs := [.tmp 3, .tmp 4]) (c95 _ _ _ hx2) (Ent.mk Try.func95 rfl rfl) rfl rfl ⟨vt rfl, vt rfl, trivial⟩) rfl ?_
  refine AOps.cons (op_assign (A := rd (kint .i64) x2) rfl rfl (vt rfl)) rfl ?_
  refine AOps.nil ?_
  refine AW.ret ?_
  obtain rfl := Option.some.inj h
  exact ret1 Try.results82 rfl (out_tmp rfl)
-- weirbox/aset.List$2
def F81 (a1 : Action) (c2 : Bool) : Option Bool :=
  (F82 a1.Kind).bind fun x4 => some ((decide (x4 < 0)) || (c2 && (decide (a1.Kind = 0))))
theorem c81 (a1 : Action) (c2 : Bool) (r : Bool) (h : F81 a1 c2 = some r) : PCon Try.prog 81 [rd kAction a1, rp kbool c2] (rd kbool r) := by
  refine PCon.of (Con.intro0 Try.func81 rfl Try.ntmps81 rfl fun w H => ?_)
  unfold F81 at h
  refine AW.seq ?_
  refine AW.region ?_
  refine AOps.consT rfl (op_box 3 rfl rfl (vt rfl)) ?_
  rintro _ ⟨g3, rfl⟩
  refine AOps.cons (op_assign (A := rd kbool false) rfl rfl vb) rfl ?_
  refine AOps.nil ?_
  refine AW.seq ?_
  obtain ⟨x4, hx4, h⟩ := bsome h
  refine AW.region ?_
  refine AOps.cons (op_field lAction_0 rfl rfl fl56_0 (vt rfl)) rfl ?_
  refine AOps.cons (op_load rfl rfl ty3 (vt rfl) (i := 3) rfl) rfl ?_
  refine AOps.cons (op_call (xs := [.tmp 5]) (c82 _ _ hx4) (Ent.mk Try.func82 rfl rfl) rfl rfl ⟨vt rfl, trivial⟩) rfl ?_
  refine AOps.cons (op_lss rfl rfl (vt rfl) (vk rfl)) rfl ?_
  refine AOps.cons (op_move (A := rd kbool (decide (x4 < 0))) rfl rfl (vt rfl)) rfl ?_
  refine AOps.consG (OpG.guard rfl rfl rfl rfl rfl fun hq => op_loadp rfl rfl ty4 (vt rfl)) ?_
  refine AOps.consG (OpG.guardX rfl rfl rfl rfl rfl fun hq => op_move (A := rd kbool c2) rfl rfl (vgt rfl hq)) ?_
  refine AOps.consG (OpG.guardN rfl rfl rfl rfl rfl fun hq => op_field lAction_0 rfl rfl fl56_0 (vt rfl)) ?_
  refine AOps.consG (OpG.guardN rfl rfl rfl rfl rfl fun hq => op_load rfl rfl ty3 (vgt rfl hq) (i := 3) rfl) ?_
  refine AOps.consG (OpG.guardN rfl rfl rfl rfl rfl fun hq => op_eql rfl rfl (vgt rfl hq) (vk rfl)) ?_
  refine AOps.consG (OpG.guard rfl rfl rfl rfl rfl fun hq => op_all rfl rfl (vgx rfl hq) (vgw rfl hq)) ?_
  refine AOps.cons (op_any rfl rfl (vt rfl) (vt rfl)) rfl ?_
  refine AOps.cons (op_assign (A := rd kbool ((decide (x4 < 0)) || (c2 && (decide (a1.Kind = 0))))) rfl rfl (vt rfl)) rfl ?_
  refine AOps.nil ?_
  refine AW.ret ?_
  obtain rfl := Option.some.inj h
  exact ret1 Try.results81 rfl (out_tmp rfl)
-- slices.DeleteFunc[[]weirbox/api.Action,weirbox/api.Action]
def F79_l1 (del3 : (Action → Option Bool)) : Nat → (List Action) → Int → Int → Option (List Action)
  | 0, _, _, _ => none
  | m11 + 1, l8, i9, j10 => (bif (decide (j10 < (l8.length : Int))) then (lget l8 j10).bind fun e12 => (del3 e12).bind fun x14 => (bif (!x14) then (lget l8 i9).bind fun e15 => (F79_l1 del3 m11) (List.set l8 i9.toNat e12) (IntKind.i64.wrap (i9 + 1)) (IntKind.i64.wrap (j10 + 1)) else (F79_l1 del3 m11) l8 i9 (IntKind.i64.wrap (j10 + 1))) else (odrop l8 i9).bind fun s16 => (otake (List.take i9.toNat l8 ++ List.replicate (l8.length - i9.toNat) zAction) i9).bind fun s17 => some s17)
def F79 (s1 : (List Action)) (del3 : (Action → Option Bool)) : Option (List Action) :=
  (F86 s1 del3).bind fun x4 => (bif (decide (x4 = (-1))) then some s1 else F79_l1 del3 ((((s1.length : Int) : Int) - (IntKind.i64.wrap (x4 + 1))).toNat + 1) s1 x4 (IntKind.i64.wrap (x4 + 1)))
theorem c79o (v2 : Value) (s1 : (List Action)) (del3 : (Action → Option Bool)) (r : (List Action)) (h : F79 s1 del3 = some r) : Con Try.prog 79 [raw v2, fn1 Try.prog kAction kbool del3] (Row v2 56 kAction s1) (fun v => raw v) (fun v => Row v 56 kAction r) := by
  refine Con.intro Try.func79 rfl Try.ntmps79 rfl fun w H X => ?_
  unfold F79 at h
  refine AW.seq ?_
  refine AW.newnil 1001 56 kAction ?_
  refine AW.region ?_
  refine AOps.cons (op_assign rfl rfl vc) rfl ?_
  refine AOps.nil ?_
  refine AW.seq ?_
  obtain ⟨x4, hx4, h⟩ := bsome h
  refine AW.region ?_
  refine AOps.cons (op_move (A := raw v2) rfl rfl (vt rfl)) rfl ?_
  refine AOps.cons (op_move (A := fn1 Try.prog kAction kbool del3) rfl rfl (vt rfl)) rfl ?_
  refine AOps.cons (op_callB (xs := [.tmp 8, .tmp 9]) 0 (c86 _ _ _ hx4) (Ent.mk Try.func86 rfl rfl) rfl rfl ⟨vL rfl rfl, vB (vt rfl), trivial⟩) rfl ?_
  refine AOps.cons (op_assign (A := rd (kint .i64) x4) rfl rfl (vt rfl)) rfl ?_
  refine AOps.nil ?_
  refine AW.seq ?_
  refine AW.seq ?_
  refine AW.region ?_
  refine AOps.cons (op_move (A := rd (kint .i64) x4) rfl rfl (vt rfl)) rfl ?_
  refine AOps.cons (op_eql rfl rfl (vt rfl) (vk rfl)) rfl ?_
  refine AOps.nil ?_
  refine AW.cond (vt rfl) (fun hc => ?_) (fun hc => ?_)
  · have h := cond_t hc h
    refine AW.seq ?_
    refine AW.region ?_
    refine AOps.cons (op_move (A := raw v2) rfl rfl (vt rfl)) rfl ?_
    refine AOps.cons (op_assign (A := raw v2) rfl rfl (vt rfl)) rfl ?_
    refine AOps.nil ?_
    refine AW.ret ?_
    obtain rfl := Option.some.inj h
    exact ret1R (i := 0) Try.results79 rfl rfl rfl
  · have h := cond_f hc h
    refine AW.skip ?_
    refine AW.seq ?_
    refine AW.seq ?_
    refine AW.region ?_
    refine AOps.cons (op_move (A := rd (kint .i64) x4) rfl rfl (vt rfl)) rfl ?_
    refine AOps.cons (op_add rfl rfl (vt rfl) (vk rfl)) rfl ?_
    refine AOps.cons (op_assign (A := rd (kint .i64) (IntKind.i64.wrap (x4 + 1))) rfl rfl (vt rfl)) rfl ?_
    refine AOps.nil ?_
    refine AW.block ?_
    refine AW.loopG (d := []) (ν := Nat × (List Action) × Int × Int) (fun n => True ∧ F79_l1 del3 n.1 n.2.1 n.2.2.1 n.2.2.2 = some r) (fun n => n.1) (fun n => [(0, raw v2), (1, fn1 Try.prog kAction kbool del3), (5, rd (kint .i64) n.2.2.1), (6, rd (kint .i64) n.2.2.2)]) (fun n => [(0, Row v2 56 kAction n.2.1)]) (((((s1.length : Int) : Int) - (IntKind.i64.wrap (x4 + 1))).toNat + 1), s1, x4, (IntKind.i64.wrap (x4 + 1))) ⟨trivial, h⟩ ⟨rfl, ⟨rfl, rfl, rfl, rfl, trivial⟩, ⟨rfl, trivial⟩⟩ ?_
    rintro ⟨m11, l8, i9, j10⟩ ⟨hsf1, h⟩
    change True at hsf1
    change F79_l1 del3 m11 l8 i9 j10 = some r at h
    change AW _ _ _ ⟨slots [(0, raw v2), (1, fn1 Try.prog kAction kbool del3), (5, rd (kint .i64) i9), (6, rd (kint .i64) j10)], ress [(0, Row v2 56 kAction l8)], _⟩
    cases m11 with
    | zero => cases h
    | succ m11 =>
      unfold F79_l1 at h
      generalize hgo1 : F79_l1 del3 m11 = go1 at h
      refine AW.seq ?_
      refine AW.seq ?_
      refine AW.region ?_
      refine AOps.cons (op_move (A := rd (kint .i64) j10) rfl rfl (vt rfl)) rfl ?_
      refine AOps.cons (op_move (A := raw v2) rfl rfl (vt rfl)) rfl ?_
      refine AOps.cons (op_leno 0 rfl rfl sl22 (vt rfl) rfl) rfl ?_
      refine AOps.cons (op_lss rfl rfl (vt rfl) (vt rfl)) rfl ?_
      refine AOps.nil ?_
      refine AW.cond (vt rfl) (fun hc => ?_) (fun hc => ?_)
      · have h := cond_t hc h
        refine AW.skip ?_
        refine AW.seq ?_
        refine AW.block ?_
        refine AW.seq ?_
        obtain ⟨e12, he12, h⟩ := bsome h
        refine AW.region ?_
        refine AOps.cons (op_move (A := raw v2) rfl rfl (vt rfl)) rfl ?_
        refine AOps.cons (op_move (A := rd (kint .i64) j10) rfl rfl (vt rfl)) rfl ?_
        refine AOps.cons (op_indexo' 0 rfl rfl sl22 (vt rfl) rfl (vt rfl) he12) rfl ?_
        refine AOps.cons (op_loado' 0 rfl rfl ty56 (vt rfl) rfl (lget_of he12).2) rfl ?_
        refine AOps.consT rfl (op_alloc 8 rfl rfl zr56) ?_
        rintro _ ⟨g13, rfl⟩
        refine AOps.cons (op_store rfl rfl ty56 (vt rfl) (i := 8) rfl (vt rfl)) rfl ?_
        refine AOps.nil ?_
        refine AW.seq ?_
        obtain ⟨x14, hx14, h⟩ := bsome h
        refine AW.region ?_
        refine AOps.cons (op_move (A := fn1 Try.prog kAction kbool del3) rfl rfl (vt rfl)) rfl ?_
        refine AOps.cons (op_load rfl rfl ty56 (vt rfl) (i := 8) rfl) rfl ?_
        refine AOps.cons (op_call1 hx14 rfl rfl (vt rfl) (vt rfl)) rfl ?_
        refine AOps.cons (op_not rfl rfl (vt rfl)) rfl ?_
        refine AOps.nil ?_
        refine AW.cond (vt rfl) (fun hc => ?_) (fun hc => ?_)
        · have h := cond_t hc h
          refine AW.seq ?_
          obtain ⟨e15, he15, h⟩ := bsome h
          refine AW.region ?_
          refine AOps.cons (op_move (A := raw v2) rfl rfl (vt rfl)) rfl ?_
          refine AOps.cons (op_move (A := rd (kint .i64) i9) rfl rfl (vt rfl)) rfl ?_
          refine AOps.cons (op_load rfl rfl ty56 (vt rfl) (i := 8) rfl) rfl ?_
          refine AOps.cons (op_indexo' 0 rfl rfl sl22 (vt rfl) rfl (vt rfl) he15) rfl ?_
          refine AOps.cons (op_storeo' 0 rfl rfl ty56 (vt rfl) rfl (lget_of he15).2 (vt rfl)) rfl ?_
          refine AOps.nil ?_
          refine AW.region ?_
          refine AOps.cons (op_move (A := rd (kint .i64) i9) rfl rfl (vt rfl)) rfl ?_
          refine AOps.cons (op_add rfl rfl (vt rfl) (vk rfl)) rfl ?_
          refine AOps.cons (op_assign (A := rd (kint .i64) (IntKind.i64.wrap (i9 + 1))) rfl rfl (vt rfl)) rfl ?_
          refine AOps.nil ?_
          refine AW.region ?_
          refine AOps.cons (op_move (A := rd (kint .i64) j10) rfl rfl (vt rfl)) rfl ?_
          refine AOps.cons (op_add rfl rfl (vt rfl) (vk rfl)) rfl ?_
          refine AOps.cons (op_assign (A := rd (kint .i64) (IntKind.i64.wrap (j10 + 1))) rfl rfl (vt rfl)) rfl ?_
          refine AOps.nil ?_
          subst hgo1
          exact ⟨(m11, (List.set l8 i9.toNat e12), (IntKind.i64.wrap (i9 + 1)), (IntKind.i64.wrap (j10 + 1))), Nat.lt_succ_self _, ⟨trivial, h⟩, ⟨rfl, ⟨rfl, rfl, rfl, rfl, trivial⟩, ⟨rfl, trivial⟩⟩⟩
        · have h := cond_f hc h
          refine AW.skip ?_
          refine AW.region ?_
          refine AOps.cons (op_move (A := rd (kint .i64) j10) rfl rfl (vt rfl)) rfl ?_
          refine AOps.cons (op_add rfl rfl (vt rfl) (vk rfl)) rfl ?_
          refine AOps.cons (op_assign (A := rd (kint .i64) (IntKind.i64.wrap (j10 + 1))) rfl rfl (vt rfl)) rfl ?_
          refine AOps.nil ?_
          subst hgo1
          exact ⟨(m11, l8, i9, (IntKind.i64.wrap (j10 + 1))), Nat.lt_succ_self _, ⟨trivial, h⟩, ⟨rfl, ⟨rfl, rfl, rfl, rfl, trivial⟩, ⟨rfl, trivial⟩⟩⟩
      · have h := cond_f hc h
        refine AW.exit ?_
        refine AW.seq ?_
        obtain ⟨s16, hs16, h⟩ := bsome h
        refine AW.region ?_
        refine AOps.cons (op_move (A := raw v2) rfl rfl (vt rfl)) rfl ?_
        refine AOps.cons (op_move (A := rd (kint .i64) i9) rfl rfl (vt rfl)) rfl ?_
        refine AOps.cons (op_sliceo_l 0 hs16 rfl rfl sl22 (vt rfl) rfl (vt rfl)) rfl ?_
        refine AOps.cons (op_clearo 0 rfl rfl sl22 zr56 rfl (vt rfl) rfl (odrop_of hs16).2.1) rfl ?_
        refine AOps.nil ?_
        refine AW.seq ?_
        obtain ⟨s17, hs17, h⟩ := bsome h
        refine AW.region ?_
        refine AOps.cons (op_move (A := raw v2) rfl rfl (vt rfl)) rfl ?_
        refine AOps.cons (op_move (A := rd (kint .i64) i9) rfl rfl (vt rfl)) rfl ?_
        refine AOps.consT rfl (op_sliceo_h 0 hs17 rfl rfl sl22 (vt rfl) rfl (vt rfl)) ?_
        rintro _ ⟨v18, rfl⟩
        refine AOps.cons (op_assign (A := raw v18) rfl rfl (vt rfl)) rfl ?_
        refine AOps.nil ?_
        refine AW.ret ?_
        obtain rfl := Option.some.inj h
        exact ret1R (i := 0) Try.results79 rfl rfl rfl
-- slices.insertionSortCmpFunc[weirbox/api.Action]
def F100_l2 (a3 : Int) (cmp5 : (Action → Action → Option Int)) (go1 : (List Action) → Int → Option (List Action)) (i9 : Int) : Nat → (List Action) → Int → Option (List Action)
  | 0, _, _ => none
  | m15 + 1, l13, j14 => (opt (decide (j14 > a3)) (lget l13 j14)).bind fun e16 => (opt (decide (j14 > a3)) (lget l13 (IntKind.i64.wrap (j14 - 1)))).bind fun e17 => (opt (decide (j14 > a3)) (cmp5 e16 e17)).bind fun x18 => (bif ((decide (j14 > a3)) && (decide (x18 < 0))) then (lget l13 (IntKind.i64.wrap (j14 - 1))).bind fun e19 => (lget l13 j14).bind fun e20 => (lget l13 j14).bind fun e21 => (lget (List.set l13 j14.toNat e19) (IntKind.i64.wrap (j14 - 1))).bind fun e22 => (F100_l2 a3 cmp5 go1 i9 m15) (List.set (List.set l13 j14.toNat e19) (IntKind.i64.wrap (j14 - 1)).toNat e20) (IntKind.i64.wrap (j14 - 1)) else go1 l13 (IntKind.i64.wrap (i9 + 1)))
def F100_l1 (b4 : Int) (a3 : Int) (cmp5 : (Action → Action → Option Int)) : Nat → (List Action) → Int → Option (List Action)
  | 0, _, _ => none
  | m10 + 1, l8, i9 => (bif (decide (i9 < b4)) then F100_l2 a3 cmp5 (F100_l1 b4 a3 cmp5 m10) i9 fuel0 l8 i9 else some l8)
def F100 (data1 : (List Action)) (a3 : Int) (b4 : Int) (cmp5 : (Action → Action → Option Int)) : Option (List Action) :=
  F100_l1 b4 a3 cmp5 (((b4 : Int) - (IntKind.i64.wrap (a3 + 1))).toNat + 1) data1 (IntKind.i64.wrap (a3 + 1))
theorem c100o (v2 : Value) (data1 : (List Action)) (a3 : Int) (b4 : Int) (cmp5 : (Action → Action → Option Int)) (r : (List Action)) (h : F100 data1 a3 b4 cmp5 = some r) : Con Try.prog 100 [raw v2, rd (kint .i64) a3, rd (kint .i64) b4, fn2 Try.prog kAction kAction (kint .i64) cmp5] (Row v2 56 kAction data1) (fun _ : Unit => top) (fun _ => Row v2 56 kAction r) := by
  refine Con.intro Try.func100 rfl Try.ntmps100 rfl fun w H X => ?_
  unfold F100 at h
  refine AW.seq ?_
  refine AW.region ?_
  refine AOps.cons (op_move (A := rd (kint .i64) a3) rfl rfl (vt rfl)) rfl ?_
  refine AOps.cons (op_add rfl rfl (vt rfl) (vk rfl)) rfl ?_
  refine AOps.cons (op_assign (A := rd (kint .i64) (IntKind.i64.wrap (a3 + 1))) rfl rfl (vt rfl)) rfl ?_
  refine AOps.nil ?_
  refine AW.block ?_
  refine AW.loopG (d := []) (ν := Nat × (List Action) × Int) (fun n => True ∧ F100_l1 b4 a3 cmp5 n.1 n.2.1 n.2.2 = some r) (fun n => n.1) (fun n => [(0, raw v2), (1, rd (kint .i64) a3), (2, rd (kint .i64) b4), (3, fn2 Try.prog kAction kAction (kint .i64) cmp5), (8, rd (kint .i64) n.2.2)]) (fun n => [(0, Row v2 56 kAction n.2.1)]) ((((b4 : Int) - (IntKind.i64.wrap (a3 + 1))).toNat + 1), data1, (IntKind.i64.wrap (a3 + 1))) ⟨trivial, h⟩ ⟨rfl, ⟨rfl, rfl, rfl, rfl, rfl, trivial⟩, ⟨rfl, trivial⟩⟩ ?_
  rintro ⟨m10, l8, i9⟩ ⟨hsf1, h⟩
  change True at hsf1
  change F100_l1 b4 a3 cmp5 m10 l8 i9 = some r at h
  change AW _ _ _ ⟨slots [(0, raw v2), (1, rd (kint .i64) a3), (2, rd (kint .i64) b4), (3, fn2 Try.prog kAction kAction (kint .i64) cmp5), (8, rd (kint .i64) i9)], ress [(0, Row v2 56 kAction l8)], _⟩
  cases m10 with
  | zero => cases h
  | succ m10 =>
    unfold F100_l1 at h
    generalize hgo1 : F100_l1 b4 a3 cmp5 m10 = go1 at h
    refine AW.seq ?_
    refine AW.seq ?_
    refine AW.region ?_
    refine AOps.cons (op_move (A := rd (kint .i64) i9) rfl rfl (vt rfl)) rfl ?_
    refine AOps.cons (op_move (A := rd (kint .i64) b4) rfl rfl (vt rfl)) rfl ?_
    refine AOps.cons (op_lss rfl rfl (vt rfl) (vt rfl)) rfl ?_
    refine AOps.nil ?_
    refine AW.cond (vt rfl) (fun hc => ?_) (fun hc => ?_)
    · have h := cond_t hc h
      refine AW.skip ?_
      refine AW.seq ?_
      refine AW.block ?_
      refine AW.seq ?_
      refine AW.region ?_
      refine AOps.cons (op_move (A := rd (kint .i64) i9) rfl rfl (vt rfl)) rfl ?_
      refine AOps.cons (op_assign (A := rd (kint .i64) i9) rfl rfl (vt rfl)) rfl ?_
      refine AOps.nil ?_
      refine AW.block ?_
      refine AW.loopG (d := []) (ν := Nat × (List Action) × Int) (fun n => True ∧ F100_l2 a3 cmp5 go1 i9 n.1 n.2.1 n.2.2 = some r) (fun n => n.1) (fun n => [(0, raw v2), (1, rd (kint .i64) a3), (2, rd (kint .i64) b4), (3, fn2 Try.prog kAction kAction (kint .i64) cmp5), (8, rd (kint .i64) i9), (9, rd (kint .i64) n.2.2)]) (fun n => [(0, Row v2 56 kAction n.2.1)]) (fuel0, l8, i9) ⟨trivial, h⟩ ⟨rfl, ⟨rfl, rfl, rfl, rfl, rfl, rfl, trivial⟩, ⟨rfl, trivial⟩⟩ ?_
      rintro ⟨m15, l13, j14⟩ ⟨hsf2, h⟩
      change True at hsf2
      change F100_l2 a3 cmp5 go1 i9 m15 l13 j14 = some r at h
      change AW _ _ _ ⟨slots [(0, raw v2), (1, rd (kint .i64) a3), (2, rd (kint .i64) b4), (3, fn2 Try.prog kAction kAction (kint .i64) cmp5), (8, rd (kint .i64) i9), (9, rd (kint .i64) j14)], ress [(0, Row v2 56 kAction l13)], _⟩
      cases m15 with
      | zero => cases h
      | succ m15 =>
        unfold F100_l2 at h
        generalize hgo2 : F100_l2 a3 cmp5 go1 i9 m15 = go2 at h
        refine AW.seq ?_
        refine AW.seq ?_
        obtain ⟨e16, he16, h⟩ := bsome h
        obtain ⟨e17, he17, h⟩ := bsome h
        obtain ⟨x18, hx18, h⟩ := bsome h
        refine AW.regionAny [⟨[9], [18], [], []⟩, ⟨[1], [19], [], []⟩, ⟨[18, 19], [20], [], []⟩, ⟨[20], [21], [], []⟩, ⟨[3, 21], [22], [], []⟩, ⟨[0, 21], [23], [], []⟩, ⟨[9, 21], [24], [], []⟩, ⟨[23, 24, 21], [25], [0], []⟩, ⟨[25, 21], [26], [0], []⟩, ⟨[0, 21], [27], [], []⟩, ⟨[9, 21], [28], [], []⟩, ⟨[28, 21], [29], [], []⟩, ⟨[27, 29, 21], [30], [0], []⟩, ⟨[30, 21], [31], [0], []⟩, ⟨[22, 26, 31, 21], [32], [], []⟩, ⟨[32, 21], [33], [], []⟩, ⟨[33, 21], [34], [], []⟩] mixed (by kernel_rfl) ?_
        refine SeqA.cons (loc [9] [] rfl rfl fun S hs hr => op_move (A := rd (kint .i64) j14) rfl rfl (vt ((hs 9 rfl).trans rfl))) ⟨rfl, rfl, rfl, rfl⟩ ?_
        refine SeqA.cons (loc [1] [] rfl rfl fun S hs hr => op_move (A := rd (kint .i64) a3) rfl rfl (vt ((hs 1 rfl).trans rfl))) ⟨rfl, rfl, rfl, rfl⟩ ?_
        refine SeqA.cons (loc [18, 19] [] rfl rfl fun S hs hr => op_gtr rfl rfl (vt ((hs 18 rfl).trans rfl)) (vt ((hs 19 rfl).trans rfl))) ⟨rfl, rfl, rfl, rfl⟩ ?_
        refine SeqA.cons (loc [20] [] rfl rfl fun S hs hr => op_move (A := rd kbool (decide (j14 > a3))) rfl rfl (vt ((hs 20 rfl).trans rfl))) ⟨rfl, rfl, rfl, rfl⟩ ?_
        refine SeqA.cons (locg [3, 21] [] rfl rfl rfl rfl rfl rfl rfl fun hq S hs hr => op_move (A := fn2 Try.prog kAction kAction (kint .i64) cmp5) rfl rfl (vt ((hs 3 rfl).trans rfl))) ⟨rfl, rfl, rfl, rfl⟩ ?_
        refine SeqA.cons (locg [0, 21] [] rfl rfl rfl rfl rfl rfl rfl fun hq S hs hr => op_move (A := raw v2) rfl rfl (vt ((hs 0 rfl).trans rfl))) ⟨rfl, rfl, rfl, rfl⟩ ?_
        refine SeqA.cons (locg [9, 21] [] rfl rfl rfl rfl rfl rfl rfl fun hq S hs hr => op_move (A := rd (kint .i64) j14) rfl rfl (vt ((hs 9 rfl).trans rfl))) ⟨rfl, rfl, rfl, rfl⟩ ?_
        refine SeqA.cons (locg [23, 24, 21] [0] rfl rfl rfl rfl rfl rfl rfl fun hq S hs hr => op_indexo' 0 rfl rfl sl22 (vgt ((hs 23 rfl).trans rfl) hq) ((hr 0 rfl).trans rfl) (vgt ((hs 24 rfl).trans rfl) hq) (opt_t he16 hq)) ⟨rfl, rfl, rfl, rfl⟩ ?_
        refine SeqA.cons (locg [25, 21] [0] rfl rfl rfl rfl rfl rfl rfl fun hq S hs hr => op_loado' 0 rfl rfl ty56 (vgt ((hs 25 rfl).trans rfl) hq) ((hr 0 rfl).trans rfl) (lget_of (opt_t he16 hq)).2) ⟨rfl, rfl, rfl, rfl⟩ ?_
        refine SeqA.cons (locg [0, 21] [] rfl rfl rfl rfl rfl rfl rfl fun hq S hs hr => op_move (A := raw v2) rfl rfl (vt ((hs 0 rfl).trans rfl))) ⟨rfl, rfl, rfl, rfl⟩ ?_
        refine SeqA.cons (locg [9, 21] [] rfl rfl rfl rfl rfl rfl rfl fun hq S hs hr => op_move (A := rd (kint .i64) j14) rfl rfl (vt ((hs 9 rfl).trans rfl))) ⟨rfl, rfl, rfl, rfl⟩ ?_
        refine SeqA.cons (locg [28, 21] [] rfl rfl rfl rfl rfl rfl rfl fun hq S hs hr => op_sub rfl rfl (vgt ((hs 28 rfl).trans rfl) hq) (vk rfl)) ⟨rfl, rfl, rfl, rfl⟩ ?_
        refine SeqA.cons (locg [27, 29, 21] [0] rfl rfl rfl rfl rfl rfl rfl fun hq S hs hr => op_indexo' 0 rfl rfl sl22 (vgt ((hs 27 rfl).trans rfl) hq) ((hr 0 rfl).trans rfl) (vgt ((hs 29 rfl).trans rfl) hq) (opt_t he17 hq)) ⟨rfl, rfl, rfl, rfl⟩ ?_
        refine SeqA.cons (locg [30, 21] [0] rfl rfl rfl rfl rfl rfl rfl fun hq S hs hr => op_loado' 0 rfl rfl ty56 (vgt ((hs 30 rfl).trans rfl) hq) ((hr 0 rfl).trans rfl) (lget_of (opt_t he17 hq)).2) ⟨rfl, rfl, rfl, rfl⟩ ?_
        refine SeqA.cons (locg [22, 26, 31, 21] [] rfl rfl rfl rfl rfl rfl rfl fun hq S hs hr => op_call2 (opt_t hx18 hq) rfl rfl (vgt ((hs 22 rfl).trans rfl) hq) (vgt ((hs 26 rfl).trans rfl) hq) (vgt ((hs 31 rfl).trans rfl) hq)) ⟨rfl, rfl, rfl, rfl⟩ ?_
        refine SeqA.cons (locg [32, 21] [] rfl rfl rfl rfl rfl rfl rfl fun hq S hs hr => op_lss rfl rfl (vgt ((hs 32 rfl).trans rfl) hq) (vk rfl)) ⟨rfl, rfl, rfl, rfl⟩ ?_
        refine SeqA.cons (loc [33, 21] [] rfl rfl fun S hs hr => op_all rfl rfl (vt ((hs 21 rfl).trans rfl)) (vt ((hs 33 rfl).trans rfl))) ⟨rfl, rfl, rfl, rfl⟩ ?_
        refine AW.cond (vt rfl) (fun hc => ?_) (fun hc => ?_)
        · have h := cond_t hc h
          refine AW.skip ?_
          refine AW.seq ?_
          refine AW.block ?_
          refine AW.vlen 0 rfl fun hvl0_273 => ?_
          obtain ⟨e19, he19, h⟩ := bsome h
          obtain ⟨e20, he20, h⟩ := bsome h
          obtain ⟨e21, he21, h⟩ := bsome h
          obtain ⟨e22, he22, h⟩ := bsome h
          refine AW.regionAny [⟨[0], [37], [], []⟩, ⟨[9], [38], [], []⟩, ⟨[0], [39], [], []⟩, ⟨[9], [40], [], []⟩, ⟨[40], [41], [], []⟩, ⟨[0], [42], [], []⟩, ⟨[9], [43], [], []⟩, ⟨[43], [44], [], []⟩, ⟨[42, 44], [45], [], []⟩, ⟨[45], [46], [0], []⟩, ⟨[0], [47], [], []⟩, ⟨[9], [48], [], []⟩, ⟨[47, 48], [49], [], []⟩, ⟨[49], [50], [0], []⟩, ⟨[37, 38], [51], [], []⟩, ⟨[51, 46], [], [0], [0]⟩, ⟨[39, 41], [52], [], []⟩, ⟨[52, 50], [], [0], [0]⟩] mixed (by kernel_rfl) ?_
          refine SeqA.cons (loc [0] [] rfl rfl fun S hs hr => op_move (A := raw v2) rfl rfl (vt ((hs 0 rfl).trans rfl))) ⟨rfl, rfl, rfl, rfl⟩ ?_
          refine SeqA.cons (loc [9] [] rfl rfl fun S hs hr => op_move (A := rd (kint .i64) j14) rfl rfl (vt ((hs 9 rfl).trans rfl))) ⟨rfl, rfl, rfl, rfl⟩ ?_
          refine SeqA.cons (loc [0] [] rfl rfl fun S hs hr => op_move (A := raw v2) rfl rfl (vt ((hs 0 rfl).trans rfl))) ⟨rfl, rfl, rfl, rfl⟩ ?_
          refine SeqA.cons (loc [9] [] rfl rfl fun S hs hr => op_move (A := rd (kint .i64) j14) rfl rfl (vt ((hs 9 rfl).trans rfl))) ⟨rfl, rfl, rfl, rfl⟩ ?_
          refine SeqA.cons (loc [40] [] rfl rfl fun S hs hr => op_sub rfl rfl (vt ((hs 40 rfl).trans rfl)) (vk rfl)) ⟨rfl, rfl, rfl, rfl⟩ ?_
          refine SeqA.cons (loc [0] [] rfl rfl fun S hs hr => op_move (A := raw v2) rfl rfl (vt ((hs 0 rfl).trans rfl))) ⟨rfl, rfl, rfl, rfl⟩ ?_
          refine SeqA.cons (loc [9] [] rfl rfl fun S hs hr => op_move (A := rd (kint .i64) j14) rfl rfl (vt ((hs 9 rfl).trans rfl))) ⟨rfl, rfl, rfl, rfl⟩ ?_
          refine SeqA.cons (loc [43] [] rfl rfl fun S hs hr => op_sub rfl rfl (vt ((hs 43 rfl).trans rfl)) (vk rfl)) ⟨rfl, rfl, rfl, rfl⟩ ?_
          refine SeqA.cons (loc [42, 44] [] rfl rfl fun S hs hr => op_indexoP (l := l13) hvl0_273 rfl rfl rfl sl22 (vt ((hs 42 rfl).trans rfl)) (vt ((hs 44 rfl).trans rfl)) he19) ⟨rfl, rfl, rfl, rfl⟩ ?_
          refine SeqA.cons (loc [45] [0] rfl rfl fun S hs hr => op_loado' 0 rfl rfl ty56 (vt ((hs 45 rfl).trans rfl)) ((hr 0 rfl).trans rfl) (lget_of he19).2) ⟨rfl, rfl, rfl, rfl⟩ ?_
          refine SeqA.cons (loc [0] [] rfl rfl fun S hs hr => op_move (A := raw v2) rfl rfl (vt ((hs 0 rfl).trans rfl))) ⟨rfl, rfl, rfl, rfl⟩ ?_
          refine SeqA.cons (loc [9] [] rfl rfl fun S hs hr => op_move (A := rd (kint .i64) j14) rfl rfl (vt ((hs 9 rfl).trans rfl))) ⟨rfl, rfl, rfl, rfl⟩ ?_
          refine SeqA.cons (loc [47, 48] [] rfl rfl fun S hs hr => op_indexoP (l := l13) hvl0_273 rfl rfl rfl sl22 (vt ((hs 47 rfl).trans rfl)) (vt ((hs 48 rfl).trans rfl)) he20) ⟨rfl, rfl, rfl, rfl⟩ ?_
          refine SeqA.cons (loc [49] [0] rfl rfl fun S hs hr => op_loado' 0 rfl rfl ty56 (vt ((hs 49 rfl).trans rfl)) ((hr 0 rfl).trans rfl) (lget_of he20).2) ⟨rfl, rfl, rfl, rfl⟩ ?_
          refine SeqA.cons (loc [37, 38] [] rfl rfl fun S hs hr => op_indexoP (l := l13) hvl0_273 rfl rfl rfl sl22 (vt ((hs 37 rfl).trans rfl)) (vt ((hs 38 rfl).trans rfl)) he21) ⟨rfl, rfl, rfl, rfl⟩ ?_
          refine SeqA.cons (locr [51, 46] [0] rfl fun S hs hr => op_storeo' 0 rfl rfl ty56 (vt ((hs 51 rfl).trans rfl)) ((hr 0 rfl).trans rfl) (lget_of he21).2 (vt ((hs 46 rfl).trans rfl))) ⟨rfl, rfl, rfl, rfl⟩ ?_
          refine SeqA.cons (loc [39, 41] [] rfl rfl fun S hs hr => op_indexoP (l := (List.set l13 j14.toNat e19)) hvl0_273 (by simp) rfl rfl sl22 (vt ((hs 39 rfl).trans rfl)) (vt ((hs 41 rfl).trans rfl)) he22) ⟨rfl, rfl, rfl, rfl⟩ ?_
          refine SeqA.cons (locr [52, 50] [0] rfl fun S hs hr => op_storeo' 0 rfl rfl ty56 (vt ((hs 52 rfl).trans rfl)) ((hr 0 rfl).trans rfl) (lget_of he22).2 (vt ((hs 50 rfl).trans rfl))) ⟨rfl, rfl, rfl, rfl⟩ ?_
          refine AW.region ?_
          refine AOps.cons (op_move (A := rd (kint .i64) j14) rfl rfl (vt rfl)) rfl ?_
          refine AOps.cons (op_sub rfl rfl (vt rfl) (vk rfl)) rfl ?_
          refine AOps.cons (op_assign (A := rd (kint .i64) (IntKind.i64.wrap (j14 - 1))) rfl rfl (vt rfl)) rfl ?_
          refine AOps.nil ?_
          subst hgo2
          exact ⟨(m15, (List.set (List.set l13 j14.toNat e19) (IntKind.i64.wrap (j14 - 1)).toNat e20), (IntKind.i64.wrap (j14 - 1))), Nat.lt_succ_self _, ⟨trivial, h⟩, ⟨rfl, ⟨rfl, rfl, rfl, rfl, rfl, rfl, trivial⟩, ⟨rfl, trivial⟩⟩⟩
        · have h := cond_f hc h
          refine AW.exit ?_
          refine AW.region ?_
          refine AOps.cons (op_move (A := rd (kint .i64) i9) rfl rfl (vt rfl)) rfl ?_
          refine AOps.cons (op_add rfl rfl (vt rfl) (vk rfl)) rfl ?_
          refine AOps.cons (op_assign (A := rd (kint .i64) (IntKind.i64.wrap (i9 + 1))) rfl rfl (vt rfl)) rfl ?_
          refine AOps.nil ?_
          subst hgo1
          exact ⟨(m10, l13, (IntKind.i64.wrap (i9 + 1))), Nat.lt_succ_self _, ⟨trivial, h⟩, ⟨rfl, ⟨rfl, rfl, rfl, rfl, rfl, trivial⟩, ⟨rfl, trivial⟩⟩⟩
    · have h := cond_f hc h
      refine AW.exit ?_
      obtain rfl := Option.some.inj h
      exact ret0Y (i := 0) Try.results100 rfl rfl
-- slices.swapRangeCmpFunc[weirbox/api.Action]
def F103_l1 (n5 : Int) (b4 : Int) (a3 : Int) : Nat → (List Action) → Int → Option (List Action)
  | 0, _, _ => none
  | m11 + 1, l9, i10 => (bif (decide (i10 < n5)) then (lget l9 (IntKind.i64.wrap (b4 + i10))).bind fun e12 => (lget l9 (IntKind.i64.wrap (a3 + i10))).bind fun e13 => (lget l9 (IntKind.i64.wrap (a3 + i10))).bind fun e14 => (lget (List.set l9 (IntKind.i64.wrap (a3 + i10)).toNat e12) (IntKind.i64.wrap (b4 + i10))).bind fun e15 => (F103_l1 n5 b4 a3 m11) (List.set (List.set l9 (IntKind.i64.wrap (a3 + i10)).toNat e12) (IntKind.i64.wrap (b4 + i10)).toNat e13) (IntKind.i64.wrap (i10 + 1)) else some l9)
def F103 (data1 : (List Action)) (a3 : Int) (b4 : Int) (n5 : Int) (cmp6 : (Action → Action → Option Int)) : Option (List Action) :=
  F103_l1 n5 b4 a3 (((n5 : Int) - 0).toNat + 1) data1 0
theorem c103o (v2 : Value) (data1 : (List Action)) (a3 : Int) (b4 : Int) (n5 : Int) (cmp6 : (Action → Action → Option Int)) (r : (List Action)) (h : F103 data1 a3 b4 n5 cmp6 = some r) : Con Try.prog 103 [raw v2, rd (kint .i64) a3, rd (kint .i64) b4, rd (kint .i64) n5, fn2 Try.prog kAction kAction (kint .i64) cmp6] (Row v2 56 kAction data1) (fun _ : Unit => top) (fun _ => Row v2 56 kAction r) := by
  refine Con.intro Try.func103 rfl Try.ntmps103 rfl fun w H X => ?_
  unfold F103 at h
  refine AW.seq ?_
  refine AW.region ?_
  refine AOps.cons (op_assign (A := rd (kint .i64) 0) rfl rfl (vk rfl)) rfl ?_
  refine AOps.nil ?_
  refine AW.block ?_
  refine AW.loopG (d := []) (ν := Nat × (List Action) × Int) (fun n => True ∧ F103_l1 n5 b4 a3 n.1 n.2.1 n.2.2 = some r) (fun n => n.1) (fun n => [(0, raw v2), (1, rd (kint .i64) a3), (2, rd (kint .i64) b4), (3, rd (kint .i64) n5), (10, rd (kint .i64) n.2.2)]) (fun n => [(0, Row v2 56 kAction n.2.1)]) ((((n5 : Int) - 0).toNat + 1), data1, 0) ⟨trivial, h⟩ ⟨rfl, ⟨rfl, rfl, rfl, rfl, rfl, trivial⟩, ⟨rfl, trivial⟩⟩ ?_
  rintro ⟨m11, l9, i10⟩ ⟨hsf1, h⟩
  change True at hsf1
  change F103_l1 n5 b4 a3 m11 l9 i10 = some r at h
  change AW _ _ _ ⟨slots [(0, raw v2), (1, rd (kint .i64) a3), (2, rd (kint .i64) b4), (3, rd (kint .i64) n5), (10, rd (kint .i64) i10)], ress [(0, Row v2 56 kAction l9)], _⟩
  cases m11 with
  | zero => cases h
  | succ m11 =>
    unfold F103_l1 at h
    generalize hgo1 : F103_l1 n5 b4 a3 m11 = go1 at h
    refine AW.seq ?_
    refine AW.seq ?_
    refine AW.region ?_
    refine AOps.cons (op_move (A := rd (kint .i64) i10) rfl rfl (vt rfl)) rfl ?_
    refine AOps.cons (op_move (A := rd (kint .i64) n5) rfl rfl (vt rfl)) rfl ?_
    refine AOps.cons (op_lss rfl rfl (vt rfl) (vt rfl)) rfl ?_
    refine AOps.nil ?_
    refine AW.cond (vt rfl) (fun hc => ?_) (fun hc => ?_)
    · have h := cond_t hc h
      refine AW.skip ?_
      refine AW.seq ?_
      refine AW.block ?_
      refine AW.vlen 0 rfl fun hvl0_127 => ?_
      obtain ⟨e12, he12, h⟩ := bsome h
      obtain ⟨e13, he13, h⟩ := bsome h
      obtain ⟨e14, he14, h⟩ := bsome h
      obtain ⟨e15, he15, h⟩ := bsome h
      refine AW.regionAny [⟨[0], [16], [], []⟩, ⟨[1], [17], [], []⟩, ⟨[10], [18], [], []⟩, ⟨[17, 18], [19], [], []⟩, ⟨[0], [20], [], []⟩, ⟨[2], [21], [], []⟩, ⟨[10], [22], [], []⟩, ⟨[21, 22], [23], [], []⟩, ⟨[0], [24], [], []⟩, ⟨[2], [25], [], []⟩, ⟨[10], [26], [], []⟩, ⟨[25, 26], [27], [], []⟩, ⟨[24, 27], [28], [], []⟩, ⟨[28], [29], [0], []⟩, ⟨[0], [30], [], []⟩, ⟨[1], [31], [], []⟩, ⟨[10], [32], [], []⟩, ⟨[31, 32], [33], [], []⟩, ⟨[30, 33], [34], [], []⟩, ⟨[34], [35], [0], []⟩, ⟨[16, 19], [36], [], []⟩, ⟨[36, 29], [], [0], [0]⟩, ⟨[20, 23], [37], [], []⟩, ⟨[37, 35], [], [0], [0]⟩] mixed (by kernel_rfl) ?_
      refine SeqA.cons (loc [0] [] rfl rfl fun S hs hr => op_move (A := raw v2) rfl rfl (vt ((hs 0 rfl).trans rfl))) ⟨rfl, rfl, rfl, rfl⟩ ?_
      refine SeqA.cons (loc [1] [] rfl rfl fun S hs hr => op_move (A := rd (kint .i64) a3) rfl rfl (vt ((hs 1 rfl).trans rfl))) ⟨rfl, rfl, rfl, rfl⟩ ?_
      refine SeqA.cons (loc [10] [] rfl rfl fun S hs hr => op_move (A := rd (kint .i64) i10) rfl rfl (vt ((hs 10 rfl).trans rfl))) ⟨rfl, rfl, rfl, rfl⟩ ?_
      refine SeqA.cons (loc [17, 18] [] rfl rfl fun S hs hr => op_add rfl rfl (vt ((hs 17 rfl).trans rfl)) (vt ((hs 18 rfl).trans rfl))) ⟨rfl, rfl, rfl, rfl⟩ ?_
      refine SeqA.cons (loc [0] [] rfl rfl fun S hs hr => op_move (A := raw v2) rfl rfl (vt ((hs 0 rfl).trans rfl))) ⟨rfl, rfl, rfl, rfl⟩ ?_
      refine SeqA.cons (loc [2] [] rfl rfl fun S hs hr => op_move (A := rd (kint .i64) b4) rfl rfl (vt ((hs 2 rfl).trans rfl))) ⟨rfl, rfl, rfl, rfl⟩ ?_
      refine SeqA.cons (loc [10] [] rfl rfl fun S hs hr => op_move (A := rd (kint .i64) i10) rfl rfl (vt ((hs 10 rfl).trans rfl))) ⟨rfl, rfl, rfl, rfl⟩ ?_
      refine SeqA.cons (loc [21, 22] [] rfl rfl fun S hs hr => op_add rfl rfl (vt ((hs 21 rfl).trans rfl)) (vt ((hs 22 rfl).trans rfl))) ⟨rfl, rfl, rfl, rfl⟩ ?_
      refine SeqA.cons (loc [0] [] rfl rfl fun S hs hr => op_move (A := raw v2) rfl rfl (vt ((hs 0 rfl).trans rfl))) ⟨rfl, rfl, rfl, rfl⟩ ?_
      refine SeqA.cons (loc [2] [] rfl rfl fun S hs hr => op_move (A := rd (kint .i64) b4) rfl rfl (vt ((hs 2 rfl).trans rfl))) ⟨rfl, rfl, rfl, rfl⟩ ?_
      refine SeqA.cons (loc [10] [] rfl rfl fun S hs hr => op_move (A := rd (kint .i64) i10) rfl rfl (vt ((hs 10 rfl).trans rfl))) ⟨rfl, rfl, rfl, rfl⟩ ?_
      refine SeqA.cons (loc [25, 26] [] rfl rfl fun S hs hr => op_add rfl rfl (vt ((hs 25 rfl).trans rfl)) (vt ((hs 26 rfl).trans rfl))) ⟨rfl, rfl, rfl, rfl⟩ ?_
      refine SeqA.cons (loc [24, 27] [] rfl rfl fun S hs hr => op_indexoP (l := l9) hvl0_127 rfl rfl rfl sl22 (vt ((hs 24 rfl).trans rfl)) (vt ((hs 27 rfl).trans rfl)) he12) ⟨rfl, rfl, rfl, rfl⟩ ?_
      refine SeqA.cons (loc [28] [0] rfl rfl fun S hs hr => op_loado' 0 rfl rfl ty56 (vt ((hs 28 rfl).trans rfl)) ((hr 0 rfl).trans rfl) (lget_of he12).2) ⟨rfl, rfl, rfl, rfl⟩ ?_
      refine SeqA.cons (loc [0] [] rfl rfl fun S hs hr => op_move (A := raw v2) rfl rfl (vt ((hs 0 rfl).trans rfl))) ⟨rfl, rfl, rfl, rfl⟩ ?_
      refine SeqA.cons (loc [1] [] rfl rfl fun S hs hr => op_move (A := rd (kint .i64) a3) rfl rfl (vt ((hs 1 rfl).trans rfl))) ⟨rfl, rfl, rfl, rfl⟩ ?_
      refine SeqA.cons (loc [10] [] rfl rfl fun S hs hr => op_move (A := rd (kint .i64) i10) rfl rfl (vt ((hs 10 rfl).trans rfl))) ⟨rfl, rfl, rfl, rfl⟩ ?_
      refine SeqA.cons (loc [31, 32] [] rfl rfl fun S hs hr => op_add rfl rfl (vt ((hs 31 rfl).trans rfl)) (vt ((hs 32 rfl).trans rfl))) ⟨rfl, rfl, rfl, rfl⟩ ?_
      refine SeqA.cons (loc [30, 33] [] rfl rfl fun S hs hr => op_indexoP (l := l9) hvl0_127 rfl rfl rfl sl22 (vt ((hs 30 rfl).trans rfl)) (vt ((hs 33 rfl).trans rfl)) he13) ⟨rfl, rfl, rfl, rfl⟩ ?_
      refine SeqA.cons (loc [34] [0] rfl rfl fun S hs hr => op_loado' 0 rfl rfl ty56 (vt ((hs 34 rfl).trans rfl)) ((hr 0 rfl).trans rfl) (lget_of he13).2) ⟨rfl, rfl, rfl, rfl⟩ ?_
      refine SeqA.cons (loc [16, 19] [] rfl rfl fun S hs hr => op_indexoP (l := l9) hvl0_127 rfl rfl rfl sl22 (vt ((hs 16 rfl).trans rfl)) (vt ((hs 19 rfl).trans rfl)) he14) ⟨rfl, rfl, rfl, rfl⟩ ?_
      refine SeqA.cons (locr [36, 29] [0] rfl fun S hs hr => op_storeo' 0 rfl rfl ty56 (vt ((hs 36 rfl).trans rfl)) ((hr 0 rfl).trans rfl) (lget_of he14).2 (vt ((hs 29 rfl).trans rfl))) ⟨rfl, rfl, rfl, rfl⟩ ?_
      refine SeqA.cons (loc [20, 23] [] rfl rfl fun S hs hr => op_indexoP (l := (List.set l9 (IntKind.i64.wrap (a3 + i10)).toNat e12)) hvl0_127 (by simp) rfl rfl sl22 (vt ((hs 20 rfl).trans rfl)) (vt ((hs 23 rfl).trans rfl)) he15) ⟨rfl, rfl, rfl, rfl⟩ ?_
      refine SeqA.cons (locr [37, 35] [0] rfl fun S hs hr => op_storeo' 0 rfl rfl ty56 (vt ((hs 37 rfl).trans rfl)) ((hr 0 rfl).trans rfl) (lget_of he15).2 (vt ((hs 35 rfl).trans rfl))) ⟨rfl, rfl, rfl, rfl⟩ ?_
      refine AW.region ?_
      refine AOps.cons (op_move (A := rd (kint .i64) i10) rfl rfl (vt rfl)) rfl ?_
      refine AOps.cons (op_add rfl rfl (vt rfl) (vk rfl)) rfl ?_
      refine AOps.cons (op_assign (A := rd (kint .i64) (IntKind.i64.wrap (i10 + 1))) rfl rfl (vt rfl)) rfl ?_
      refine AOps.nil ?_
      subst hgo1
      exact ⟨(m11, (List.set (List.set l9 (IntKind.i64.wrap (a3 + i10)).toNat e12) (IntKind.i64.wrap (b4 + i10)).toNat e13), (IntKind.i64.wrap (i10 + 1))), Nat.lt_succ_self _, ⟨trivial, h⟩, ⟨rfl, ⟨rfl, rfl, rfl, rfl, rfl, trivial⟩, ⟨rfl, trivial⟩⟩⟩
    · have h := cond_f hc h
      refine AW.exit ?_
      obtain rfl := Option.some.inj h
      exact ret0Y (i := 0) Try.results103 rfl rfl
-- slices.rotateCmpFunc[weirbox/api.Action]
def F102_l1 (m4 : Int) (cmp6 : (Action → Action → Option Int)) : Nat → (List Action) → Int → Int → Option (List Action)
  | 0, _, _, _ => none
  | m13 + 1, l10, i11, j12 => (bif (decide (i11 ≠ j12)) then (bif (decide (i11 > j12)) then (F103 l10 (IntKind.i64.wrap (m4 - i11)) m4 j12 cmp6).bind fun l14 => (F102_l1 m4 cmp6 m13) l14 (IntKind.i64.wrap (i11 - j12)) j12 else (F103 l10 (IntKind.i64.wrap (m4 - i11)) (IntKind.i64.wrap ((IntKind.i64.wrap (m4 + j12)) - i11)) i11 cmp6).bind fun l15 => (F102_l1 m4 cmp6 m13) l15 i11 (IntKind.i64.wrap (j12 - i11))) else (F103 l10 (IntKind.i64.wrap (m4 - i11)) m4 i11 cmp6).bind fun l16 => some l16)
def F102 (data1 : (List Action)) (a3 : Int) (m4 : Int) (b5 : Int) (cmp6 : (Action → Action → Option Int)) : Option (List Action) :=
  F102_l1 m4 cmp6 ((((IntKind.i64.wrap (b5 - m4)) : Int) - (IntKind.i64.wrap (m4 - a3))).toNat + 1) data1 (IntKind.i64.wrap (m4 - a3)) (IntKind.i64.wrap (b5 - m4))
theorem c102o (v2 : Value) (data1 : (List Action)) (a3 : Int) (m4 : Int) (b5 : Int) (cmp6 : (Action → Action → Option Int)) (r : (List Action)) (h : F102 data1 a3 m4 b5 cmp6 = some r) : Con Try.prog 102 [raw v2, rd (kint .i64) a3, rd (kint .i64) m4, rd (kint .i64) b5, fn2 Try.prog kAction kAction (kint .i64) cmp6] (Row v2 56 kAction data1) (fun _ : Unit => top) (fun _ => Row v2 56 kAction r) := by
  refine Con.intro Try.func102 rfl Try.ntmps102 rfl fun w H X => ?_
  unfold F102 at h
  refine AW.seq ?_
  refine AW.region ?_
  refine AOps.cons (op_move (A := rd (kint .i64) m4) rfl rfl (vt rfl)) rfl ?_
  refine AOps.cons (op_move (A := rd (kint .i64) a3) rfl rfl (vt rfl)) rfl ?_
  refine AOps.cons (op_sub rfl rfl (vt rfl) (vt rfl)) rfl ?_
  refine AOps.cons (op_assign (A := rd (kint .i64) (IntKind.i64.wrap (m4 - a3))) rfl rfl (vt rfl)) rfl ?_
  refine AOps.nil ?_
  refine AW.seq ?_
  refine AW.region ?_
  refine AOps.cons (op_move (A := rd (kint .i64) b5) rfl rfl (vt rfl)) rfl ?_
  refine AOps.cons (op_move (A := rd (kint .i64) m4) rfl rfl (vt rfl)) rfl ?_
  refine AOps.cons (op_sub rfl rfl (vt rfl) (vt rfl)) rfl ?_
  refine AOps.cons (op_assign (A := rd (kint .i64) (IntKind.i64.wrap (b5 - m4))) rfl rfl (vt rfl)) rfl ?_
  refine AOps.nil ?_
  refine AW.seq ?_
  refine AW.block ?_
  refine AW.loopG (d := []) (ν := Nat × (List Action) × Int × Int) (fun n => True ∧ F102_l1 m4 cmp6 n.1 n.2.1 n.2.2.1 n.2.2.2 = some r) (fun n => n.1) (fun n => [(0, raw v2), (2, rd (kint .i64) m4), (4, fn2 Try.prog kAction kAction (kint .i64) cmp6), (10, rd (kint .i64) n.2.2.1), (11, rd (kint .i64) n.2.2.2)]) (fun n => [(0, Row v2 56 kAction n.2.1)]) (((((IntKind.i64.wrap (b5 - m4)) : Int) - (IntKind.i64.wrap (m4 - a3))).toNat + 1), data1, (IntKind.i64.wrap (m4 - a3)), (IntKind.i64.wrap (b5 - m4))) ⟨trivial, h⟩ ⟨rfl, ⟨rfl, rfl, rfl, rfl, rfl, trivial⟩, ⟨rfl, trivial⟩⟩ ?_
  rintro ⟨m13, l10, i11, j12⟩ ⟨hsf1, h⟩
  change True at hsf1
  change F102_l1 m4 cmp6 m13 l10 i11 j12 = some r at h
  change AW _ _ _ ⟨slots [(0, raw v2), (2, rd (kint .i64) m4), (4, fn2 Try.prog kAction kAction (kint .i64) cmp6), (10, rd (kint .i64) i11), (11, rd (kint .i64) j12)], ress [(0, Row v2 56 kAction l10)], _⟩
  cases m13 with
  | zero => cases h
  | succ m13 =>
    unfold F102_l1 at h
    generalize hgo1 : F102_l1 m4 cmp6 m13 = go1 at h
    refine AW.seq ?_
    refine AW.seq ?_
    refine AW.region ?_
    refine AOps.cons (op_move (A := rd (kint .i64) i11) rfl rfl (vt rfl)) rfl ?_
    refine AOps.cons (op_move (A := rd (kint .i64) j12) rfl rfl (vt rfl)) rfl ?_
    refine AOps.cons (op_neq rfl rfl (vt rfl) (vt rfl)) rfl ?_
    refine AOps.nil ?_
    refine AW.cond (vt rfl) (fun hc => ?_) (fun hc => ?_)
    · have h := cond_t hc h
      refine AW.skip ?_
      refine AW.block ?_
      refine AW.seq ?_
      refine AW.region ?_
      refine AOps.cons (op_move (A := rd (kint .i64) i11) rfl rfl (vt rfl)) rfl ?_
      refine AOps.cons (op_move (A := rd (kint .i64) j12) rfl rfl (vt rfl)) rfl ?_
      refine AOps.cons (op_gtr rfl rfl (vt rfl) (vt rfl)) rfl ?_
      refine AOps.nil ?_
      refine AW.cond (vt rfl) (fun hc => ?_) (fun hc => ?_)
      · have h := cond_t hc h
        refine AW.seq ?_
        obtain ⟨l14, hl14, h⟩ := bsome h
        refine AW.region ?_
        refine AOps.cons (op_move (A := raw v2) rfl rfl (vt rfl)) rfl ?_
        refine AOps.cons (op_move (A := rd (kint .i64) m4) rfl rfl (vt rfl)) rfl ?_
        refine AOps.cons (op_move (A := rd (kint .i64) i11) rfl rfl (vt rfl)) rfl ?_
        refine AOps.cons (op_sub rfl rfl (vt rfl) (vt rfl)) rfl ?_
        refine AOps.cons (op_move (A := rd (kint .i64) m4) rfl rfl (vt rfl)) rfl ?_
        refine AOps.cons (op_move (A := rd (kint .i64) j12) rfl rfl (vt rfl)) rfl ?_
        refine AOps.cons (op_move (A := fn2 Try.prog kAction kAction (kint .i64) cmp6) rfl rfl (vt rfl)) rfl ?_
        refine AOps.consT rfl (op_callR 0 (xs := [.tmp 24, .tmp 27, .tmp 28, .tmp 29, .tmp 30]) (c103o _ _ _ _ _ _ _ hl14) (Ent.mk Try.func103 rfl rfl) rfl rfl ⟨vt rfl, vt rfl, vt rfl, vt rfl, vt rfl, trivial⟩ rfl) ?_
        rintro _ ⟨_u, rfl⟩
        refine AOps.nil ?_
        refine AW.region ?_
        refine AOps.cons (op_move (A := rd (kint .i64) i11) rfl rfl (vt rfl)) rfl ?_
        refine AOps.cons (op_move (A := rd (kint .i64) j12) rfl rfl (vt rfl)) rfl ?_
        refine AOps.cons (op_sub rfl rfl (vt rfl) (vt rfl)) rfl ?_
        refine AOps.cons (op_assign (A := rd (kint .i64) (IntKind.i64.wrap (i11 - j12))) rfl rfl (vt rfl)) rfl ?_
        refine AOps.nil ?_
        subst hgo1
        exact ⟨(m13, l14, (IntKind.i64.wrap (i11 - j12)), j12), Nat.lt_succ_self _, ⟨trivial, h⟩, ⟨rfl, ⟨rfl, rfl, rfl, rfl, rfl, trivial⟩, ⟨rfl, trivial⟩⟩⟩
      · have h := cond_f hc h
        refine AW.seq ?_
        obtain ⟨l15, hl15, h⟩ := bsome h
        refine AW.region ?_
        refine AOps.cons (op_move (A := raw v2) rfl rfl (vt rfl)) rfl ?_
        refine AOps.cons (op_move (A := rd (kint .i64) m4) rfl rfl (vt rfl)) rfl ?_
        refine AOps.cons (op_move (A := rd (kint .i64) i11) rfl rfl (vt rfl)) rfl ?_
        refine AOps.cons (op_sub rfl rfl (vt rfl) (vt rfl)) rfl ?_
        refine AOps.cons (op_move (A := rd (kint .i64) m4) rfl rfl (vt rfl)) rfl ?_
        refine AOps.cons (op_move (A := rd (kint .i64) j12) rfl rfl (vt rfl)) rfl ?_
        refine AOps.cons (op_add rfl rfl (vt rfl) (vt rfl)) rfl ?_
        refine AOps.cons (op_move (A := rd (kint .i64) i11) rfl rfl (vt rfl)) rfl ?_
        refine AOps.cons (op_sub rfl rfl (vt rfl) (vt rfl)) rfl ?_
        refine AOps.cons (op_move (A := rd (kint .i64) i11) rfl rfl (vt rfl)) rfl ?_
        refine AOps.cons (op_move (A := fn2 Try.prog kAction kAction (kint .i64) cmp6) rfl rfl (vt rfl)) rfl ?_
        refine AOps.consT rfl (op_callR 0 (xs := [.tmp 35, .tmp 38, .tmp 43, .tmp 44, .tmp 45]) (c103o _ _ _ _ _ _ _ hl15) (Ent.mk Try.func103 rfl rfl) rfl rfl ⟨vt rfl, vt rfl, vt rfl, vt rfl, vt rfl, trivial⟩ rfl) ?_
        rintro _ ⟨_u, rfl⟩
        refine AOps.nil ?_
        refine AW.region ?_
        refine AOps.cons (op_move (A := rd (kint .i64) j12) rfl rfl (vt rfl)) rfl ?_
        refine AOps.cons (op_move (A := rd (kint .i64) i11) rfl rfl (vt rfl)) rfl ?_
        refine AOps.cons (op_sub rfl rfl (vt rfl) (vt rfl)) rfl ?_
        refine AOps.cons (op_assign (A := rd (kint .i64) (IntKind.i64.wrap (j12 - i11))) rfl rfl (vt rfl)) rfl ?_
        refine AOps.nil ?_
        subst hgo1
        exact ⟨(m13, l15, i11, (IntKind.i64.wrap (j12 - i11))), Nat.lt_succ_self _, ⟨trivial, h⟩, ⟨rfl, ⟨rfl, rfl, rfl, rfl, rfl, trivial⟩, ⟨rfl, trivial⟩⟩⟩
    · have h := cond_f hc h
      refine AW.exit ?_
      obtain ⟨l16, hl16, h⟩ := bsome h
      refine AW.region ?_
      refine AOps.cons (op_move (A := raw v2) rfl rfl (vt rfl)) rfl ?_
      refine AOps.cons (op_move (A := rd (kint .i64) m4) rfl rfl (vt rfl)) rfl ?_
      refine AOps.cons (op_move (A := rd (kint .i64) i11) rfl rfl (vt rfl)) rfl ?_
      refine AOps.cons (op_sub rfl rfl (vt rfl) (vt rfl)) rfl ?_
      refine AOps.cons (op_move (A := rd (kint .i64) m4) rfl rfl (vt rfl)) rfl ?_
      refine AOps.cons (op_move (A := rd (kint .i64) i11) rfl rfl (vt rfl)) rfl ?_
      refine AOps.cons (op_move (A := fn2 Try.prog kAction kAction (kint .i64) cmp6) rfl rfl (vt rfl)) rfl ?_
      refine AOps.consT rfl (op_callR 0 (xs := [.tmp 50, .tmp 53, .tmp 54, .tmp 55, .tmp 56]) (c103o _ _ _ _ _ _ _ hl16) (Ent.mk Try.func103 rfl rfl) rfl rfl ⟨vt rfl, vt rfl, vt rfl, vt rfl, vt rfl, trivial⟩ rfl) ?_
      rintro _ ⟨_u, rfl⟩
      refine AOps.nil ?_
      obtain rfl := Option.some.inj h
      exact ret0Y (i := 0) Try.results102 rfl rfl
end Go.Proofs.Ytokmmcflinnfiab.W
