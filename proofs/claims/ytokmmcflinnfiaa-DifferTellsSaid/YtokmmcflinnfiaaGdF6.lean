/- GdF6: a part of the proof. -/
import Derived.Test.YtokmmcflinnfiaaGdF5
set_option linter.unusedVariables false
set_option maxRecDepth 4000
set_option linter.unusedSimpArgs false
namespace Go.Proofs.Ytokmmcflinnfiaa.W
open Go Go.Wb
-- slices.IndexFunc[[]weirbox/api.Cube,weirbox/api.Cube]
def F93_l1 (s1 : (List (Vector Tern 24))) (f2 : ((Vector Tern 24) → Option Bool)) : Nat → Nat → Option Int
  | 0, i3 => some (-1)
  | m4 + 1, i3 => (lget s1 (i3 : Int)).bind fun e5 => (f2 e5).bind fun x6 => (bif x6 then some (i3 : Int) else (F93_l1 s1 f2 m4) (i3 + 1))
def F93 (s1 : (List (Vector Tern 24))) (f2 : ((Vector Tern 24) → Option Bool)) : Option Int :=
  F93_l1 s1 f2 ((s1.length : Int) : Int).toNat 0
theorem c93 (s1 : (List (Vector Tern 24))) (f2 : ((Vector Tern 24) → Option Bool)) (r : Int) (h : F93 s1 f2 = some r) : PCon Try.prog 93 [rd (ksl (karr 24 kTern)) s1, fn1 Try.prog (karr 24 kTern) kbool f2] (rd (kint .i64) r) := by
  refine PCon.of (Con.intro0 Try.func93 rfl Try.ntmps93 rfl fun w H => ?_)
  unfold F93 at h
  refine AW.seq ?_
  refine AW.region ?_
  refine AOps.cons (op_assign (A := rd (kint .i64) 0) rfl rfl (vk rfl)) rfl ?_
  refine AOps.nil ?_
  refine AW.seq ?_
  refine AW.seq ?_
  refine AW.region ?_
  refine AOps.cons (op_move (A := rd (ksl (karr 24 kTern)) s1) rfl rfl (vt rfl)) rfl ?_
  refine AOps.cons (op_len' rfl rfl sl64 (vt rfl)) rfl ?_
  refine AOps.cons (op_move (A := rd (kint .i64) 0) rfl rfl (vk rfl)) rfl ?_
  refine AOps.nil ?_
  refine AW.block ?_
  refine AW.loopG (d := []) (ν := Nat × Nat) (fun n => Cnt (s1.length : Int) n.2 n.1 ∧ F93_l1 s1 f2 n.1 n.2 = some r) (fun n => n.1) (fun n => [(0, rd (ksl (karr 24 kTern)) s1), (1, fn1 Try.prog (karr 24 kTern) kbool f2), (7, rd (kint .i64) (s1.length : Int)), (8, rd (kint .i64) (n.2 : Int))]) (fun n => []) (((s1.length : Int) : Int).toNat, 0) ⟨Cnt.start _, h⟩ ⟨rfl, ⟨rfl, rfl, rfl, rfl, trivial⟩, trivial⟩ ?_
  rintro ⟨m4, i3⟩ ⟨hsf1, h⟩
  change Cnt (s1.length : Int) i3 m4 at hsf1
  change F93_l1 s1 f2 m4 i3 = some r at h
  change AW _ _ _ ⟨slots [(0, rd (ksl (karr 24 kTern)) s1), (1, fn1 Try.prog (karr 24 kTern) kbool f2), (7, rd (kint .i64) (s1.length : Int)), (8, rd (kint .i64) (i3 : Int))], ress [], _⟩
  cases m4 with
  | zero =>
    unfold F93_l1 at h
    refine AW.seq ?_
    refine AW.region ?_
    refine AOps.cons (op_lss rfl rfl (vt rfl) (vt rfl)) rfl ?_
    refine AOps.nil ?_
    refine AW.seq ?_
    refine AW.cond (vt rfl) (fun hc => absurd (of_decide_eq_true hc) hsf1.zero) (fun hc => ?_)
    refine AW.exit ?_
    refine AW.seq ?_
    refine AW.region ?_
    refine AOps.cons (op_assign (A := rd (kint .i64) (-1)) rfl rfl (vk rfl)) rfl ?_
    refine AOps.nil ?_
    refine AW.ret ?_
    obtain rfl := Option.some.inj h
    exact ret1 Try.results93 rfl (out_tmp rfl)
  | succ m4 =>
    unfold F93_l1 at h
    generalize hgo1 : F93_l1 s1 f2 m4 = go1 at h
    refine AW.seq ?_
    refine AW.region ?_
    refine AOps.cons (op_lss rfl rfl (vt rfl) (vt rfl)) rfl ?_
    refine AOps.nil ?_
    refine AW.seq ?_
    refine AW.cond (vt rfl) (fun hc => ?_) (fun hc => absurd hsf1.succ (of_decide_eq_false hc))
    have hlti3 := of_decide_eq_true hc
    refine AW.skip ?_
    refine AW.seq ?_
    refine AW.block ?_
    refine AW.seq ?_
    refine AW.region ?_
    refine AOps.cons (op_move (A := rd (kint .i64) (i3 : Int)) rfl rfl (vt rfl)) rfl ?_
    refine AOps.cons (op_assign (A := rd (kint .i64) (i3 : Int)) rfl rfl (vt rfl)) rfl ?_
    refine AOps.nil ?_
    refine AW.seq ?_
    obtain ⟨e5, he5, h⟩ := bsome h
    obtain ⟨x6, hx6, h⟩ := bsome h
    refine AW.region ?_
    refine AOps.cons (op_move (A := fn1 Try.prog (karr 24 kTern) kbool f2) rfl rfl (vt rfl)) rfl ?_
    refine AOps.cons (op_move (A := rd (ksl (karr 24 kTern)) s1) rfl rfl (vt rfl)) rfl ?_
    refine AOps.cons (op_move (A := rd (kint .i64) (i3 : Int)) rfl rfl (vt rfl)) rfl ?_
    refine AOps.cons (op_indexs' rfl rfl sl64 (vt rfl) (vt rfl) he5) rfl ?_
    refine AOps.cons (op_loadp rfl rfl ty56 (vt rfl)) rfl ?_
    refine AOps.cons (op_call1 hx6 rfl rfl (vt rfl) (vt rfl)) rfl ?_
    refine AOps.nil ?_
    refine AW.cond (vt rfl) (fun hc => ?_) (fun hc => ?_)
    · have h := cond_t hc h
      refine AW.seq ?_
      refine AW.region ?_
      refine AOps.cons (op_move (A := rd (kint .i64) (i3 : Int)) rfl rfl (vt rfl)) rfl ?_
      refine AOps.cons (op_assign (A := rd (kint .i64) (i3 : Int)) rfl rfl (vt rfl)) rfl ?_
      refine AOps.nil ?_
      refine AW.ret ?_
      obtain rfl := Option.some.inj h
      exact ret1 Try.results93 rfl (out_tmp rfl)
    · have h := cond_f hc h
      refine AW.skip ?_
      refine AW.region ?_
      refine AOps.cons (op_incr (t := 7) rfl rfl (vt rfl) (vk rfl) (vt rfl) hlti3) rfl ?_
      refine AOps.cons (op_move (A := rd (kint .i64) ((i3 + 1 : Nat) : Int)) rfl rfl (vt rfl)) rfl ?_
      refine AOps.nil ?_
      subst hgo1
      exact ⟨(m4, i3 + 1), Nat.lt_succ_self _, ⟨hsf1.next, h⟩, ⟨rfl, ⟨rfl, rfl, rfl, rfl, trivial⟩, trivial⟩⟩
-- slices.ContainsFunc[[]weirbox/api.Cube,weirbox/api.Cube]
def F43 (s1 : (List (Vector Tern 24))) (f2 : ((Vector Tern 24) → Option Bool)) : Option Bool :=
  (F93 s1 f2).bind fun x3 => some (decide (x3 ≥ 0))
theorem c43 (s1 : (List (Vector Tern 24))) (f2 : ((Vector Tern 24) → Option Bool)) (r : Bool) (h : F43 s1 f2 = some r) : PCon Try.prog 43 [rd (ksl (karr 24 kTern)) s1, fn1 Try.prog (karr 24 kTern) kbool f2] (rd kbool r) := by
  refine PCon.of (Con.intro0 Try.func43 rfl Try.ntmps43 rfl fun w H => ?_)
  unfold F43 at h
  refine AW.seq ?_
  refine AW.region ?_
  refine AOps.cons (op_assign (A := rd kbool false) rfl rfl vb) rfl ?_
  refine AOps.nil ?_
  refine AW.seq ?_
  obtain ⟨x3, hx3, h⟩ := bsome h
  refine AW.region ?_
  refine AOps.cons (op_move (A := rd (ksl (karr 24 kTern)) s1) rfl rfl (vt rfl)) rfl ?_
  refine AOps.cons (op_move (A := fn1 Try.prog (karr 24 kTern) kbool f2) rfl rfl (vt rfl)) rfl ?_
  refine AOps.cons (op_call (xs := [.tmp 5, .tmp 6]) (c93 _ _ _ hx3) (Ent.mk Try.func93 rfl rfl) rfl rfl ⟨vt rfl, vt rfl, trivial⟩) rfl ?_
  refine AOps.cons (op_geq rfl rfl (vt rfl) (vk rfl)) rfl ?_
  refine AOps.cons (op_assign (A := rd kbool (decide (x3 ≥ 0))) rfl rfl (vt rfl)) rfl ?_
  refine AOps.nil ?_
  refine AW.ret ?_
  obtain rfl := Option.some.inj h
  exact ret1 Try.results43 rfl (out_tmp rfl)
-- weirbox/weirboxlaw39.DifferParts
def F6 (c1 : (Vector Tern 24)) (a2 : (List Atom)) (b3 : (List Atom)) (h4 : (Vector Wide 24)) : Option Bool :=
  (F33 a2).bind fun x7 => (opt (!(!x7)) (F33 b3)).bind fun x8 => (bif ((!x7) || (!x8)) then (F32).bind fun x9 => some x9 else (F37 c1 a2 b3).bind fun x10 => (F43 x10 (fun x => F44 x h4)).bind fun x11 => (F45 c1 h4).bind fun x12 => (opt x12 (F41 a2 b3 h4)).bind fun x13 => (opt (x11 == (x12 && x13)) (F32)).bind fun x14 => some ((x11 == (x12 && x13)) && x14))
theorem c6 (c1 : (Vector Tern 24)) (a2 : (List Atom)) (b3 : (List Atom)) (h4 : (Vector Wide 24)) (r : Bool) (h : F6 c1 a2 b3 h4 = some r) : PCon Try.prog 6 [rd (karr 24 kTern) c1, rd (ksl kAtom) a2, rd (ksl kAtom) b3, rd (karr 24 kWide) h4] (rd kbool r) := by
  refine PCon.of (Con.intro0 Try.func6 rfl Try.ntmps6 rfl fun w H => ?_)
  unfold F6 at h
  refine AW.seq ?_
  refine AW.region ?_
  refine AOps.consT rfl (op_box 5 rfl rfl (vt rfl)) ?_
  rintro _ ⟨g5, rfl⟩
  refine AOps.consT rfl (op_box 8 rfl rfl (vt rfl)) ?_
  rintro _ ⟨g6, rfl⟩
  refine AOps.cons (op_assign (A := rd kbool false) rfl rfl vb) rfl ?_
  refine AOps.nil ?_
  refine AW.seq ?_
  refine AW.seq ?_
  obtain ⟨x7, hx7, h⟩ := bsome h
  obtain ⟨x8, hx8, h⟩ := bsome h
  refine AW.region ?_
  refine AOps.cons (op_move (A := rd (ksl kAtom) a2) rfl rfl (vt rfl)) rfl ?_
  refine AOps.cons (op_call (xs := [.tmp 10]) (c33 _ _ hx7) (Ent.mk Try.func33 rfl rfl) rfl rfl ⟨vt rfl, trivial⟩) rfl ?_
  refine AOps.cons (op_not rfl rfl (vt rfl)) rfl ?_
  refine AOps.cons (op_move (A := rd kbool (!x7)) rfl rfl (vt rfl)) rfl ?_
  refine AOps.consG (OpG.guard rfl rfl rfl rfl rfl fun hq => op_move (A := rd (ksl kAtom) b3) rfl rfl (vt rfl)) ?_
  refine AOps.consG (OpG.guard rfl rfl rfl rfl rfl fun hq => op_call (xs := [.tmp 14]) (c33 _ _ (opt_f hx8 hq)) (Ent.mk Try.func33 rfl rfl) rfl rfl ⟨vgt rfl hq, trivial⟩) ?_
  refine AOps.consG (OpG.guard rfl rfl rfl rfl rfl fun hq => op_not rfl rfl (vgt rfl hq)) ?_
  refine AOps.cons (op_any rfl rfl (vt rfl) (vt rfl)) rfl ?_
  refine AOps.nil ?_
  refine AW.cond (vt rfl) (fun hc => ?_) (fun hc => ?_)
  · have h := cond_t hc h
    refine AW.seq ?_
    obtain ⟨x9, hx9, h⟩ := bsome h
    refine AW.region ?_
    refine AOps.cons (op_call (xs := []) (c32 _ hx9) (Ent.mk Try.func32 rfl rfl) rfl rfl trivial) rfl ?_
    refine AOps.cons (op_assign (A := rd kbool x9) rfl rfl (vt rfl)) rfl ?_
    refine AOps.nil ?_
    refine AW.ret ?_
    obtain rfl := Option.some.inj h
    exact ret1 Try.results6 rfl (out_tmp rfl)
  · have h := cond_f hc h
    refine AW.skip ?_
    refine AW.seq ?_
    refine AW.freezeB 7 8 rfl rfl rfl ?_
    obtain ⟨x10, hx10, h⟩ := bsome h
    obtain ⟨x11, hx11, h⟩ := bsome h
    refine AW.region ?_
    refine AOps.cons (op_load rfl rfl ty56 (vt rfl) (i := 5) rfl) rfl ?_
    refine AOps.cons (op_move (A := rd (ksl kAtom) a2) rfl rfl (vt rfl)) rfl ?_
    refine AOps.cons (op_move (A := rd (ksl kAtom) b3) rfl rfl (vt rfl)) rfl ?_
    refine AOps.cons (op_call (xs := [.tmp 19, .tmp 20, .tmp 21]) (c37 _ _ _ _ hx10) (Ent.mk Try.func37 rfl rfl) rfl rfl ⟨vt rfl, vt rfl, vt rfl, trivial⟩) rfl ?_
    refine AOps.cons (op_fn1 (cs := [.tmp 7]) (CAs := [rp (karr 24 kWide) h4]) (fun x => F44 x h4) rfl rfl (Ent.mk Try.func44 rfl rfl) ⟨vt rfl, trivial⟩ (fun x y h => c44 _ _ y h)) rfl ?_
    refine AOps.cons (op_call (xs := [.tmp 22, .tmp 23]) (c43 _ _ _ hx11) (Ent.mk Try.func43 rfl rfl) rfl rfl ⟨vt rfl, vt rfl, trivial⟩) rfl ?_
    refine AOps.cons (op_assign (A := rd kbool x11) rfl rfl (vt rfl)) rfl ?_
    refine AOps.nil ?_
    refine AW.seq ?_
    obtain ⟨x12, hx12, h⟩ := bsome h
    obtain ⟨x13, hx13, h⟩ := bsome h
    obtain ⟨x14, hx14, h⟩ := bsome h
    refine AW.region ?_
    refine AOps.cons (op_move (A := rd kbool x11) rfl rfl (vt rfl)) rfl ?_
    refine AOps.cons (op_load rfl rfl ty56 (vt rfl) (i := 5) rfl) rfl ?_
    refine AOps.cons (op_loadp rfl rfl ty59 (vt rfl)) rfl ?_
    refine AOps.cons (op_call (xs := [.tmp 26, .tmp 27]) (c45 _ _ _ hx12) (Ent.mk Try.func45 rfl rfl) rfl rfl ⟨vt rfl, vt rfl, trivial⟩) rfl ?_
    refine AOps.cons (op_move (A := rd kbool x12) rfl rfl (vt rfl)) rfl ?_
    refine AOps.consG (OpG.guard rfl rfl rfl rfl rfl fun hq => op_move (A := rd (ksl kAtom) a2) rfl rfl (vt rfl)) ?_
    refine AOps.consG (OpG.guard rfl rfl rfl rfl rfl fun hq => op_move (A := rd (ksl kAtom) b3) rfl rfl (vt rfl)) ?_
    refine AOps.consG (OpG.guard rfl rfl rfl rfl rfl fun hq => op_loadp rfl rfl ty59 (vt rfl)) ?_
    refine AOps.consG (OpG.guard rfl rfl rfl rfl rfl fun hq => op_call (xs := [.tmp 30, .tmp 31, .tmp 32]) (c41 _ _ _ _ (opt_t hx13 hq)) (Ent.mk Try.func41 rfl rfl) rfl rfl ⟨vgt rfl hq, vgt rfl hq, vgt rfl hq, trivial⟩) ?_
    refine AOps.cons (op_all rfl rfl (vt rfl) (vt rfl)) rfl ?_
    refine AOps.cons (op_eqlb rfl rfl un4 (vt rfl) (vt rfl)) rfl ?_
    refine AOps.cons (op_move (A := rd kbool (x11 == (x12 && x13))) rfl rfl (vt rfl)) rfl ?_
    refine AOps.consG (OpG.guard rfl rfl rfl rfl rfl fun hq => op_call (xs := []) (c32 _ (opt_t hx14 hq)) (Ent.mk Try.func32 rfl rfl) rfl rfl trivial) ?_
    refine AOps.cons (op_all rfl rfl (vt rfl) (vt rfl)) rfl ?_
    refine AOps.cons (op_assign (A := rd kbool ((x11 == (x12 && x13)) && x14)) rfl rfl (vt rfl)) rfl ?_
    refine AOps.nil ?_
    refine AW.ret ?_
    obtain rfl := Option.some.inj h
    exact ret1 Try.results6 rfl (out_tmp rfl)
end Go.Proofs.Ytokmmcflinnfiaa.W
