/- GbF3: a part of the proof. -/
import Derived.Test.YtokmmcflinnfiabGbF2
set_option linter.unusedVariables false
set_option maxRecDepth 4000
set_option linter.unusedSimpArgs false
namespace Go.Proofs.Ytokmmcflinnfiab.W
open Go Go.Wb
-- weirbox/group.place
def F73 (l1 : (List Group)) (id2 : Int) : Option Int :=
  (F50 l1 (fun x => F90 x id2)).bind fun x4 => some x4
theorem c73 (l1 : (List Group)) (id2 : Int) (r : Int) (h : F73 l1 id2 = some r) : PCon Try.prog 73 [rd (ksl kGroup) l1, rd (kint .i64) id2] (rd (kint .i64) r) := by
  refine PCon.of (Con.intro0 Try.func73 rfl Try.ntmps73 rfl fun w H => ?_)
  unfold F73 at h
  refine AW.seq ?_
  refine AW.region ?_
  refine AOps.consT rfl (op_box 4 rfl rfl (vt rfl)) ?_
  rintro _ ⟨g3, rfl⟩
  refine AOps.cons (op_assign (A := rd (kint .i64) 0) rfl rfl (vk rfl)) rfl ?_
  refine AOps.nil ?_
  refine AW.seq ?_
  refine AW.freezeB 3 4 rfl rfl rfl ?_
  obtain ⟨x4, hx4, h⟩ := bsome h
  refine AW.region ?_
  refine AOps.cons (op_move (A := rd (ksl kGroup) l1) rfl rfl (vt rfl)) rfl ?_
  refine AOps.cons (op_fn1 (cs := [.tmp 3]) (CAs := [rp (kint .i64) id2]) (fun x => F90 x id2) rfl rfl (Ent.mk Try.func90 rfl rfl) ⟨vt rfl, trivial⟩ (fun x y h => c90 _ _ y h)) rfl ?_
  refine AOps.cons (op_call (xs := [.tmp 5, .tmp 6]) (c50 _ _ _ hx4) (Ent.mk Try.func50 rfl rfl) rfl rfl ⟨vt rfl, vt rfl, trivial⟩) rfl ?_
  refine AOps.cons (op_assign (A := rd (kint .i64) x4) rfl rfl (vt rfl)) rfl ?_
  refine AOps.nil ?_
  refine AW.ret ?_
  obtain rfl := Option.some.inj h
  exact ret1 Try.results73 rfl (out_tmp rfl)
-- slices.Clone[[]weirbox/api.Group,weirbox/api.Group]
def F91 (s : List Group) : Option (List Group) := appd [] s
theorem c91o (s : List Group) (r : List Group) (h : F91 s = some r) : Con Try.prog 91 [rd (ksl kGroup) s] emp (fun v => raw v) (fun v => Row v 73 kGroup r) := by
  refine Con.intro0 Try.func91 rfl Try.ntmps91 rfl fun w H => ?_
  unfold F91 at h
  refine AW.newnil 1001 73 kGroup ?_
  refine AW.seq ?_
  refine AW.region ?_
  refine AOps.cons (op_assign (A := raw (.slice none 0 0)) rfl rfl vc) rfl ?_
  refine AOps.nil ?_
  refine AW.seq ?_
  refine AW.seq ?_
  refine AW.region ?_
  refine AOps.cons (op_move (A := rd (ksl kGroup) s) rfl rfl (vt rfl)) rfl ?_
  refine AOps.consT rfl (op_eqnil rfl rfl sl38 (vt rfl)) ?_
  rintro _ ⟨b, hb, rfl⟩
  refine AOps.nil ?_
  refine AW.cond (vt rfl) (fun hc => ?_) (fun hc => ?_)
  · obtain rfl := hb hc
    refine AW.seq ?_
    refine AW.region ?_
    refine AOps.cons (op_assign (A := raw (.slice none 0 0)) rfl rfl vc) rfl ?_
    refine AOps.nil ?_
    refine AW.ret ?_
    obtain rfl := (appd_of h).2
    exact ret1R (i := 1001) Try.results91 rfl rfl rfl
  · refine AW.skip ?_
    refine AW.seq ?_
    refine AW.region ?_
    refine AOps.consT rfl (op_buildSlice 1002 (ps := []) (l := []) rfl rfl sl38 zr73 rfl rfl rfl rfl) ?_
    rintro _ ⟨v1, rfl⟩
    refine AOps.cons (op_move (A := rd (ksl kGroup) s) rfl rfl (vt rfl)) rfl ?_
    refine AOps.consT rfl (op_append' 1002 h rfl rfl el38 (vt rfl) rfl (vt rfl)) ?_
    rintro _ ⟨v2, rfl⟩
    refine AOps.cons (op_assign (A := raw v2) rfl rfl (vt rfl)) rfl ?_
    refine AOps.nil ?_
    refine AW.ret ?_
    exact ret1R (i := 1002) Try.results91 rfl rfl rfl
theorem c91 (s : List Group) (r : List Group) (h : F91 s = some r) : PCon Try.prog 91 [rd (ksl kGroup) s] (rd (ksl kGroup) r) := PCon.of_row (c91o s r h)
-- slices.Clone[[]weirbox/api.Bucket,weirbox/api.Bucket]
def F98 (s : List Bucket) : Option (List Bucket) := appd [] s
theorem c98o (s : List Bucket) (r : List Bucket) (h : F98 s = some r) : Con Try.prog 98 [rd (ksl kBucket) s] emp (fun v => raw v) (fun v => Row v 93 kBucket r) := by
  refine Con.intro0 Try.func98 rfl Try.ntmps98 rfl fun w H => ?_
  unfold F98 at h
  refine AW.newnil 1001 93 kBucket ?_
  refine AW.seq ?_
  refine AW.region ?_
  refine AOps.cons (op_assign (A := raw (.slice none 0 0)) rfl rfl vc) rfl ?_
  refine AOps.nil ?_
  refine AW.seq ?_
  refine AW.seq ?_
  refine AW.region ?_
  refine AOps.cons (op_move (A := rd (ksl kBucket) s) rfl rfl (vt rfl)) rfl ?_
  refine AOps.consT rfl (op_eqnil rfl rfl sl71 (vt rfl)) ?_
  rintro _ ⟨b, hb, rfl⟩
  refine AOps.nil ?_
  refine AW.cond (vt rfl) (fun hc => ?_) (fun hc => ?_)
  · obtain rfl := hb hc
    refine AW.seq ?_
    refine AW.region ?_
    refine AOps.cons (op_assign (A := raw (.slice none 0 0)) rfl rfl vc) rfl ?_
    refine AOps.nil ?_
    refine AW.ret ?_
    obtain rfl := (appd_of h).2
    exact ret1R (i := 1001) Try.results98 rfl rfl rfl
  · refine AW.skip ?_
    refine AW.seq ?_
    refine AW.region ?_
    refine AOps.consT rfl (op_buildSlice 1002 (ps := []) (l := []) rfl rfl sl71 zr93 rfl rfl rfl rfl) ?_
    rintro _ ⟨v1, rfl⟩
    refine AOps.cons (op_move (A := rd (ksl kBucket) s) rfl rfl (vt rfl)) rfl ?_
    refine AOps.consT rfl (op_append' 1002 h rfl rfl el71 (vt rfl) rfl (vt rfl)) ?_
    rintro _ ⟨v2, rfl⟩
    refine AOps.cons (op_assign (A := raw v2) rfl rfl (vt rfl)) rfl ?_
    refine AOps.nil ?_
    refine AW.ret ?_
    exact ret1R (i := 1002) Try.results98 rfl rfl rfl
theorem c98 (s : List Bucket) (r : List Bucket) (h : F98 s = some r) : PCon Try.prog 98 [rd (ksl kBucket) s] (rd (ksl kBucket) r) := PCon.of_row (c98o s r h)
-- slices.Clone[[]weirbox/api.Action,weirbox/api.Action]
def F80 (s : List Action) : Option (List Action) := appd [] s
theorem c80o (s : List Action) (r : List Action) (h : F80 s = some r) : Con Try.prog 80 [rd (ksl kAction) s] emp (fun v => raw v) (fun v => Row v 56 kAction r) := by
  refine Con.intro0 Try.func80 rfl Try.ntmps80 rfl fun w H => ?_
  unfold F80 at h
  refine AW.newnil 1001 56 kAction ?_
  refine AW.seq ?_
  refine AW.region ?_
  refine AOps.cons (op_assign (A := raw (.slice none 0 0)) rfl rfl vc) rfl ?_
  refine AOps.nil ?_
  refine AW.seq ?_
  refine AW.seq ?_
  refine AW.region ?_
  refine AOps.cons (op_move (A := rd (ksl kAction) s) rfl rfl (vt rfl)) rfl ?_
  refine AOps.consT rfl (op_eqnil rfl rfl sl22 (vt rfl)) ?_
  rintro _ ⟨b, hb, rfl⟩
  refine AOps.nil ?_
  refine AW.cond (vt rfl) (fun hc => ?_) (fun hc => ?_)
  · obtain rfl := hb hc
    refine AW.seq ?_
    refine AW.region ?_
    refine AOps.cons (op_assign (A := raw (.slice none 0 0)) rfl rfl vc) rfl ?_
    refine AOps.nil ?_
    refine AW.ret ?_
    obtain rfl := (appd_of h).2
    exact ret1R (i := 1001) Try.results80 rfl rfl rfl
  · refine AW.skip ?_
    refine AW.seq ?_
    refine AW.region ?_
    refine AOps.consT rfl (op_buildSlice 1002 (ps := []) (l := []) rfl rfl sl22 zr56 rfl rfl rfl rfl) ?_
    rintro _ ⟨v1, rfl⟩
    refine AOps.cons (op_move (A := rd (ksl kAction) s) rfl rfl (vt rfl)) rfl ?_
    refine AOps.consT rfl (op_append' 1002 h rfl rfl el22 (vt rfl) rfl (vt rfl)) ?_
    rintro _ ⟨v2, rfl⟩
    refine AOps.cons (op_assign (A := raw v2) rfl rfl (vt rfl)) rfl ?_
    refine AOps.nil ?_
    refine AW.ret ?_
    exact ret1R (i := 1002) Try.results80 rfl rfl rfl
theorem c80 (s : List Action) (r : List Action) (h : F80 s = some r) : PCon Try.prog 80 [rd (ksl kAction) s] (rd (ksl kAction) r) := PCon.of_row (c80o s r h)
-- weirbox/group.copies
def F92_l1 : Nat → Nat → (List Bucket) → Option (List Bucket)
  | 0, i6, l5 => some l5
  | m7 + 1, i6, l5 => (lget l5 (i6 : Int)).bind fun e8 => (F80 e8.Acts).bind fun x9 => (lget l5 (i6 : Int)).bind fun e10 => (F92_l1 m7) (i6 + 1) (List.set l5 (i6 : Int).toNat { e10 with Acts := x9 })
def F92 (l1 : (List Bucket)) : Option (List Bucket) :=
  (F98 l1).bind fun x2 => F92_l1 ((x2.length : Int) : Int).toNat 0 x2
theorem c92 (l1 : (List Bucket)) (r : (List Bucket)) (h : F92 l1 = some r) : PCon Try.prog 92 [rd (ksl kBucket) l1] (rd (ksl kBucket) r) := by
  refine PCon.of (Con.intro0 Try.func92 rfl Try.ntmps92 rfl fun w H => ?_)
  unfold F92 at h
  refine AW.seq ?_
  refine AW.region ?_
  refine AOps.cons (op_assign (A := rd (ksl kBucket) []) rfl rfl vnil) rfl ?_
  refine AOps.nil ?_
  refine AW.seq ?_
  obtain ⟨x2, hx2, h⟩ := bsome h
  refine AW.region ?_
  refine AOps.cons (op_move (A := rd (ksl kBucket) l1) rfl rfl (vt rfl)) rfl ?_
  refine AOps.consT rfl (op_callR 1001 (xs := [.tmp 5]) (c98o _ _ hx2) (Ent.mk Try.func98 rfl rfl) rfl rfl ⟨vt rfl, trivial⟩ rfl) ?_
  rintro _ ⟨v3, rfl⟩
  refine AOps.cons (op_assign (A := raw v3) rfl rfl (vt rfl)) rfl ?_
  refine AOps.nil ?_
  refine AW.seq ?_
  refine AW.seq ?_
  refine AW.region ?_
  refine AOps.cons (op_move (A := raw v3) rfl rfl (vt rfl)) rfl ?_
  refine AOps.cons (op_leno 1001 rfl rfl sl71 (vt rfl) rfl) rfl ?_
  refine AOps.cons (op_move (A := rd (kint .i64) 0) rfl rfl (vk rfl)) rfl ?_
  refine AOps.nil ?_
  refine AW.block ?_
  refine AW.loopG (d := []) (ν := Nat × Nat × (List Bucket)) (fun n => Cnt (x2.length : Int) n.2.1 n.1 ∧ F92_l1 n.1 n.2.1 n.2.2 = some r) (fun n => n.1) (fun n => [(3, raw v3), (8, rd (kint .i64) (x2.length : Int)), (9, rd (kint .i64) (n.2.1 : Int))]) (fun n => [(1001, Row v3 93 kBucket n.2.2)]) (((x2.length : Int) : Int).toNat, 0, x2) ⟨Cnt.start _, h⟩ ⟨rfl, ⟨rfl, rfl, rfl, trivial⟩, ⟨rfl, trivial⟩⟩ ?_
  rintro ⟨m7, i6, l5⟩ ⟨hsf1, h⟩
  change Cnt (x2.length : Int) i6 m7 at hsf1
  change F92_l1 m7 i6 l5 = some r at h
  change AW _ _ _ ⟨slots [(3, raw v3), (8, rd (kint .i64) (x2.length : Int)), (9, rd (kint .i64) (i6 : Int))], ress [(1001, Row v3 93 kBucket l5)], _⟩
  cases m7 with
  | zero =>
    unfold F92_l1 at h
    refine AW.seq ?_
    refine AW.region ?_
    refine AOps.cons (op_lss rfl rfl (vt rfl) (vt rfl)) rfl ?_
    refine AOps.nil ?_
    refine AW.seq ?_
    refine AW.cond (vt rfl) (fun hc => absurd (of_decide_eq_true hc) hsf1.zero) (fun hc => ?_)
    refine AW.exit ?_
    refine AW.seq ?_
    refine AW.region ?_
    refine AOps.cons (op_move (A := raw v3) rfl rfl (vt rfl)) rfl ?_
    refine AOps.cons (op_assign (A := raw v3) rfl rfl (vt rfl)) rfl ?_
    refine AOps.nil ?_
    refine AW.freezes [2, 3, 23] 1001 rfl ⟨rfl, rfl, rfl, trivial⟩ rfl ?_
    refine AW.ret ?_
    obtain rfl := Option.some.inj h
    exact ret1 Try.results92 rfl (out_tmp rfl)
  | succ m7 =>
    unfold F92_l1 at h
    generalize hgo1 : F92_l1 m7 = go1 at h
    refine AW.seq ?_
    refine AW.region ?_
    refine AOps.cons (op_lss rfl rfl (vt rfl) (vt rfl)) rfl ?_
    refine AOps.nil ?_
    refine AW.seq ?_
    refine AW.cond (vt rfl) (fun hc => ?_) (fun hc => absurd hsf1.succ (of_decide_eq_false hc))
    have hlti6 := of_decide_eq_true hc
    refine AW.skip ?_
    refine AW.seq ?_
    refine AW.block ?_
    refine AW.seq ?_
    refine AW.region ?_
    refine AOps.cons (op_move (A := rd (kint .i64) (i6 : Int)) rfl rfl (vt rfl)) rfl ?_
    refine AOps.cons (op_assign (A := rd (kint .i64) (i6 : Int)) rfl rfl (vt rfl)) rfl ?_
    refine AOps.nil ?_
    obtain ⟨e8, he8, h⟩ := bsome h
    obtain ⟨x9, hx9, h⟩ := bsome h
    obtain ⟨e10, he10, h⟩ := bsome h
    refine AW.region ?_
    refine AOps.cons (op_move (A := raw v3) rfl rfl (vt rfl)) rfl ?_
    refine AOps.cons (op_move (A := rd (kint .i64) (i6 : Int)) rfl rfl (vt rfl)) rfl ?_
    refine AOps.cons (op_move (A := raw v3) rfl rfl (vt rfl)) rfl ?_
    refine AOps.cons (op_move (A := rd (kint .i64) (i6 : Int)) rfl rfl (vt rfl)) rfl ?_
    refine AOps.cons (op_indexo' 1001 rfl rfl sl71 (vt rfl) rfl (vt rfl) he8) rfl ?_
    refine AOps.cons (op_fieldo lBucket_3 rfl rfl fl93_3 (vt rfl)) rfl ?_
    refine AOps.cons (op_loado' 1001 rfl rfl ty22 (vt rfl) rfl (lget_of he8).2) rfl ?_
    refine AOps.cons (op_call (xs := [.tmp 18]) (c80 _ _ hx9) (Ent.mk Try.func80 rfl rfl) rfl rfl ⟨vt rfl, trivial⟩) rfl ?_
    refine AOps.cons (op_indexo' 1001 rfl rfl sl71 (vt rfl) rfl (vt rfl) he10) rfl ?_
    refine AOps.cons (op_fieldo lBucket_3 rfl rfl fl93_3 (vt rfl)) rfl ?_
    refine AOps.cons (op_storeo' 1001 rfl rfl ty22 (vt rfl) rfl (lget_of he10).2 (vt rfl)) rfl ?_
    refine AOps.nil ?_
    refine AW.region ?_
    refine AOps.cons (op_incr (t := 8) rfl rfl (vt rfl) (vk rfl) (vt rfl) hlti6) rfl ?_
    refine AOps.cons (op_move (A := rd (kint .i64) ((i6 + 1 : Nat) : Int)) rfl rfl (vt rfl)) rfl ?_
    refine AOps.nil ?_
    subst hgo1
    exact ⟨(m7, i6 + 1, (List.set l5 (i6 : Int).toNat { e10 with Acts := x9 })), Nat.lt_succ_self _, ⟨hsf1.next, h⟩, ⟨rfl, ⟨rfl, rfl, rfl, trivial⟩, ⟨rfl, trivial⟩⟩⟩
-- weirbox/group.fresh
def F74_l1 : Nat → Nat → (List Group) → Option (List Group)
  | 0, i6, l5 => some l5
  | m7 + 1, i6, l5 => (lget l5 (i6 : Int)).bind fun e8 => (F92 e8.Buckets).bind fun x9 => (lget l5 (i6 : Int)).bind fun e10 => (F74_l1 m7) (i6 + 1) (List.set l5 (i6 : Int).toNat { e10 with Buckets := x9 })
def F74 (l1 : (List Group)) : Option (List Group) :=
  (F91 l1).bind fun x2 => F74_l1 ((x2.length : Int) : Int).toNat 0 x2
theorem c74 (l1 : (List Group)) (r : (List Group)) (h : F74 l1 = some r) : PCon Try.prog 74 [rd (ksl kGroup) l1] (rd (ksl kGroup) r) := by
  refine PCon.of (Con.intro0 Try.func74 rfl Try.ntmps74 rfl fun w H => ?_)
  unfold F74 at h
  refine AW.seq ?_
  refine AW.region ?_
  refine AOps.cons (op_assign (A := rd (ksl kGroup) []) rfl rfl vnil) rfl ?_
  refine AOps.nil ?_
  refine AW.seq ?_
  obtain ⟨x2, hx2, h⟩ := bsome h
  refine AW.region ?_
  refine AOps.cons (op_move (A := rd (ksl kGroup) l1) rfl rfl (vt rfl)) rfl ?_
  refine AOps.consT rfl (op_callR 1001 (xs := [.tmp 5]) (c91o _ _ hx2) (Ent.mk Try.func91 rfl rfl) rfl rfl ⟨vt rfl, trivial⟩ rfl) ?_
  rintro _ ⟨v3, rfl⟩
  refine AOps.cons (op_assign (A := raw v3) rfl rfl (vt rfl)) rfl ?_
  refine AOps.nil ?_
  refine AW.seq ?_
  refine AW.seq ?_
  refine AW.region ?_
  refine AOps.cons (op_move (A := raw v3) rfl rfl (vt rfl)) rfl ?_
  refine AOps.cons (op_leno 1001 rfl rfl sl38 (vt rfl) rfl) rfl ?_
  refine AOps.cons (op_move (A := rd (kint .i64) 0) rfl rfl (vk rfl)) rfl ?_
  refine AOps.nil ?_
  refine AW.block ?_
  refine AW.loopG (d := []) (ν := Nat × Nat × (List Group)) (fun n => Cnt (x2.length : Int) n.2.1 n.1 ∧ F74_l1 n.1 n.2.1 n.2.2 = some r) (fun n => n.1) (fun n => [(3, raw v3), (8, rd (kint .i64) (x2.length : Int)), (9, rd (kint .i64) (n.2.1 : Int))]) (fun n => [(1001, Row v3 73 kGroup n.2.2)]) (((x2.length : Int) : Int).toNat, 0, x2) ⟨Cnt.start _, h⟩ ⟨rfl, ⟨rfl, rfl, rfl, trivial⟩, ⟨rfl, trivial⟩⟩ ?_
  rintro ⟨m7, i6, l5⟩ ⟨hsf1, h⟩
  change Cnt (x2.length : Int) i6 m7 at hsf1
  change F74_l1 m7 i6 l5 = some r at h
  change AW _ _ _ ⟨slots [(3, raw v3), (8, rd (kint .i64) (x2.length : Int)), (9, rd (kint .i64) (i6 : Int))], ress [(1001, Row v3 73 kGroup l5)], _⟩
  cases m7 with
  | zero =>
    unfold F74_l1 at h
    refine AW.seq ?_
    refine AW.region ?_
    refine AOps.cons (op_lss rfl rfl (vt rfl) (vt rfl)) rfl ?_
    refine AOps.nil ?_
    refine AW.seq ?_
    refine AW.cond (vt rfl) (fun hc => absurd (of_decide_eq_true hc) hsf1.zero) (fun hc => ?_)
    refine AW.exit ?_
    refine AW.seq ?_
    refine AW.region ?_
    refine AOps.cons (op_move (A := raw v3) rfl rfl (vt rfl)) rfl ?_
    refine AOps.cons (op_assign (A := raw v3) rfl rfl (vt rfl)) rfl ?_
    refine AOps.nil ?_
    refine AW.freezes [2, 3, 23] 1001 rfl ⟨rfl, rfl, rfl, trivial⟩ rfl ?_
    refine AW.ret ?_
    obtain rfl := Option.some.inj h
    exact ret1 Try.results74 rfl (out_tmp rfl)
  | succ m7 =>
    unfold F74_l1 at h
    generalize hgo1 : F74_l1 m7 = go1 at h
    refine AW.seq ?_
    refine AW.region ?_
    refine AOps.cons (op_lss rfl rfl (vt rfl) (vt rfl)) rfl ?_
    refine AOps.nil ?_
    refine AW.seq ?_
    refine AW.cond (vt rfl) (fun hc => ?_) (fun hc => absurd hsf1.succ (of_decide_eq_false hc))
    have hlti6 := of_decide_eq_true hc
    refine AW.skip ?_
    refine AW.seq ?_
    refine AW.block ?_
    refine AW.seq ?_
    refine AW.region ?_
    refine AOps.cons (op_move (A := rd (kint .i64) (i6 : Int)) rfl rfl (vt rfl)) rfl ?_
    refine AOps.cons (op_assign (A := rd (kint .i64) (i6 : Int)) rfl rfl (vt rfl)) rfl ?_
    refine AOps.nil ?_
    obtain ⟨e8, he8, h⟩ := bsome h
    obtain ⟨x9, hx9, h⟩ := bsome h
    obtain ⟨e10, he10, h⟩ := bsome h
    refine AW.region ?_
    refine AOps.cons (op_move (A := raw v3) rfl rfl (vt rfl)) rfl ?_
    refine AOps.cons (op_move (A := rd (kint .i64) (i6 : Int)) rfl rfl (vt rfl)) rfl ?_
    refine AOps.cons (op_move (A := raw v3) rfl rfl (vt rfl)) rfl ?_
    refine AOps.cons (op_move (A := rd (kint .i64) (i6 : Int)) rfl rfl (vt rfl)) rfl ?_
    refine AOps.cons (op_indexo' 1001 rfl rfl sl38 (vt rfl) rfl (vt rfl) he8) rfl ?_
    refine AOps.cons (op_fieldo lGroup_2 rfl rfl fl73_2 (vt rfl)) rfl ?_
    refine AOps.cons (op_loado' 1001 rfl rfl ty71 (vt rfl) rfl (lget_of he8).2) rfl ?_
    refine AOps.cons (op_call (xs := [.tmp 18]) (c92 _ _ hx9) (Ent.mk Try.func92 rfl rfl) rfl rfl ⟨vt rfl, trivial⟩) rfl ?_
    refine AOps.cons (op_indexo' 1001 rfl rfl sl38 (vt rfl) rfl (vt rfl) he10) rfl ?_
    refine AOps.cons (op_fieldo lGroup_2 rfl rfl fl73_2 (vt rfl)) rfl ?_
    refine AOps.cons (op_storeo' 1001 rfl rfl ty71 (vt rfl) rfl (lget_of he10).2 (vt rfl)) rfl ?_
    refine AOps.nil ?_
    refine AW.region ?_
    refine AOps.cons (op_incr (t := 8) rfl rfl (vt rfl) (vk rfl) (vt rfl) hlti6) rfl ?_
    refine AOps.cons (op_move (A := rd (kint .i64) ((i6 + 1 : Nat) : Int)) rfl rfl (vt rfl)) rfl ?_
    refine AOps.nil ?_
    subst hgo1
    exact ⟨(m7, i6 + 1, (List.set l5 (i6 : Int).toNat { e10 with Buckets := x9 })), Nat.lt_succ_self _, ⟨hsf1.next, h⟩, ⟨rfl, ⟨rfl, rfl, rfl, trivial⟩, ⟨rfl, trivial⟩⟩⟩
-- weirbox/group.Find
def F65 (l1 : (List Group)) (id2 : Int) : Option (Group × Bool) :=
  (F73 l1 id2).bind fun x4 => (bif (decide (x4 < 0)) then some ((⟨0, 0, []⟩ : Group), false) else (oslice l1 x4 (IntKind.i64.wrap (x4 + 1))).bind fun s5 => (F74 s5).bind fun x6 => (lget x6 0).bind fun e7 => some (e7, true))
theorem c65 (l1 : (List Group)) (id2 : Int) (r : (Group × Bool)) (h : F65 l1 id2 = some r) : PCon Try.prog 65 [rd (ksl kGroup) l1, rd (kint .i64) id2] (tup2 (rd kGroup r.1) (rd kbool r.2)) := by
  refine PCon.of (Con.intro0 Try.func65 rfl Try.ntmps65 rfl fun w H => ?_)
  unfold F65 at h
  refine AW.seq ?_
  refine AW.region ?_
  refine AOps.consT rfl (op_alloc 5 rfl rfl zr73) ?_
  rintro _ ⟨g3, rfl⟩
  refine AOps.cons (op_assign (A := rd kbool false) rfl rfl vb) rfl ?_
  refine AOps.nil ?_
  refine AW.seq ?_
  obtain ⟨x4, hx4, h⟩ := bsome h
  refine AW.region ?_
  refine AOps.cons (op_move (A := rd (ksl kGroup) l1) rfl rfl (vt rfl)) rfl ?_
  refine AOps.cons (op_move (A := rd (kint .i64) id2) rfl rfl (vt rfl)) rfl ?_
  refine AOps.cons (op_call (xs := [.tmp 7, .tmp 8]) (c73 _ _ _ hx4) (Ent.mk Try.func73 rfl rfl) rfl rfl ⟨vt rfl, vt rfl, trivial⟩) rfl ?_
  refine AOps.cons (op_assign (A := rd (kint .i64) x4) rfl rfl (vt rfl)) rfl ?_
  refine AOps.nil ?_
  refine AW.seq ?_
  refine AW.seq ?_
  refine AW.region ?_
  refine AOps.cons (op_move (A := rd (kint .i64) x4) rfl rfl (vt rfl)) rfl ?_
  refine AOps.cons (op_lss rfl rfl (vt rfl) (vk rfl)) rfl ?_
  refine AOps.nil ?_
  refine AW.cond (vt rfl) (fun hc => ?_) (fun hc => ?_)
  · have h := cond_t hc h
    refine AW.seq ?_
    refine AW.region ?_
    refine AOps.cons (op_build (ps := []) (x := (⟨0, 0, []⟩ : Group)) rfl rfl rfl (by kernel_rfl) zr73 rfl) rfl ?_
    refine AOps.cons (op_store rfl rfl ty73 (vt rfl) (i := 5) rfl (vt rfl)) rfl ?_
    refine AOps.cons (op_assign (A := rd kbool false) rfl rfl vb) rfl ?_
    refine AOps.nil ?_
    refine AW.ret ?_
    obtain rfl := Option.some.inj h
    exact ret2 Try.results65 rfl (out_cell rfl (i := 5) rfl ty73) (out_tmp rfl)
  · have h := cond_f hc h
    refine AW.skip ?_
    refine AW.seq ?_
    obtain ⟨s5, hs5, h⟩ := bsome h
    obtain ⟨x6, hx6, h⟩ := bsome h
    obtain ⟨e7, he7, h⟩ := bsome h
    refine AW.region ?_
    refine AOps.cons (op_move (A := rd (ksl kGroup) l1) rfl rfl (vt rfl)) rfl ?_
    refine AOps.cons (op_move (A := rd (kint .i64) x4) rfl rfl (vt rfl)) rfl ?_
    refine AOps.cons (op_move (A := rd (kint .i64) x4) rfl rfl (vt rfl)) rfl ?_
    refine AOps.cons (op_add rfl rfl (vt rfl) (vk rfl)) rfl ?_
    refine AOps.cons (op_slice_lh' hs5 rfl rfl sl38 (vt rfl) (vt rfl) (vt rfl)) rfl ?_
    refine AOps.cons (op_call (xs := [.tmp 17]) (c74 _ _ hx6) (Ent.mk Try.func74 rfl rfl) rfl rfl ⟨vt rfl, trivial⟩) rfl ?_
    refine AOps.cons (op_indexs' rfl rfl sl38 (vt rfl) (vk rfl) he7) rfl ?_
    refine AOps.cons (op_loadp rfl rfl ty73 (vt rfl)) rfl ?_
    refine AOps.cons (op_store rfl rfl ty73 (vt rfl) (i := 5) rfl (vt rfl)) rfl ?_
    refine AOps.cons (op_assign (A := rd kbool true) rfl rfl vb) rfl ?_
    refine AOps.nil ?_
    refine AW.ret ?_
    obtain rfl := Option.some.inj h
    exact ret2 Try.results65 rfl (out_cell rfl (i := 5) rfl ty73) (out_tmp rfl)
-- weirbox/env.Which
def F75 (e1 : Env) (n2 : Int) : Option Int :=
  (bif (decide (n2 < 1)) then some 0 else (omod e1.Turn n2).bind fun q4 => (bif (decide (q4 < 0)) then some (IntKind.i64.wrap (q4 + n2)) else some q4))
theorem c75 (e1 : Env) (n2 : Int) (r : Int) (h : F75 e1 n2 = some r) : PCon Try.prog 75 [rd kEnv e1, rd (kint .i64) n2] (rd (kint .i64) r) := by
  refine PCon.of (Con.intro0 Try.func75 rfl Try.ntmps75 rfl fun w H => ?_)
  unfold F75 at h
  refine AW.seq ?_
  refine AW.region ?_
  refine AOps.consT rfl (op_box 3 rfl rfl (vt rfl)) ?_
  rintro _ ⟨g3, rfl⟩
  refine AOps.cons (op_assign (A := rd (kint .i64) 0) rfl rfl (vk rfl)) rfl ?_
  refine AOps.nil ?_
  refine AW.seq ?_
  refine AW.seq ?_
  refine AW.region ?_
  refine AOps.cons (op_move (A := rd (kint .i64) n2) rfl rfl (vt rfl)) rfl ?_
  refine AOps.cons (op_lss rfl rfl (vt rfl) (vk rfl)) rfl ?_
  refine AOps.nil ?_
  refine AW.cond (vt rfl) (fun hc => ?_) (fun hc => ?_)
  · have h := cond_t hc h
    refine AW.seq ?_
    refine AW.region ?_
    refine AOps.cons (op_assign (A := rd (kint .i64) 0) rfl rfl (vk rfl)) rfl ?_
    refine AOps.nil ?_
    refine AW.ret ?_
    obtain rfl := Option.some.inj h
    exact ret1 Try.results75 rfl (out_tmp rfl)
  · have h := cond_f hc h
    refine AW.skip ?_
    refine AW.seq ?_
    obtain ⟨q4, hq4, h⟩ := bsome h
    refine AW.region ?_
    refine AOps.cons (op_field lEnv_0 rfl rfl fl41_0 (vt rfl)) rfl ?_
    refine AOps.cons (op_load rfl rfl ty3 (vt rfl) (i := 3) rfl) rfl ?_
    refine AOps.cons (op_move (A := rd (kint .i64) n2) rfl rfl (vt rfl)) rfl ?_
    refine AOps.cons (op_rem rfl rfl (vt rfl) (vt rfl) hq4) rfl ?_
    refine AOps.cons (op_assign (A := rd (kint .i64) q4) rfl rfl (vt rfl)) rfl ?_
    refine AOps.nil ?_
    refine AW.seq ?_
    refine AW.seq ?_
    refine AW.region ?_
    refine AOps.cons (op_move (A := rd (kint .i64) q4) rfl rfl (vt rfl)) rfl ?_
    refine AOps.cons (op_lss rfl rfl (vt rfl) (vk rfl)) rfl ?_
    refine AOps.nil ?_
    refine AW.cond (vt rfl) (fun hc => ?_) (fun hc => ?_)
    · have h := cond_t hc h
      refine AW.region ?_
      refine AOps.cons (op_move (A := rd (kint .i64) q4) rfl rfl (vt rfl)) rfl ?_
      refine AOps.cons (op_move (A := rd (kint .i64) n2) rfl rfl (vt rfl)) rfl ?_
      refine AOps.cons (op_add rfl rfl (vt rfl) (vt rfl)) rfl ?_
      refine AOps.cons (op_assign (A := rd (kint .i64) (IntKind.i64.wrap (q4 + n2))) rfl rfl (vt rfl)) rfl ?_
      refine AOps.nil ?_
      refine AW.seq ?_
      refine AW.region ?_
      refine AOps.cons (op_move (A := rd (kint .i64) (IntKind.i64.wrap (q4 + n2))) rfl rfl (vt rfl)) rfl ?_
      refine AOps.cons (op_assign (A := rd (kint .i64) (IntKind.i64.wrap (q4 + n2))) rfl rfl (vt rfl)) rfl ?_
      refine AOps.nil ?_
      refine AW.ret ?_
      obtain rfl := Option.some.inj h
      exact ret1 Try.results75 rfl (out_tmp rfl)
    · have h := cond_f hc h
      refine AW.skip ?_
      refine AW.seq ?_
      refine AW.region ?_
      refine AOps.cons (op_move (A := rd (kint .i64) q4) rfl rfl (vt rfl)) rfl ?_
      refine AOps.cons (op_assign (A := rd (kint .i64) q4) rfl rfl (vt rfl)) rfl ?_
      refine AOps.nil ?_
      refine AW.ret ?_
      obtain rfl := Option.some.inj h
      exact ret1 Try.results75 rfl (out_tmp rfl)
-- slices.Index[[]int,int]
def F95_l1 (s1 : (List Int)) (v2 : Int) : Nat → Nat → Option Int
  | 0, i3 => some (-1)
  | m4 + 1, i3 => (lget s1 (i3 : Int)).bind fun e5 => (bif (decide (v2 = e5)) then some (i3 : Int) else (F95_l1 s1 v2 m4) (i3 + 1))
def F95 (s1 : (List Int)) (v2 : Int) : Option Int :=
  F95_l1 s1 v2 ((s1.length : Int) : Int).toNat 0
theorem c95 (s1 : (List Int)) (v2 : Int) (r : Int) (h : F95 s1 v2 = some r) : PCon Try.prog 95 [rd (ksl (kint .i64)) s1, rd (kint .i64) v2] (rd (kint .i64) r) := by
  refine PCon.of (Con.intro0 Try.func95 rfl Try.ntmps95 rfl fun w H => ?_)
  unfold F95 at h
  refine AW.seq ?_
  refine AW.region ?_
  refine AOps.cons (op_assign (A := rd (kint .i64) 0) rfl rfl (vk rfl)) rfl ?_
  refine AOps.nil ?_
  refine AW.seq ?_
  refine AW.seq ?_
  refine AW.region ?_
  refine AOps.cons (op_move (A := rd (ksl (kint .i64)) s1) rfl rfl (vt rfl)) rfl ?_
  refine AOps.cons (op_len' rfl rfl sl39 (vt rfl)) rfl ?_
  refine AOps.cons (op_move (A := rd (kint .i64) 0) rfl rfl (vk rfl)) rfl ?_
  refine AOps.nil ?_
  refine AW.block ?_
  refine AW.loopG (d := []) (ν := Nat × Nat) (fun n => Cnt (s1.length : Int) n.2 n.1 ∧ F95_l1 s1 v2 n.1 n.2 = some r) (fun n => n.1) (fun n => [(0, rd (ksl (kint .i64)) s1), (1, rd (kint .i64) v2), (7, rd (kint .i64) (s1.length : Int)), (8, rd (kint .i64) (n.2 : Int))]) (fun n => []) (((s1.length : Int) : Int).toNat, 0) ⟨Cnt.start _, h⟩ ⟨rfl, ⟨rfl, rfl, rfl, rfl, trivial⟩, trivial⟩ ?_
  rintro ⟨m4, i3⟩ ⟨hsf1, h⟩
  change Cnt (s1.length : Int) i3 m4 at hsf1
  change F95_l1 s1 v2 m4 i3 = some r at h
  change AW _ _ _ ⟨slots [(0, rd (ksl (kint .i64)) s1), (1, rd (kint .i64) v2), (7, rd (kint .i64) (s1.length : Int)), (8, rd (kint .i64) (i3 : Int))], ress [], _⟩
  cases m4 with
  | zero =>
    unfold F95_l1 at h
    refine AW.seq ?_
    refine AW.region ?_
    refine AOps.cons (op_lss rfl rfl (vt rfl) (vt rfl)) rfl ?_
    refine AOps.nil ?_
    refine AW.seq ?_
    refine AW.cond (vt rfl) (fun hc => absurd (of_decide_eq_true hc) hsf1.zero) (fun hc => ?_)
    refine AW.exit ?_
    refine AW.seq ?_
    refine AW.region ?_
    refine AOps.cons (op_assign (A := rd (kint .i64) (-1)) rfl rfl (vk rfl)) rfl ?_
    refine AOps.nil ?_
    refine AW.ret ?_
    obtain rfl := Option.some.inj h
    exact ret1 Try.results95 rfl (out_tmp rfl)
  | succ m4 =>
    unfold F95_l1 at h
    generalize hgo1 : F95_l1 s1 v2 m4 = go1 at h
    refine AW.seq ?_
    refine AW.region ?_
    refine AOps.cons (op_lss rfl rfl (vt rfl) (vt rfl)) rfl ?_
    refine AOps.nil ?_
    refine AW.seq ?_
    refine AW.cond (vt rfl) (fun hc => ?_) (fun hc => absurd hsf1.succ (of_decide_eq_false hc))
    have hlti3 := of_decide_eq_true hc
    refine AW.skip ?_
    refine AW.seq ?_
    refine AW.block ?_
    refine AW.seq ?_
    refine AW.region ?_
    refine AOps.cons (op_move (A := rd (kint .i64) (i3 : Int)) rfl rfl (vt rfl)) rfl ?_
    refine AOps.cons (op_assign (A := rd (kint .i64) (i3 : Int)) rfl rfl (vt rfl)) rfl ?_
    refine AOps.nil ?_
    refine AW.seq ?_
    obtain ⟨e5, he5, h⟩ := bsome h
    refine AW.region ?_
    refine AOps.cons (op_move (A := rd (kint .i64) v2) rfl rfl (vt rfl)) rfl ?_
    refine AOps.cons (op_move (A := rd (ksl (kint .i64)) s1) rfl rfl (vt rfl)) rfl ?_
    refine AOps.cons (op_move (A := rd (kint .i64) (i3 : Int)) rfl rfl (vt rfl)) rfl ?_
    refine AOps.cons (op_indexs' rfl rfl sl39 (vt rfl) (vt rfl) he5) rfl ?_
    refine AOps.cons (op_loadp rfl rfl ty3 (vt rfl)) rfl ?_
    refine AOps.cons (op_eql rfl rfl (vt rfl) (vt rfl)) rfl ?_
    refine AOps.nil ?_
    refine AW.cond (vt rfl) (fun hc => ?_) (fun hc => ?_)
    · have h := cond_t hc h
      refine AW.seq ?_
      refine AW.region ?_
      refine AOps.cons (op_move (A := rd (kint .i64) (i3 : Int)) rfl rfl (vt rfl)) rfl ?_
      refine AOps.cons (op_assign (A := rd (kint .i64) (i3 : Int)) rfl rfl (vt rfl)) rfl ?_
      refine AOps.nil ?_
      refine AW.ret ?_
      obtain rfl := Option.some.inj h
      exact ret1 Try.results95 rfl (out_tmp rfl)
    · have h := cond_f hc h
      refine AW.skip ?_
      refine AW.region ?_
      refine AOps.cons (op_incr (t := 7) rfl rfl (vt rfl) (vk rfl) (vt rfl) hlti3) rfl ?_
      refine AOps.cons (op_move (A := rd (kint .i64) ((i3 + 1 : Nat) : Int)) rfl rfl (vt rfl)) rfl ?_
      refine AOps.nil ?_
      subst hgo1
      exact ⟨(m4, i3 + 1), Nat.lt_succ_self _, ⟨hsf1.next, h⟩, ⟨rfl, ⟨rfl, rfl, rfl, rfl, trivial⟩, trivial⟩⟩
end Go.Proofs.Ytokmmcflinnfiab.W
