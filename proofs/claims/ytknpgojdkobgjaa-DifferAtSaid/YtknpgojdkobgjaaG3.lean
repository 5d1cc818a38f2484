/- A part of the proof. -/
import Derived.Test.YtknpgojdkobgjaaG2
set_option linter.unusedVariables false
set_option maxRecDepth 4000
set_option linter.unusedSimpArgs false
namespace Go.Proofs.Ytknpgojdkobgjaa.W
open Go Go.Wb
def F_wide_Has (a1 : Wide) (i2 : Int) : Option Bool :=
  (F_wide_Bit i2).bind fun x4 => (F_wide_And a1 x4).bind fun x5 => (F_wide_Zero x5).bind fun x6 => some (!x6)
theorem c_wide_Has (a1 : Wide) (i2 : Int) (r : Bool) (h : F_wide_Has a1 i2 = some r) : PCon Try.prog 59 [rd kWide a1, rd (kint .i64) i2] (rd kbool r) := by
  refine PCon.of (Con.intro0 Try.func59 rfl Try.ntmps59 rfl fun w H => ?_)
  unfold F_wide_Has at h
  refine AW.seq ?_
  refine AW.region ?_
  refine AOps.consT rfl (op_box 3 rfl rfl (vt rfl)) ?_
  rintro _ ⟨g3, rfl⟩
  refine AOps.cons (op_assign (A := rd kbool false) rfl rfl vb) rfl ?_
  refine AOps.nil ?_
  refine AW.seq ?_
  obtain ⟨x4, hx4, h⟩ := bsome h
  obtain ⟨x5, hx5, h⟩ := bsome h
  obtain ⟨x6, hx6, h⟩ := bsome h
  refine AW.regionAny [⟨[2], [5], [3], []⟩, ⟨[1], [6], [], []⟩, ⟨[6], [7], [], []⟩, ⟨[5, 7], [8], [], []⟩, ⟨[8], [9], [], []⟩, ⟨[9], [10], [], []⟩, ⟨[10], [4], [], []⟩] mixed (by kernel_rfl) ?_
  refine SeqA.cons (loc [2] [3] rfl rfl fun S hs hr => op_load rfl rfl ty28 (vt ((hs 2 rfl).trans rfl)) (i := 3) ((hr 3 rfl).trans rfl)) ⟨rfl, rfl, rfl, rfl⟩ ?_
  refine SeqA.cons (loc [1] [] rfl rfl fun S hs hr => op_move (A := rd (kint .i64) i2) rfl rfl (vt ((hs 1 rfl).trans rfl))) ⟨rfl, rfl, rfl, rfl⟩ ?_
  refine SeqA.cons (loc [6] [] rfl rfl fun S hs hr => op_call (xs := [.tmp 6]) (c_wide_Bit _ _ hx4) (Ent.mk Try.func96 rfl rfl) rfl rfl ⟨vt ((hs 6 rfl).trans rfl), trivial⟩) ⟨rfl, rfl, rfl, rfl⟩ ?_
  refine SeqA.cons (loc [5, 7] [] rfl rfl fun S hs hr => op_call (xs := [.tmp 5, .tmp 7]) (c_wide_And _ _ _ hx5) (Ent.mk Try.func84 rfl rfl) rfl rfl ⟨vt ((hs 5 rfl).trans rfl), vt ((hs 7 rfl).trans rfl), trivial⟩) ⟨rfl, rfl, rfl, rfl⟩ ?_
  refine SeqA.cons (loc [8] [] rfl rfl fun S hs hr => op_call (xs := [.tmp 8]) (c_wide_Zero _ _ hx6) (Ent.mk Try.func94 rfl rfl) rfl rfl ⟨vt ((hs 8 rfl).trans rfl), trivial⟩) ⟨rfl, rfl, rfl, rfl⟩ ?_
  refine SeqA.cons (loc [9] [] rfl rfl fun S hs hr => op_not rfl rfl (vt ((hs 9 rfl).trans rfl))) ⟨rfl, rfl, rfl, rfl⟩ ?_
  refine SeqA.cons (loc [10] [] rfl rfl fun S hs hr => op_assign (A := rd kbool (!x6)) rfl rfl (vt ((hs 10 rfl).trans rfl))) ⟨rfl, rfl, rfl, rfl⟩ ?_
  refine AW.ret ?_
  obtain rfl := Option.some.inj h
  exact ret1 Try.results59 rfl (out_tmp rfl)
def F_tern_Bits_l1 (x5 : Wide) : Nat → (List Int) → Int → Option (List Int)
  | 0, _, _ => none
  | m13 + 1, l10, i12 => (opt (decide (i12 ≥ 0)) (F_wide_Many x5)).bind fun x14 => (bif ((decide (i12 ≥ 0)) && (decide ((l10.length : Int) < x14))) then (F_wide_Has x5 i12).bind fun x15 => (bif x15 then (appd l10 [i12]).bind fun l16 => (F_tern_Bits_l1 x5 m13) l16 (IntKind.i64.wrap (i12 - 1)) else (F_tern_Bits_l1 x5 m13) l10 (IntKind.i64.wrap (i12 - 1))) else some l10)
def F_tern_Bits (a1 : Tern) (b2 : Tern) : Option (List Int) :=
  (F_wide_Less b2.Mask a1.Mask).bind fun x5 => F_tern_Bits_l1 x5 fuel0 [] 127
theorem c_tern_Bits (a1 : Tern) (b2 : Tern) (r : (List Int)) (h : F_tern_Bits a1 b2 = some r) : PCon Try.prog 95 [rd kTern a1, rd kTern b2] (rd (ksl (kint .i64)) r) := by
  refine PCon.of (Con.intro0 Try.func95 rfl Try.ntmps95 rfl fun w H => ?_)
  unfold F_tern_Bits at h
  refine AW.seq ?_
  refine AW.region ?_
  refine AOps.consT rfl (op_box 3 rfl rfl (vt rfl)) ?_
  rintro _ ⟨g3, rfl⟩
  refine AOps.consT rfl (op_box 4 rfl rfl (vt rfl)) ?_
  rintro _ ⟨g4, rfl⟩
  refine AOps.cons (op_assign (A := rd (ksl (kint .i64)) []) rfl rfl vnil) rfl ?_
  refine AOps.nil ?_
  refine AW.seq ?_
  obtain ⟨x5, hx5, h⟩ := bsome h
  refine AW.region ?_
  refine AOps.cons (op_field lTern_1 rfl rfl fl49_1 (vt rfl)) rfl ?_
  refine AOps.cons (op_load rfl rfl ty28 (vt rfl) (i := 4) rfl) rfl ?_
  refine AOps.cons (op_field lTern_1 rfl rfl fl49_1 (vt rfl)) rfl ?_
  refine AOps.cons (op_load rfl rfl ty28 (vt rfl) (i := 3) rfl) rfl ?_
  refine AOps.cons (op_call (xs := [.tmp 9, .tmp 11]) (c_wide_Less _ _ _ hx5) (Ent.mk Try.func83 rfl rfl) rfl rfl ⟨vt rfl, vt rfl, trivial⟩) rfl ?_
  refine AOps.consT rfl (op_alloc 6 rfl rfl zr28) ?_
  rintro _ ⟨g6, rfl⟩
  refine AOps.cons (op_store rfl rfl ty28 (vt rfl) (i := 6) rfl (vt rfl)) rfl ?_
  refine AOps.nil ?_
  refine AW.seq ?_
  refine AW.newnil 1001 3 (kint .i64) ?_
  refine AW.region ?_
  refine AOps.cons (op_assign rfl rfl vc) rfl ?_
  refine AOps.nil ?_
  refine AW.seq ?_
  refine AW.seq ?_
  refine AW.region ?_
  refine AOps.cons (op_assign (A := rd (kint .i64) 127) rfl rfl (vk rfl)) rfl ?_
  refine AOps.nil ?_
  refine AW.block ?_
  refine AW.loopG (d := []) (ν := Nat × (List Int) × Int × Value) (fun n => True ∧ F_tern_Bits_l1 x5 n.1 n.2.1 n.2.2.1 = some r) (fun n => n.1) (fun n => [(5, ptrL g6 (Lens.id kWide)), (6, raw n.2.2.2), (7, rd (kint .i64) n.2.2.1)]) (fun n => [(6, Blk g6 28 kWide x5), (1001, Row n.2.2.2 3 (kint .i64) n.2.1)]) (fuel0, [], 127, (.slice none 0 0)) ⟨trivial, h⟩ ⟨rfl, ⟨rfl, rfl, rfl, trivial⟩, ⟨rfl, rfl, trivial⟩⟩ ?_
  rintro ⟨m13, l10, i12, v11⟩ ⟨hsf1, h⟩
  change True at hsf1
  change F_tern_Bits_l1 x5 m13 l10 i12 = some r at h
  change AW _ _ _ ⟨slots [(5, ptrL g6 (Lens.id kWide)), (6, raw v11), (7, rd (kint .i64) i12)], ress [(6, Blk g6 28 kWide x5), (1001, Row v11 3 (kint .i64) l10)], _⟩
  cases m13 with
  | zero => cases h
  | succ m13 =>
    unfold F_tern_Bits_l1 at h
    generalize hgo1 : F_tern_Bits_l1 x5 m13 = go1 at h
    refine AW.seq ?_
    refine AW.seq ?_
    obtain ⟨x14, hx14, h⟩ := bsome h
    refine AW.region ?_
    refine AOps.cons (op_move (A := rd (kint .i64) i12) rfl rfl (vt rfl)) rfl ?_
    refine AOps.cons (op_geq rfl rfl (vt rfl) (vk rfl)) rfl ?_
    refine AOps.cons (op_move (A := rd kbool (decide (i12 ≥ 0))) rfl rfl (vt rfl)) rfl ?_
    refine AOps.consG (OpG.guard rfl rfl rfl rfl rfl fun hq => op_move (A := raw v11) rfl rfl (vt rfl)) ?_
    refine AOps.consG (OpG.guard rfl rfl rfl rfl rfl fun hq => op_leno 1001 rfl rfl sl23 (vgt rfl hq) rfl) ?_
    refine AOps.consG (OpG.guard rfl rfl rfl rfl rfl fun hq => op_load rfl rfl ty28 (vt rfl) (i := 6) rfl) ?_
    refine AOps.consG (OpG.guard rfl rfl rfl rfl rfl fun hq => op_call (xs := [.tmp 18]) (c_wide_Many _ _ (opt_t hx14 hq)) (Ent.mk Try.func127 rfl rfl) rfl rfl ⟨vgt rfl hq, trivial⟩) ?_
    refine AOps.consG (OpG.guard rfl rfl rfl rfl rfl fun hq => op_lss rfl rfl (vgt rfl hq) (vgt rfl hq)) ?_
    refine AOps.cons (op_all rfl rfl (vt rfl) (vt rfl)) rfl ?_
    refine AOps.nil ?_
    refine AW.cond (vt rfl) (fun hc => ?_) (fun hc => ?_)
    · have h := cond_t hc h
      refine AW.skip ?_
      refine AW.seq ?_
      refine AW.block ?_
      refine AW.seq ?_
      obtain ⟨x15, hx15, h⟩ := bsome h
      refine AW.region ?_
      refine AOps.cons (op_load rfl rfl ty28 (vt rfl) (i := 6) rfl) rfl ?_
      refine AOps.cons (op_move (A := rd (kint .i64) i12) rfl rfl (vt rfl)) rfl ?_
      refine AOps.cons (op_call (xs := [.tmp 24, .tmp 25]) (c_wide_Has _ _ _ hx15) (Ent.mk Try.func59 rfl rfl) rfl rfl ⟨vt rfl, vt rfl, trivial⟩) rfl ?_
      refine AOps.nil ?_
      refine AW.cond (vt rfl) (fun hc => ?_) (fun hc => ?_)
      · have h := cond_t hc h
        obtain ⟨l16, hl16, h⟩ := bsome h
        refine AW.region ?_
        refine AOps.cons (op_move (A := raw v11) rfl rfl (vt rfl)) rfl ?_
        refine AOps.cons (op_move (A := rd (kint .i64) i12) rfl rfl (vt rfl)) rfl ?_
        refine AOps.cons (op_buildSliceR (ps := [(0, .tmp 28)]) (l := [i12]) rfl rfl sl23 zr3 rfl rfl ⟨_, _, Lens.idx 1 (kint .i64) 0 (by decide), _, rfl, (vt rfl), rfl⟩ rfl) rfl ?_
        refine AOps.consT rfl (op_append' 1001 hl16 rfl rfl el23 (vt rfl) rfl (vt rfl)) ?_
        rintro _ ⟨v17, rfl⟩
        refine AOps.cons (op_assign (A := raw v17) rfl rfl (vt rfl)) rfl ?_
        refine AOps.nil ?_
        refine AW.region ?_
        refine AOps.cons (op_move (A := rd (kint .i64) i12) rfl rfl (vt rfl)) rfl ?_
        refine AOps.cons (op_sub rfl rfl (vt rfl) (vk rfl)) rfl ?_
        refine AOps.cons (op_assign (A := rd (kint .i64) (IntKind.i64.wrap (i12 - 1))) rfl rfl (vt rfl)) rfl ?_
        refine AOps.nil ?_
        subst hgo1
        exact ⟨(m13, l16, (IntKind.i64.wrap (i12 - 1)), v17), Nat.lt_succ_self _, ⟨trivial, h⟩, ⟨rfl, ⟨rfl, rfl, rfl, trivial⟩, ⟨rfl, rfl, trivial⟩⟩⟩
      · have h := cond_f hc h
        refine AW.skip ?_
        refine AW.region ?_
        refine AOps.cons (op_move (A := rd (kint .i64) i12) rfl rfl (vt rfl)) rfl ?_
        refine AOps.cons (op_sub rfl rfl (vt rfl) (vk rfl)) rfl ?_
        refine AOps.cons (op_assign (A := rd (kint .i64) (IntKind.i64.wrap (i12 - 1))) rfl rfl (vt rfl)) rfl ?_
        refine AOps.nil ?_
        subst hgo1
        exact ⟨(m13, l10, (IntKind.i64.wrap (i12 - 1)), v11), Nat.lt_succ_self _, ⟨trivial, h⟩, ⟨rfl, ⟨rfl, rfl, rfl, trivial⟩, ⟨rfl, rfl, trivial⟩⟩⟩
    · have h := cond_f hc h
      refine AW.exit ?_
      refine AW.seq ?_
      refine AW.region ?_
      refine AOps.cons (op_move (A := raw v11) rfl rfl (vt rfl)) rfl ?_
      refine AOps.cons (op_assign (A := raw v11) rfl rfl (vt rfl)) rfl ?_
      refine AOps.nil ?_
      refine AW.freezes [4, 6, 31] 1001 rfl ⟨rfl, rfl, rfl, trivial⟩ rfl ?_
      refine AW.ret ?_
      obtain rfl := Option.some.inj h
      exact ret1 Try.results95 rfl (out_tmp rfl)
def F_differ_singles_1_l3 (sg : Type) (go2 : Nat → (Lp sg) → Option (Lp sg)) (i11 : Nat) (x24 : Wide) (yield1 : (sg → differ_single → Option (Lp sg))) : (List Int) → Nat → (Lp sg) → Option (Lp sg)
  | [], i29, s28 => go2 (i11 + 1) s28
  | x31 :: l30, i29, s28 => (F_wide_Has x24 x31).bind fun x32 => (yc yield1 s28 (⟨(i11 : Int), x31, x32⟩ : differ_single)).bind fun s33 => (bif (!(Lp.isGo s33)) then some s33 else (F_differ_singles_1_l3 sg go2 i11 x24 yield1 l30) (i29 + 1) s33)
def F_differ_singles_1_l2 (sg : Type) (go1 : Nat → (Lp sg) → Option (Lp sg)) (i7 : Nat) (cp3 : (List Atom)) (cp4 : (List Atom)) (yield1 : (sg → differ_single → Option (Lp sg))) : Nat → Nat → (Lp sg) → Option (Lp sg)
  | 0, i11, s10 => go1 (i7 + 1) s10
  | m12 + 1, i11, s10 => (lget cp3 (i7 : Int)).bind fun e13 => (chk 24 (i11 : Int)).bind fun j14 => (lget cp4 (i7 : Int)).bind fun e15 => (chk 24 (i11 : Int)).bind fun j16 => (F_wide_Xor ((Vector.get e13.Rewrite j14).Mask) ((Vector.get e15.Rewrite j16).Mask)).bind fun x19 => (F_wide_Zero x19).bind fun x21 => (bif x21 then (F_differ_singles_1_l2 sg go1 i7 cp3 cp4 yield1 m12) (i11 + 1) s10 else (F_wide_And ((Vector.get e13.Rewrite j14).Value) ((Vector.get e13.Rewrite j14).Mask)).bind fun x22 => (F_wide_And ((Vector.get e15.Rewrite j16).Value) ((Vector.get e15.Rewrite j16).Mask)).bind fun x23 => (F_wide_Or x22 x23).bind fun x24 => (F_tern_Bits (⟨zWide, zWide⟩ : Tern) (⟨zWide, x19⟩ : Tern)).bind fun x26 => F_differ_singles_1_l3 sg (F_differ_singles_1_l2 sg go1 i7 cp3 cp4 yield1 m12) i11 x24 yield1 x26 0 s10)
def F_differ_singles_1_l1 (sg : Type) (cp3 : (List Atom)) (cp4 : (List Atom)) (yield1 : (sg → differ_single → Option (Lp sg))) : Nat → Nat → (Lp sg) → Option (Lp sg)
  | 0, i7, s6 => some s6
  | m8 + 1, i7, s6 => F_differ_singles_1_l2 sg (F_differ_singles_1_l1 sg cp3 cp4 yield1 m8) i7 cp3 cp4 yield1 (24 : Int).toNat 0 s6
def F_differ_singles_1 (sg : Type) (yield1 : (sg → differ_single → Option (Lp sg))) (s2 : (Lp sg)) (cp3 : (List Atom)) (cp4 : (List Atom)) : Option (Lp sg) :=
  F_differ_singles_1_l1 sg cp3 cp4 yield1 ((cp3.length : Int) : Int).toNat 0 s2
theorem c_differ_singles_1 (sg : Type) (yield1 : (sg → differ_single → Option (Lp sg))) (L : Lp sg → Res) (s2 : (Lp sg)) (cp3 : (List Atom)) (cp4 : (List Atom)) (r : (Lp sg)) (h : F_differ_singles_1 sg yield1 s2 cp3 cp4 = some r) : Con Try.prog 92 [ydA Try.prog kdiffer_single yield1 L, rp (ksl kAtom) cp3, rp (ksl kAtom) cp4] (L s2) (fun _ : Unit => top) (fun _ => L r) := by
  refine Con.intro Try.func92 rfl Try.ntmps92 rfl fun w H X => ?_
  unfold F_differ_singles_1 at h
  refine AW.scope ?_
  refine AW.seq ?_
  refine AW.label ?_
  refine AW.seq ?_
  refine AW.region ?_
  refine AOps.cons (op_loadp rfl rfl ty44 (vt rfl)) rfl ?_
  refine AOps.cons (op_len' rfl rfl sl44 (vt rfl)) rfl ?_
  refine AOps.cons (op_move (A := rd (kint .i64) 0) rfl rfl (vk rfl)) rfl ?_
  refine AOps.nil ?_
  refine AW.block ?_
  refine AW.loopG (d := []) (ν := Nat × Nat × (Lp sg)) (fun n => Cnt (cp3.length : Int) n.2.1 n.1 ∧ F_differ_singles_1_l1 sg cp3 cp4 yield1 n.1 n.2.1 n.2.2 = some r) (fun n => n.1) (fun n => [(0, ydA Try.prog kdiffer_single yield1 L), (1, rp (ksl kAtom) cp3), (2, rp (ksl kAtom) cp4), (13, rd (kint .i64) (cp3.length : Int)), (14, rd (kint .i64) (n.2.1 : Int))]) (fun n => [(0, L n.2.2)]) (((cp3.length : Int) : Int).toNat, 0, s2) ⟨Cnt.start _, h⟩ ⟨rfl, ⟨rfl, rfl, rfl, rfl, rfl, trivial⟩, ⟨rfl, trivial⟩⟩ ?_
  rintro ⟨m8, i7, s6⟩ ⟨hsf1, h⟩
  change Cnt (cp3.length : Int) i7 m8 at hsf1
  change F_differ_singles_1_l1 sg cp3 cp4 yield1 m8 i7 s6 = some r at h
  change AW _ _ _ ⟨slots [(0, ydA Try.prog kdiffer_single yield1 L), (1, rp (ksl kAtom) cp3), (2, rp (ksl kAtom) cp4), (13, rd (kint .i64) (cp3.length : Int)), (14, rd (kint .i64) (i7 : Int))], ress [(0, L s6)], _⟩
  cases m8 with
  | zero =>
    unfold F_differ_singles_1_l1 at h
    refine AW.seq ?_
    refine AW.region ?_
    refine AOps.cons (op_lss rfl rfl (vt rfl) (vt rfl)) rfl ?_
    refine AOps.nil ?_
    refine AW.seq ?_
    refine AW.cond (vt rfl) (fun hc => absurd (of_decide_eq_true hc) hsf1.zero) (fun hc => ?_)
    refine AW.exit ?_
    obtain rfl := Option.some.inj h
    exact ret0Y (i := 0) Try.results92 rfl rfl
  | succ m8 =>
    unfold F_differ_singles_1_l1 at h
    generalize hgo1 : F_differ_singles_1_l1 sg cp3 cp4 yield1 m8 = go1 at h
    refine AW.seq ?_
    refine AW.region ?_
    refine AOps.cons (op_lss rfl rfl (vt rfl) (vt rfl)) rfl ?_
    refine AOps.nil ?_
    refine AW.seq ?_
    refine AW.cond (vt rfl) (fun hc => ?_) (fun hc => absurd hsf1.succ (of_decide_eq_false hc))
    have hlti7 := of_decide_eq_true hc
    refine AW.skip ?_
    refine AW.seq ?_
    refine AW.block ?_
    refine AW.seq ?_
    refine AW.region ?_
    refine AOps.cons (op_move (A := rd (kint .i64) (i7 : Int)) rfl rfl (vt rfl)) rfl ?_
    refine AOps.cons (op_assign (A := rd (kint .i64) (i7 : Int)) rfl rfl (vt rfl)) rfl ?_
    refine AOps.nil ?_
    refine AW.seq ?_
    refine AW.region ?_
    refine AOps.cons (op_move (A := rd (kint .i64) 0) rfl rfl (vk rfl)) rfl ?_
    refine AOps.nil ?_
    refine AW.block ?_
    refine AW.loopG (d := []) (ν := Nat × Nat × (Lp sg)) (fun n => Cnt 24 n.2.1 n.1 ∧ F_differ_singles_1_l2 sg go1 i7 cp3 cp4 yield1 n.1 n.2.1 n.2.2 = some r) (fun n => n.1) (fun n => [(0, ydA Try.prog kdiffer_single yield1 L), (1, rp (ksl kAtom) cp3), (2, rp (ksl kAtom) cp4), (4, rd (kint .i64) (i7 : Int)), (13, rd (kint .i64) (cp3.length : Int)), (14, rd (kint .i64) (i7 : Int)), (17, rd (kint .i64) (n.2.1 : Int))]) (fun n => [(0, L n.2.2)]) ((24 : Int).toNat, 0, s6) ⟨Cnt.start _, h⟩ ⟨rfl, ⟨rfl, rfl, rfl, rfl, rfl, rfl, rfl, trivial⟩, ⟨rfl, trivial⟩⟩ ?_
    rintro ⟨m12, i11, s10⟩ ⟨hsf2, h⟩
    change Cnt 24 i11 m12 at hsf2
    change F_differ_singles_1_l2 sg go1 i7 cp3 cp4 yield1 m12 i11 s10 = some r at h
    change AW _ _ _ ⟨slots [(0, ydA Try.prog kdiffer_single yield1 L), (1, rp (ksl kAtom) cp3), (2, rp (ksl kAtom) cp4), (4, rd (kint .i64) (i7 : Int)), (13, rd (kint .i64) (cp3.length : Int)), (14, rd (kint .i64) (i7 : Int)), (17, rd (kint .i64) (i11 : Int))], ress [(0, L s10)], _⟩
    cases m12 with
    | zero =>
      unfold F_differ_singles_1_l2 at h
      refine AW.seq ?_
      refine AW.region ?_
      refine AOps.cons (op_lss rfl rfl (vt rfl) (vk rfl)) rfl ?_
      refine AOps.nil ?_
      refine AW.seq ?_
      refine AW.cond (vt rfl) (fun hc => absurd (of_decide_eq_true hc) hsf2.zero) (fun hc => ?_)
      refine AW.exit ?_
      refine AW.region ?_
      refine AOps.cons (op_incr (t := 13) rfl rfl (vt rfl) (vk rfl) (vt rfl) hlti7) rfl ?_
      refine AOps.cons (op_move (A := rd (kint .i64) ((i7 + 1 : Nat) : Int)) rfl rfl (vt rfl)) rfl ?_
      refine AOps.nil ?_
      subst hgo1
      exact ⟨(m8, i7 + 1, s10), Nat.lt_succ_self _, ⟨hsf1.next, h⟩, ⟨rfl, ⟨rfl, rfl, rfl, rfl, rfl, trivial⟩, ⟨rfl, trivial⟩⟩⟩
    | succ m12 =>
      unfold F_differ_singles_1_l2 at h
      generalize hgo2 : F_differ_singles_1_l2 sg go1 i7 cp3 cp4 yield1 m12 = go2 at h
      refine AW.seq ?_
      refine AW.region ?_
      refine AOps.cons (op_lss rfl rfl (vt rfl) (vk rfl)) rfl ?_
      refine AOps.nil ?_
      refine AW.seq ?_
      refine AW.cond (vt rfl) (fun hc => ?_) (fun hc => absurd hsf2.succ (of_decide_eq_false hc))
      have hlti11 := of_decide_eq_true hc
      refine AW.skip ?_
      refine AW.seq ?_
      refine AW.block ?_
      refine AW.seq ?_
      refine AW.region ?_
      refine AOps.cons (op_move (A := rd (kint .i64) (i11 : Int)) rfl rfl (vt rfl)) rfl ?_
      refine AOps.cons (op_assign (A := rd (kint .i64) (i11 : Int)) rfl rfl (vt rfl)) rfl ?_
      refine AOps.nil ?_
      refine AW.seq ?_
      obtain ⟨e13, he13, h⟩ := bsome h
      obtain ⟨j14, hj14, h⟩ := bsome h
      obtain ⟨e15, he15, h⟩ := bsome h
      obtain ⟨j16, hj16, h⟩ := bsome h
      refine AW.regionAny [⟨[1], [20], [], []⟩, ⟨[4], [21], [], []⟩, ⟨[5], [22], [], []⟩, ⟨[20, 21], [23], [], []⟩, ⟨[23], [24], [], []⟩, ⟨[24, 22], [25], [], []⟩, ⟨[25], [26], [], []⟩, ⟨[2], [27], [], []⟩, ⟨[4], [28], [], []⟩, ⟨[5], [29], [], []⟩, ⟨[27, 28], [30], [], []⟩, ⟨[30], [31], [], []⟩, ⟨[31, 29], [32], [], []⟩, ⟨[32], [33], [], []⟩, ⟨[], [6], [], []⟩, ⟨[], [7], [], []⟩, ⟨[6, 26], [6], [], []⟩, ⟨[7, 33], [7], [], []⟩] mixed (by kernel_rfl) ?_
      refine SeqA.cons (loc [1] [] rfl rfl fun S hs hr => op_loadp rfl rfl ty44 (vt ((hs 1 rfl).trans rfl))) ⟨rfl, rfl, rfl, rfl⟩ ?_
      refine SeqA.cons (loc [4] [] rfl rfl fun S hs hr => op_move (A := rd (kint .i64) (i7 : Int)) rfl rfl (vt ((hs 4 rfl).trans rfl))) ⟨rfl, rfl, rfl, rfl⟩ ?_
      refine SeqA.cons (loc [5] [] rfl rfl fun S hs hr => op_move (A := rd (kint .i64) (i11 : Int)) rfl rfl (vt ((hs 5 rfl).trans rfl))) ⟨rfl, rfl, rfl, rfl⟩ ?_
      refine SeqA.cons (loc [20, 21] [] rfl rfl fun S hs hr => op_indexs' rfl rfl sl44 (vt ((hs 20 rfl).trans rfl)) (vt ((hs 21 rfl).trans rfl)) he13) ⟨rfl, rfl, rfl, rfl⟩ ?_
      refine SeqA.cons (loc [23] [] rfl rfl fun S hs hr => op_fieldp lAtom_0 rfl rfl fl53_0 (vt ((hs 23 rfl).trans rfl))) ⟨rfl, rfl, rfl, rfl⟩ ?_
      refine SeqA.cons (loc [24, 22] [] rfl rfl fun S hs hr => op_indexp' rfl rfl ar51 (vt ((hs 24 rfl).trans rfl)) (vt ((hs 22 rfl).trans rfl)) hj14) ⟨rfl, rfl, rfl, rfl⟩ ?_
      refine SeqA.cons (loc [25] [] rfl rfl fun S hs hr => op_loadp rfl rfl ty49 (vt ((hs 25 rfl).trans rfl))) ⟨rfl, rfl, rfl, rfl⟩ ?_
      refine SeqA.cons (loc [2] [] rfl rfl fun S hs hr => op_loadp rfl rfl ty44 (vt ((hs 2 rfl).trans rfl))) ⟨rfl, rfl, rfl, rfl⟩ ?_
      refine SeqA.cons (loc [4] [] rfl rfl fun S hs hr => op_move (A := rd (kint .i64) (i7 : Int)) rfl rfl (vt ((hs 4 rfl).trans rfl))) ⟨rfl, rfl, rfl, rfl⟩ ?_
      refine SeqA.cons (loc [5] [] rfl rfl fun S hs hr => op_move (A := rd (kint .i64) (i11 : Int)) rfl rfl (vt ((hs 5 rfl).trans rfl))) ⟨rfl, rfl, rfl, rfl⟩ ?_
      refine SeqA.cons (loc [27, 28] [] rfl rfl fun S hs hr => op_indexs' rfl rfl sl44 (vt ((hs 27 rfl).trans rfl)) (vt ((hs 28 rfl).trans rfl)) he15) ⟨rfl, rfl, rfl, rfl⟩ ?_
      refine SeqA.cons (loc [30] [] rfl rfl fun S hs hr => op_fieldp lAtom_0 rfl rfl fl53_0 (vt ((hs 30 rfl).trans rfl))) ⟨rfl, rfl, rfl, rfl⟩ ?_
      refine SeqA.cons (loc [31, 29] [] rfl rfl fun S hs hr => op_indexp' rfl rfl ar51 (vt ((hs 31 rfl).trans rfl)) (vt ((hs 29 rfl).trans rfl)) hj16) ⟨rfl, rfl, rfl, rfl⟩ ?_
      refine SeqA.cons (loc [32] [] rfl rfl fun S hs hr => op_loadp rfl rfl ty49 (vt ((hs 32 rfl).trans rfl))) ⟨rfl, rfl, rfl, rfl⟩ ?_
      refine SeqA.cons (locs (us := [(6, ownP 49 kTern zTern)]) (ur := []) [] [] rfl fun S hs hr => op_allocO rfl rfl rfl zr49) ⟨rfl, rfl, rfl, rfl⟩ ?_
      refine SeqA.cons (locs (us := [(7, ownP 49 kTern zTern)]) (ur := []) [] [] rfl fun S hs hr => op_allocO rfl rfl rfl zr49) ⟨rfl, rfl, rfl, rfl⟩ ?_
      refine SeqA.cons (locs (us := [(6, ownP 49 kTern (Vector.get e13.Rewrite j14))]) (ur := []) [6, 26] [] rfl fun S hs hr => op_storeO rfl rfl ty49 ((hs 6 rfl).trans rfl) (vt ((hs 26 rfl).trans rfl))) ⟨rfl, rfl, rfl, rfl⟩ ?_
      refine SeqA.cons (locs (us := [(7, ownP 49 kTern (Vector.get e15.Rewrite j16))]) (ur := []) [7, 33] [] rfl fun S hs hr => op_storeO rfl rfl ty49 ((hs 7 rfl).trans rfl) (vt ((hs 33 rfl).trans rfl))) ⟨rfl, rfl, rfl, rfl⟩ ?_
      refine AW.unpackP 6 7 rfl rfl fun g17 => ?_
      refine AW.unpackP 7 8 rfl rfl fun g18 => ?_
      refine AW.seq ?_
      obtain ⟨x19, hx19, h⟩ := bsome h
      refine AW.region ?_
      refine AOps.cons (op_field lTern_1 rfl rfl fl49_1 (vt rfl)) rfl ?_
      refine AOps.cons (op_load rfl rfl ty28 (vt rfl) (i := 7) rfl) rfl ?_
      refine AOps.cons (op_field lTern_1 rfl rfl fl49_1 (vt rfl)) rfl ?_
      refine AOps.cons (op_load rfl rfl ty28 (vt rfl) (i := 8) rfl) rfl ?_
      refine AOps.cons (op_call (xs := [.tmp 35, .tmp 37]) (c_wide_Xor _ _ _ hx19) (Ent.mk Try.func93 rfl rfl) rfl rfl ⟨vt rfl, vt rfl, trivial⟩) rfl ?_
      refine AOps.consT rfl (op_alloc 9 rfl rfl zr28) ?_
      rintro _ ⟨g20, rfl⟩
      refine AOps.cons (op_store rfl rfl ty28 (vt rfl) (i := 9) rfl (vt rfl)) rfl ?_
      refine AOps.nil ?_
      refine AW.seq ?_
      refine AW.seq ?_
      obtain ⟨x21, hx21, h⟩ := bsome h
      refine AW.region ?_
      refine AOps.cons (op_load rfl rfl ty28 (vt rfl) (i := 9) rfl) rfl ?_
      refine AOps.cons (op_call (xs := [.tmp 39]) (c_wide_Zero _ _ hx21) (Ent.mk Try.func94 rfl rfl) rfl rfl ⟨vt rfl, trivial⟩) rfl ?_
      refine AOps.nil ?_
      refine AW.cond (vt rfl) (fun hc => ?_) (fun hc => ?_)
      · have h := cond_t hc h
        refine AW.exit ?_
        refine AW.region ?_
        refine AOps.cons (op_incrc rfl rfl (vt rfl) (vk rfl) rfl hlti11) rfl ?_
        refine AOps.cons (op_move (A := rd (kint .i64) ((i11 + 1 : Nat) : Int)) rfl rfl (vt rfl)) rfl ?_
        refine AOps.nil ?_
        subst hgo2
        exact ⟨(m12, i11 + 1, s10), Nat.lt_succ_self _, ⟨hsf2.next, h⟩, ⟨rfl, ⟨rfl, rfl, rfl, rfl, rfl, rfl, rfl, trivial⟩, ⟨rfl, trivial⟩⟩⟩
      · have h := cond_f hc h
        refine AW.skip ?_
        refine AW.seq ?_
        obtain ⟨x22, hx22, h⟩ := bsome h
        obtain ⟨x23, hx23, h⟩ := bsome h
        obtain ⟨x24, hx24, h⟩ := bsome h
        refine AW.regionAny [⟨[6], [41], [], []⟩, ⟨[41], [42], [7], []⟩, ⟨[6], [43], [], []⟩, ⟨[43], [44], [7], []⟩, ⟨[42, 44], [45], [], []⟩, ⟨[7], [46], [], []⟩, ⟨[46], [47], [8], []⟩, ⟨[7], [48], [], []⟩, ⟨[48], [49], [8], []⟩, ⟨[47, 49], [50], [], []⟩, ⟨[45, 50], [51], [], []⟩, ⟨[], [9], [], []⟩, ⟨[9, 51], [9], [], []⟩] mixed (by kernel_rfl) ?_
        refine SeqA.cons (loc [6] [] rfl rfl fun S hs hr => op_field lTern_0 rfl rfl fl49_0 (vt ((hs 6 rfl).trans rfl))) ⟨rfl, rfl, rfl, rfl⟩ ?_
        refine SeqA.cons (loc [41] [7] rfl rfl fun S hs hr => op_load rfl rfl ty28 (vt ((hs 41 rfl).trans rfl)) (i := 7) ((hr 7 rfl).trans rfl)) ⟨rfl, rfl, rfl, rfl⟩ ?_
        refine SeqA.cons (loc [6] [] rfl rfl fun S hs hr => op_field lTern_1 rfl rfl fl49_1 (vt ((hs 6 rfl).trans rfl))) ⟨rfl, rfl, rfl, rfl⟩ ?_
        refine SeqA.cons (loc [43] [7] rfl rfl fun S hs hr => op_load rfl rfl ty28 (vt ((hs 43 rfl).trans rfl)) (i := 7) ((hr 7 rfl).trans rfl)) ⟨rfl, rfl, rfl, rfl⟩ ?_
        refine SeqA.cons (loc [42, 44] [] rfl rfl fun S hs hr => op_call (xs := [.tmp 42, .tmp 44]) (c_wide_And _ _ _ hx22) (Ent.mk Try.func84 rfl rfl) rfl rfl ⟨vt ((hs 42 rfl).trans rfl), vt ((hs 44 rfl).trans rfl), trivial⟩) ⟨rfl, rfl, rfl, rfl⟩ ?_
        refine SeqA.cons (loc [7] [] rfl rfl fun S hs hr => op_field lTern_0 rfl rfl fl49_0 (vt ((hs 7 rfl).trans rfl))) ⟨rfl, rfl, rfl, rfl⟩ ?_
        refine SeqA.cons (loc [46] [8] rfl rfl fun S hs hr => op_load rfl rfl ty28 (vt ((hs 46 rfl).trans rfl)) (i := 8) ((hr 8 rfl).trans rfl)) ⟨rfl, rfl, rfl, rfl⟩ ?_
        refine SeqA.cons (loc [7] [] rfl rfl fun S hs hr => op_field lTern_1 rfl rfl fl49_1 (vt ((hs 7 rfl).trans rfl))) ⟨rfl, rfl, rfl, rfl⟩ ?_
        refine SeqA.cons (loc [48] [8] rfl rfl fun S hs hr => op_load rfl rfl ty28 (vt ((hs 48 rfl).trans rfl)) (i := 8) ((hr 8 rfl).trans rfl)) ⟨rfl, rfl, rfl, rfl⟩ ?_
        refine SeqA.cons (loc [47, 49] [] rfl rfl fun S hs hr => op_call (xs := [.tmp 47, .tmp 49]) (c_wide_And _ _ _ hx23) (Ent.mk Try.func84 rfl rfl) rfl rfl ⟨vt ((hs 47 rfl).trans rfl), vt ((hs 49 rfl).trans rfl), trivial⟩) ⟨rfl, rfl, rfl, rfl⟩ ?_
        refine SeqA.cons (loc [45, 50] [] rfl rfl fun S hs hr => op_call (xs := [.tmp 45, .tmp 50]) (c_wide_Or _ _ _ hx24) (Ent.mk Try.func82 rfl rfl) rfl rfl ⟨vt ((hs 45 rfl).trans rfl), vt ((hs 50 rfl).trans rfl), trivial⟩) ⟨rfl, rfl, rfl, rfl⟩ ?_
        refine SeqA.cons (locs (us := [(9, ownP 28 kWide zWide)]) (ur := []) [] [] rfl fun S hs hr => op_allocO rfl rfl rfl zr28) ⟨rfl, rfl, rfl, rfl⟩ ?_
        refine SeqA.cons (locs (us := [(9, ownP 28 kWide x24)]) (ur := []) [9, 51] [] rfl fun S hs hr => op_storeO rfl rfl ty28 ((hs 9 rfl).trans rfl) (vt ((hs 51 rfl).trans rfl))) ⟨rfl, rfl, rfl, rfl⟩ ?_
        refine AW.unpackP 9 10 rfl rfl fun g25 => ?_
        refine AW.seq ?_
        obtain ⟨x26, hx26, h⟩ := bsome h
        refine AW.region ?_
        refine AOps.cons (op_build (ps := []) (x := (⟨zWide, zWide⟩ : Tern)) rfl rfl rfl (by kernel_rfl) zr49 rfl) rfl ?_
        refine AOps.cons (op_load rfl rfl ty28 (vt rfl) (i := 9) rfl) rfl ?_
        refine AOps.cons (op_build (ps := [(1, .tmp 53)]) (x := (⟨zWide, x19⟩ : Tern)) rfl rfl rfl (by kernel_rfl) zr49 ⟨_, _, lTern_1, _, by kernel_rfl, (vt rfl), rfl⟩) rfl ?_
        refine AOps.cons (op_call (xs := [.tmp 52, .tmp 54]) (c_tern_Bits _ _ _ hx26) (Ent.mk Try.func95 rfl rfl) rfl rfl ⟨vt rfl, vt rfl, trivial⟩) rfl ?_
        refine AOps.cons (op_len' rfl rfl sl23 (vt rfl)) rfl ?_
        refine AOps.cons (op_move (A := rd (kint .i64) 0) rfl rfl (vk rfl)) rfl ?_
        refine AOps.nil ?_
        refine AW.block ?_
        refine AW.loopG (d := []) (ν := (List Int) × Nat × (Lp sg)) (fun n => Sfx x26 n.2.1 n.1 ∧ F_differ_singles_1_l3 sg go2 i11 x24 yield1 n.1 n.2.1 n.2.2 = some r) (fun n => n.1.length) (fun n => [(0, ydA Try.prog kdiffer_single yield1 L), (1, rp (ksl kAtom) cp3), (2, rp (ksl kAtom) cp4), (4, rd (kint .i64) (i7 : Int)), (5, rd (kint .i64) (i11 : Int)), (9, ptrL g25 (Lens.id kWide)), (13, rd (kint .i64) (cp3.length : Int)), (14, rd (kint .i64) (i7 : Int)), (17, rd (kint .i64) (i11 : Int)), (55, rd (ksl (kint .i64)) x26), (56, rd (kint .i64) (x26.length : Int)), (57, rd (kint .i64) (n.2.1 : Int))]) (fun n => [(0, L n.2.2), (10, Blk g25 28 kWide x24)]) (x26, 0, s10) ⟨Sfx.start _, h⟩ ⟨rfl, ⟨rfl, rfl, rfl, rfl, rfl, rfl, rfl, rfl, rfl, rfl, rfl, rfl, trivial⟩, ⟨rfl, rfl, trivial⟩⟩ ?_
        rintro ⟨l30, i29, s28⟩ ⟨hsf3, h⟩
        change Sfx x26 i29 l30 at hsf3
        change F_differ_singles_1_l3 sg go2 i11 x24 yield1 l30 i29 s28 = some r at h
        change AW _ _ _ ⟨slots [(0, ydA Try.prog kdiffer_single yield1 L), (1, rp (ksl kAtom) cp3), (2, rp (ksl kAtom) cp4), (4, rd (kint .i64) (i7 : Int)), (5, rd (kint .i64) (i11 : Int)), (9, ptrL g25 (Lens.id kWide)), (13, rd (kint .i64) (cp3.length : Int)), (14, rd (kint .i64) (i7 : Int)), (17, rd (kint .i64) (i11 : Int)), (55, rd (ksl (kint .i64)) x26), (56, rd (kint .i64) (x26.length : Int)), (57, rd (kint .i64) (i29 : Int))], ress [(0, L s28), (10, Blk g25 28 kWide x24)], _⟩
        cases l30 with
        | nil =>
          unfold F_differ_singles_1_l3 at h
          refine AW.seq ?_
          refine AW.region ?_
          refine AOps.cons (op_lss rfl rfl (vt rfl) (vt rfl)) rfl ?_
          refine AOps.nil ?_
          refine AW.seq ?_
          refine AW.cond (vt rfl) (fun hc => absurd (of_decide_eq_true hc) hsf3.nil) (fun hc => ?_)
          refine AW.exit ?_
          refine AW.region ?_
          refine AOps.cons (op_incrc rfl rfl (vt rfl) (vk rfl) rfl hlti11) rfl ?_
          refine AOps.cons (op_move (A := rd (kint .i64) ((i11 + 1 : Nat) : Int)) rfl rfl (vt rfl)) rfl ?_
          refine AOps.nil ?_
          subst hgo2
          exact ⟨(m12, i11 + 1, s28), Nat.lt_succ_self _, ⟨hsf2.next, h⟩, ⟨rfl, ⟨rfl, rfl, rfl, rfl, rfl, rfl, rfl, trivial⟩, ⟨rfl, trivial⟩⟩⟩
        | cons x31 l30 =>
          unfold F_differ_singles_1_l3 at h
          generalize hgo3 : F_differ_singles_1_l3 sg go2 i11 x24 yield1 l30 = go3 at h
          refine AW.seq ?_
          refine AW.region ?_
          refine AOps.cons (op_lss rfl rfl (vt rfl) (vt rfl)) rfl ?_
          refine AOps.nil ?_
          refine AW.seq ?_
          refine AW.cond (vt rfl) (fun hc => ?_) (fun hc => absurd hsf3.cons (of_decide_eq_false hc))
          have hlti29 := of_decide_eq_true hc
          refine AW.skip ?_
          refine AW.seq ?_
          refine AW.block ?_
          refine AW.seq ?_
          refine AW.region ?_
          refine AOps.cons (op_indexs' rfl rfl sl23 (vt rfl) (vt rfl) hsf3.lget) rfl ?_
          refine AOps.cons (op_loadp rfl rfl ty3 (vt rfl)) rfl ?_
          refine AOps.cons (op_assign (A := rd (kint .i64) x31) rfl rfl (vt rfl)) rfl ?_
          refine AOps.nil ?_
          refine AW.seq ?_
          obtain ⟨x32, hx32, h⟩ := bsome h
          obtain ⟨s33, hs33, h⟩ := bsome h
          refine AW.region ?_
          refine AOps.cons (op_move (A := ydA Try.prog kdiffer_single yield1 L) rfl rfl (vt rfl)) rfl ?_
          refine AOps.cons (op_move (A := rd (kint .i64) (i11 : Int)) rfl rfl (vt rfl)) rfl ?_
          refine AOps.cons (op_move (A := rd (kint .i64) x31) rfl rfl (vt rfl)) rfl ?_
          refine AOps.cons (op_load rfl rfl ty28 (vt rfl) (i := 10) rfl) rfl ?_
          refine AOps.cons (op_move (A := rd (kint .i64) x31) rfl rfl (vt rfl)) rfl ?_
          refine AOps.cons (op_call (xs := [.tmp 64, .tmp 65]) (c_wide_Has _ _ _ hx32) (Ent.mk Try.func59 rfl rfl) rfl rfl ⟨vt rfl, vt rfl, trivial⟩) rfl ?_
          refine AOps.cons (op_build (ps := [(0, .tmp 62), (1, .tmp 63), (2, .tmp 66)]) (x := (⟨(i11 : Int), x31, x32⟩ : differ_single)) rfl rfl rfl (by kernel_rfl) zr116 ⟨_, _, ldiffer_single_0, _, by kernel_rfl, (vt rfl), _, _, ldiffer_single_1, _, by kernel_rfl, (vt rfl), _, _, ldiffer_single_2, _, by kernel_rfl, (vt rfl), rfl⟩) rfl ?_
          refine AOps.cons (op_yield 0 hs33 rfl rfl (vt rfl) (vt rfl) rfl) rfl ?_
          refine AOps.cons (op_not rfl rfl (vt rfl)) rfl ?_
          refine AOps.nil ?_
          refine AW.cond (vt rfl) (fun hc => ?_) (fun hc => ?_)
          · have h := cond_t hc h
            refine AW.exit ?_
            obtain rfl := Option.some.inj h
            exact ret0Y (i := 0) Try.results92 rfl rfl
          · have h := cond_f hc h
            refine AW.skip ?_
            refine AW.region ?_
            refine AOps.cons (op_incr (t := 56) rfl rfl (vt rfl) (vk rfl) (vt rfl) hlti29) rfl ?_
            refine AOps.cons (op_move (A := rd (kint .i64) ((i29 + 1 : Nat) : Int)) rfl rfl (vt rfl)) rfl ?_
            refine AOps.nil ?_
            subst hgo3
            exact ⟨(l30, i29 + 1, s33), Nat.lt_succ_self _, ⟨hsf3.next, h⟩, ⟨rfl, ⟨rfl, rfl, rfl, rfl, rfl, rfl, rfl, rfl, rfl, rfl, rfl, rfl, trivial⟩, ⟨rfl, rfl, trivial⟩⟩⟩
def F_differ_singles (a1 : (List Atom)) (b2 : (List Atom)) : Option (Itr differ_single) :=
  some (Itr.mk fun σ y s => F_differ_singles_1 σ y s a1 b2)
theorem c_differ_singles (a1 : (List Atom)) (b2 : (List Atom)) (r : (Itr differ_single)) (h : F_differ_singles a1 b2 = some r) : PCon Try.prog 58 [rd (ksl kAtom) a1, rd (ksl kAtom) b2] (seqA Try.prog kdiffer_single r) := by
  refine PCon.of (Con.intro0 Try.func58 rfl Try.ntmps58 rfl fun w H => ?_)
  unfold F_differ_singles at h
  refine AW.seq ?_
  refine AW.region ?_
  refine AOps.consT rfl (op_box 3 rfl rfl (vt rfl)) ?_
  rintro _ ⟨g3, rfl⟩
  refine AOps.consT rfl (op_box 4 rfl rfl (vt rfl)) ?_
  rintro _ ⟨g4, rfl⟩
  refine AOps.cons (op_assign (A := raw .nilFunc) rfl rfl vc) rfl ?_
  refine AOps.nil ?_
  refine AW.seq ?_
  refine AW.freezeB 2 3 rfl rfl rfl ?_
  refine AW.freezeB 3 4 rfl rfl rfl ?_
  refine AW.region ?_
  refine AOps.cons (op_seq (Itr.mk fun σ y s => F_differ_singles_1 σ y s a1 b2) (cs := [.tmp 2, .tmp 3]) (CAs := [rp (ksl kAtom) a1, rp (ksl kAtom) b2]) rfl rfl (Ent.mk Try.func92 rfl rfl) ⟨vt rfl, vt rfl, trivial⟩ (fun σ y L s r h => c_differ_singles_1 σ y L s a1 b2 r h)) rfl ?_
  refine AOps.cons (op_assign (A := seqA Try.prog kdiffer_single (Itr.mk fun σ y s => F_differ_singles_1 σ y s a1 b2)) rfl rfl (vt rfl)) rfl ?_
  refine AOps.nil ?_
  refine AW.ret ?_
  obtain rfl := Option.some.inj h
  exact ret1 Try.results58 rfl (out_tmp rfl)
def F_tern_Fix (t1 : Tern) (i2 : Int) (on3 : Bool) : Option Tern :=
  (F_wide_Bit i2).bind fun x6 => (F_tern_Clean t1).bind fun x8 => (F_wide_Or x8.Mask x6).bind fun x9 => (F_wide_Less x8.Value x6).bind fun x10 => (bif on3 then (F_wide_Or ({ { x8 with Mask := x9 } with Value := x10 }.Value) x6).bind fun x11 => some { { { x8 with Mask := x9 } with Value := x10 } with Value := x11 } else some { { x8 with Mask := x9 } with Value := x10 })
theorem c_tern_Fix (t1 : Tern) (i2 : Int) (on3 : Bool) (r : Tern) (h : F_tern_Fix t1 i2 on3 = some r) : PCon Try.prog 91 [rd kTern t1, rd (kint .i64) i2, rd kbool on3] (rd kTern r) := by
  refine PCon.of (Con.intro0 Try.func91 rfl Try.ntmps91 rfl fun w H => ?_)
  unfold F_tern_Fix at h
  refine AW.seq ?_
  refine AW.region ?_
  refine AOps.consT rfl (op_box 4 rfl rfl (vt rfl)) ?_
  rintro _ ⟨g4, rfl⟩
  refine AOps.consT rfl (op_alloc 7 rfl rfl zr49) ?_
  rintro _ ⟨g5, rfl⟩
  refine AOps.nil ?_
  refine AW.seq ?_
  obtain ⟨x6, hx6, h⟩ := bsome h
  refine AW.region ?_
  refine AOps.cons (op_move (A := rd (kint .i64) i2) rfl rfl (vt rfl)) rfl ?_
  refine AOps.cons (op_call (xs := [.tmp 8]) (c_wide_Bit _ _ hx6) (Ent.mk Try.func96 rfl rfl) rfl rfl ⟨vt rfl, trivial⟩) rfl ?_
  refine AOps.consT rfl (op_alloc 8 rfl rfl zr28) ?_
  rintro _ ⟨g7, rfl⟩
  refine AOps.cons (op_store rfl rfl ty28 (vt rfl) (i := 8) rfl (vt rfl)) rfl ?_
  refine AOps.nil ?_
  refine AW.seq ?_
  obtain ⟨x8, hx8, h⟩ := bsome h
  refine AW.region ?_
  refine AOps.cons (op_load rfl rfl ty49 (vt rfl) (i := 4) rfl) rfl ?_
  refine AOps.cons (op_call (xs := [.tmp 10]) (c_tern_Clean _ _ hx8) (Ent.mk Try.func122 rfl rfl) rfl rfl ⟨vt rfl, trivial⟩) rfl ?_
  refine AOps.cons (op_store rfl rfl ty49 (vt rfl) (i := 4) rfl (vt rfl)) rfl ?_
  refine AOps.nil ?_
  refine AW.seq ?_
  obtain ⟨x9, hx9, h⟩ := bsome h
  obtain ⟨x10, hx10, h⟩ := bsome h
  refine AW.regionAny [⟨[3], [12], [], []⟩, ⟨[12], [13], [4], []⟩, ⟨[7], [14], [8], []⟩, ⟨[13, 14], [15], [], []⟩, ⟨[3], [16], [], []⟩, ⟨[16], [17], [4], []⟩, ⟨[7], [18], [8], []⟩, ⟨[17, 18], [19], [], []⟩, ⟨[3], [20], [], []⟩, ⟨[20, 15], [], [4], [4]⟩, ⟨[3], [21], [], []⟩, ⟨[21, 19], [], [4], [4]⟩] mixed (by kernel_rfl) ?_
  refine SeqA.cons (loc [3] [] rfl rfl fun S hs hr => op_field lTern_1 rfl rfl fl49_1 (vt ((hs 3 rfl).trans rfl))) ⟨rfl, rfl, rfl, rfl⟩ ?_
  refine SeqA.cons (loc [12] [4] rfl rfl fun S hs hr => op_load rfl rfl ty28 (vt ((hs 12 rfl).trans rfl)) (i := 4) ((hr 4 rfl).trans rfl)) ⟨rfl, rfl, rfl, rfl⟩ ?_
  refine SeqA.cons (loc [7] [8] rfl rfl fun S hs hr => op_load rfl rfl ty28 (vt ((hs 7 rfl).trans rfl)) (i := 8) ((hr 8 rfl).trans rfl)) ⟨rfl, rfl, rfl, rfl⟩ ?_
  refine SeqA.cons (loc [13, 14] [] rfl rfl fun S hs hr => op_call (xs := [.tmp 13, .tmp 14]) (c_wide_Or _ _ _ hx9) (Ent.mk Try.func82 rfl rfl) rfl rfl ⟨vt ((hs 13 rfl).trans rfl), vt ((hs 14 rfl).trans rfl), trivial⟩) ⟨rfl, rfl, rfl, rfl⟩ ?_
  refine SeqA.cons (loc [3] [] rfl rfl fun S hs hr => op_field lTern_0 rfl rfl fl49_0 (vt ((hs 3 rfl).trans rfl))) ⟨rfl, rfl, rfl, rfl⟩ ?_
  refine SeqA.cons (loc [16] [4] rfl rfl fun S hs hr => op_load rfl rfl ty28 (vt ((hs 16 rfl).trans rfl)) (i := 4) ((hr 4 rfl).trans rfl)) ⟨rfl, rfl, rfl, rfl⟩ ?_
  refine SeqA.cons (loc [7] [8] rfl rfl fun S hs hr => op_load rfl rfl ty28 (vt ((hs 7 rfl).trans rfl)) (i := 8) ((hr 8 rfl).trans rfl)) ⟨rfl, rfl, rfl, rfl⟩ ?_
  refine SeqA.cons (loc [17, 18] [] rfl rfl fun S hs hr => op_call (xs := [.tmp 17, .tmp 18]) (c_wide_Less _ _ _ hx10) (Ent.mk Try.func83 rfl rfl) rfl rfl ⟨vt ((hs 17 rfl).trans rfl), vt ((hs 18 rfl).trans rfl), trivial⟩) ⟨rfl, rfl, rfl, rfl⟩ ?_
  refine SeqA.cons (loc [3] [] rfl rfl fun S hs hr => op_field lTern_1 rfl rfl fl49_1 (vt ((hs 3 rfl).trans rfl))) ⟨rfl, rfl, rfl, rfl⟩ ?_
  refine SeqA.cons (locr [20, 15] [4] rfl fun S hs hr => op_store rfl rfl ty28 (vt ((hs 20 rfl).trans rfl)) (i := 4) ((hr 4 rfl).trans rfl) (vt ((hs 15 rfl).trans rfl))) ⟨rfl, rfl, rfl, rfl⟩ ?_
  refine SeqA.cons (loc [3] [] rfl rfl fun S hs hr => op_field lTern_0 rfl rfl fl49_0 (vt ((hs 3 rfl).trans rfl))) ⟨rfl, rfl, rfl, rfl⟩ ?_
  refine SeqA.cons (locr [21, 19] [4] rfl fun S hs hr => op_store rfl rfl ty28 (vt ((hs 21 rfl).trans rfl)) (i := 4) ((hr 4 rfl).trans rfl) (vt ((hs 19 rfl).trans rfl))) ⟨rfl, rfl, rfl, rfl⟩ ?_
  refine AW.seq ?_
  refine AW.seq ?_
  refine AW.region ?_
  refine AOps.cons (op_move (A := rd kbool on3) rfl rfl (vt rfl)) rfl ?_
  refine AOps.nil ?_
  refine AW.cond (vt rfl) (fun hc => ?_) (fun hc => ?_)
  · have h := cond_t hc h
    obtain ⟨x11, hx11, h⟩ := bsome h
    refine AW.region ?_
    refine AOps.cons (op_field lTern_0 rfl rfl fl49_0 (vt rfl)) rfl ?_
    refine AOps.cons (op_load rfl rfl ty28 (vt rfl) (i := 4) rfl) rfl ?_
    refine AOps.cons (op_load rfl rfl ty28 (vt rfl) (i := 8) rfl) rfl ?_
    refine AOps.cons (op_call (xs := [.tmp 24, .tmp 25]) (c_wide_Or _ _ _ hx11) (Ent.mk Try.func82 rfl rfl) rfl rfl ⟨vt rfl, vt rfl, trivial⟩) rfl ?_
    refine AOps.cons (op_field lTern_0 rfl rfl fl49_0 (vt rfl)) rfl ?_
    refine AOps.cons (op_store rfl rfl ty28 (vt rfl) (i := 4) rfl (vt rfl)) rfl ?_
    refine AOps.nil ?_
    refine AW.seq ?_
    refine AW.region ?_
    refine AOps.cons (op_load rfl rfl ty49 (vt rfl) (i := 4) rfl) rfl ?_
    refine AOps.cons (op_store rfl rfl ty49 (vt rfl) (i := 7) rfl (vt rfl)) rfl ?_
    refine AOps.nil ?_
    refine AW.ret ?_
    obtain rfl := Option.some.inj h
    exact ret1 Try.results91 rfl (out_cell rfl (i := 7) rfl ty49)
  · have h := cond_f hc h
    refine AW.skip ?_
    refine AW.seq ?_
    refine AW.region ?_
    refine AOps.cons (op_load rfl rfl ty49 (vt rfl) (i := 4) rfl) rfl ?_
    refine AOps.cons (op_store rfl rfl ty49 (vt rfl) (i := 7) rfl (vt rfl)) rfl ?_
    refine AOps.nil ?_
    refine AW.ret ?_
    obtain rfl := Option.some.inj h
    exact ret1 Try.results91 rfl (out_cell rfl (i := 7) rfl ty49)
def F_differ_Parts_1_b1 (sg : Type) (x7 : (Vector Tern 24)) (yield1 : (sg → (Vector Tern 24) → Option (Lp sg))) (s12 : (Lp sg)) (x14 : differ_single) : Option (Lp (Lp sg)) :=
  (chk 24 x14.field).bind fun j16 => (F_wide_Has ((Vector.get x7 j16).Mask) x14.bit).bind fun x18 => (opt x18 (F_wide_Has ((Vector.get x7 j16).Value) x14.bit)).bind fun x19 => (bif (x18 && (x19 == x14.on)) then some (.go s12) else (F_tern_Fix (Vector.get x7 j16) x14.bit (!x14.on)).bind fun x21 => (chk 24 x14.field).bind fun j22 => (yc yield1 s12 (Vector.set x7 j22.1 x21 j22.2)).bind fun s23 => (bif (!(Lp.isGo s23)) then some (.out .ret s23) else some (.go s23)))
def F_differ_Parts_1 (sg : Type) (yield1 : (sg → (Vector Tern 24) → Option (Lp sg))) (s2 : (Lp sg)) (cp3 : (Vector Tern 24)) (cp4 : (List Atom)) (cp5 : (List Atom)) : Option (Lp sg) :=
  (F_cube_Clean cp3).bind fun x7 => (F_differ_Unlike cp4 cp5).bind fun x9 => (bif x9 then (yc yield1 s2 x7).bind fun s10 => some s10 else (F_differ_singles cp4 cp5).bind fun x11 => (Itr.run x11 (Lp sg) (F_differ_Parts_1_b1 sg x7 yield1) (.go s2)).bind fun z13 => lpCase z13 (fun s24 => some s24) (fun c s24 => bif cRet c then some s24 else none))
theorem c_differ_Parts_1 (sg : Type) (yield1 : (sg → (Vector Tern 24) → Option (Lp sg))) (L : Lp sg → Res) (s2 : (Lp sg)) (cp3 : (Vector Tern 24)) (cp4 : (List Atom)) (cp5 : (List Atom)) (r : (Lp sg)) (h : F_differ_Parts_1 sg yield1 s2 cp3 cp4 cp5 = some r) : Con Try.prog 89 [ydA Try.prog (karr 24 kTern) yield1 L, rp (karr 24 kTern) cp3, rp (ksl kAtom) cp4, rp (ksl kAtom) cp5] (L s2) (fun _ : Unit => top) (fun _ => L r) := by
  refine Con.intro Try.func89 rfl Try.ntmps89 rfl fun w H X => ?_
  unfold F_differ_Parts_1 at h
  refine AW.seq ?_
  refine AW.region ?_
  refine AOps.consT rfl (op_box 5 rfl rfl (vyd (vt rfl))) ?_
  rintro _ ⟨g6, rfl⟩
  refine AOps.nil ?_
  refine AW.seq ?_
  obtain ⟨x7, hx7, h⟩ := bsome h
  refine AW.region ?_
  refine AOps.cons (op_loadp rfl rfl ty106 (vt rfl)) rfl ?_
  refine AOps.cons (op_call (xs := [.tmp 9]) (c_cube_Clean _ _ hx7) (Ent.mk Try.func90 rfl rfl) rfl rfl ⟨vt rfl, trivial⟩) rfl ?_
  refine AOps.consT rfl (op_alloc 6 rfl rfl zr106) ?_
  rintro _ ⟨g8, rfl⟩
  refine AOps.cons (op_store rfl rfl ty106 (vt rfl) (i := 6) rfl (vt rfl)) rfl ?_
  refine AOps.nil ?_
  refine AW.seq ?_
  refine AW.seq ?_
  obtain ⟨x9, hx9, h⟩ := bsome h
  refine AW.region ?_
  refine AOps.cons (op_loadp rfl rfl ty44 (vt rfl)) rfl ?_
  refine AOps.cons (op_loadp rfl rfl ty44 (vt rfl)) rfl ?_
  refine AOps.cons (op_call (xs := [.tmp 11, .tmp 12]) (c_differ_Unlike _ _ _ hx9) (Ent.mk Try.func55 rfl rfl) rfl rfl ⟨vt rfl, vt rfl, trivial⟩) rfl ?_
  refine AOps.nil ?_
  refine AW.cond (vt rfl) (fun hc => ?_) (fun hc => ?_)
  · have h := cond_t hc h
    refine AW.seq ?_
    obtain ⟨s10, hs10, h⟩ := bsome h
    refine AW.region ?_
    refine AOps.cons (op_loadA (A := ydA Try.prog (karr 24 kTern) yield1 L) rfl rfl rfl (tyk146 _) (vt rfl) (i := 5) rfl) rfl ?_
    refine AOps.cons (op_load rfl rfl ty106 (vt rfl) (i := 6) rfl) rfl ?_
    refine AOps.cons (op_yield 0 hs10 rfl rfl (vt rfl) (vt rfl) rfl) rfl ?_
    refine AOps.nil ?_
    refine AW.ret ?_
    obtain rfl := Option.some.inj h
    exact ret0Y (i := 0) Try.results89 rfl rfl
  · have h := cond_f hc h
    refine AW.skip ?_
    refine AW.seq ?_
    obtain ⟨x11, hx11, h⟩ := bsome h
    refine AW.region ?_
    refine AOps.cons (op_loadp rfl rfl ty44 (vt rfl)) rfl ?_
    refine AOps.cons (op_loadp rfl rfl ty44 (vt rfl)) rfl ?_
    refine AOps.cons (op_call (xs := [.tmp 17, .tmp 18]) (c_differ_singles _ _ _ hx11) (Ent.mk Try.func58 rfl rfl) rfl rfl ⟨vt rfl, vt rfl, trivial⟩) rfl ?_
    refine AOps.nil ?_
    refine AW.block ?_
    obtain ⟨z13, hz13, h⟩ := bsome h
    refine AW.fit (d := []) (L := [(4, ptrL g6 (Lens.id (kas (ydA Try.prog (karr 24 kTern) yield1 L)))), (5, ptrL g8 (Lens.id (karr 24 kTern))), (19, seqA Try.prog kdiffer_single x11)]) (M := [(5, Blk g6 146 (kas (ydA Try.prog (karr 24 kTern) yield1 L)) ()), (6, Blk g8 106 (karr 24 kTern) x7), (0, L s2)]) ⟨rfl, ⟨rfl, rfl, rfl, trivial⟩, ⟨rfl, rfl, rfl, trivial⟩⟩ ?_
    refine AW.rangeFunc (σ := (Lp sg)) (fun x => [rd kdiffer_single x]) (F_differ_Parts_1_b1 sg x7 yield1) (fun s => ress ((fun s => [(5, Blk g6 146 (kas (ydA Try.prog (karr 24 kTern) yield1 L)) ()), (6, Blk g8 106 (karr 24 kTern) x7), (0, L s)]) s)) (fun _ s => ress ((fun s => [(5, Blk g6 146 (kas (ydA Try.prog (karr 24 kTern) yield1 L)) ()), (6, Blk g8 106 (karr 24 kTern) x7), (0, L s)]) s)) [(4, ptrL g6 (Lens.id (kas (ydA Try.prog (karr 24 kTern) yield1 L)))), (5, ptrL g8 (Lens.id (karr 24 kTern)))] (fun s12 x14 S1 => ∃ (g15 : Nat), Fit S1 [] [(4, ptrL g6 (Lens.id (kas (ydA Try.prog (karr 24 kTern) yield1 L)))), (5, ptrL g8 (Lens.id (karr 24 kTern))), (6, ptrL g15 (Lens.id kdiffer_single))] [(5, Blk g6 146 (kas (ydA Try.prog (karr 24 kTern) yield1 L)) ()), (6, Blk g8 106 (karr 24 kTern) x7), (0, L s12), (7, Blk g15 116 kdiffer_single x14)]) 3001 (s0 := s2) (sE := z13) rfl (vt rfl) ⟨rfl, inferInstance, rfl, inferInstance, trivial⟩ rfl (fun _ => rfl) (by intro p hp; have hp : p ∈ [20] := hp; rw [List.mem_singleton.1 hp]; show 20 < 55; decide) ?ha1 ?hb1 (fun Lf => ⟨top, _, _, Lf, _, _, hz13, rfl, rfl, rfl, rfl⟩) ?he1
    case ha1 =>
      rintro s12 x14 r hF l w H X
      refine AW.region ?_
      refine AOps.consT rfl (op_alloc 7 rfl rfl zr116) ?_
      rintro _ ⟨g15, rfl⟩
      refine AOps.cons (op_store rfl rfl ty116 (vt rfl) (i := 7) rfl (vt rfl)) rfl ?_
      refine AOps.nil ?_
      exact ⟨rfl, g15, rfl, ⟨rfl, rfl, rfl, trivial⟩, ⟨rfl, rfl, rfl, rfl, trivial⟩⟩
    case hb1 =>
      rintro s12 x14 r h S1 ⟨g15, hfit⟩ l w H X
      refine AW.fit (d := []) (L := [(4, ptrL g6 (Lens.id (kas (ydA Try.prog (karr 24 kTern) yield1 L)))), (5, ptrL g8 (Lens.id (karr 24 kTern))), (6, ptrL g15 (Lens.id kdiffer_single))]) (M := [(5, Blk g6 146 (kas (ydA Try.prog (karr 24 kTern) yield1 L)) ()), (6, Blk g8 106 (karr 24 kTern) x7), (0, L s12), (7, Blk g15 116 kdiffer_single x14)]) hfit ?_
      refine AW.bodyT ?_
      change F_differ_Parts_1_b1 sg x7 yield1 s12 x14 = some r at h
      unfold F_differ_Parts_1_b1 at h
      refine AW.block ?_
      refine AW.seq ?_
      obtain ⟨j16, hj16, h⟩ := bsome h
      refine AW.region ?_
      refine AOps.cons (op_field ldiffer_single_0 rfl rfl fl116_0 (vt rfl)) rfl ?_
      refine AOps.cons (op_load rfl rfl ty3 (vt rfl) (i := 7) rfl) rfl ?_
      refine AOps.cons (op_index' rfl rfl ar106 (vt rfl) (vt rfl) hj16) rfl ?_
      refine AOps.cons (op_load rfl rfl ty49 (vt rfl) (i := 6) rfl) rfl ?_
      refine AOps.consT rfl (op_alloc 8 rfl rfl zr49) ?_
      rintro _ ⟨g17, rfl⟩
      refine AOps.cons (op_store rfl rfl ty49 (vt rfl) (i := 8) rfl (vt rfl)) rfl ?_
      refine AOps.nil ?_
      refine AW.seq ?_
      refine AW.seq ?_
      obtain ⟨x18, hx18, h⟩ := bsome h
      obtain ⟨x19, hx19, h⟩ := bsome h
      refine AW.regionAny [⟨[7], [25], [], []⟩, ⟨[25], [26], [8], []⟩, ⟨[6], [27], [], []⟩, ⟨[27], [28], [7], []⟩, ⟨[26, 28], [29], [], []⟩, ⟨[29], [30], [], []⟩, ⟨[7, 30], [31], [], []⟩, ⟨[31, 30], [32], [8], []⟩, ⟨[6, 30], [33], [], []⟩, ⟨[33, 30], [34], [7], []⟩, ⟨[32, 34, 30], [35], [], []⟩, ⟨[6, 30], [36], [], []⟩, ⟨[36, 30], [37], [7], []⟩, ⟨[35, 37, 30], [38], [], []⟩, ⟨[38, 30], [39], [], []⟩] mixed (by kernel_rfl) ?_
      refine SeqA.cons (loc [7] [] rfl rfl fun S hs hr => op_field lTern_1 rfl rfl fl49_1 (vt ((hs 7 rfl).trans rfl))) ⟨rfl, rfl, rfl, rfl⟩ ?_
      refine SeqA.cons (loc [25] [8] rfl rfl fun S hs hr => op_load rfl rfl ty28 (vt ((hs 25 rfl).trans rfl)) (i := 8) ((hr 8 rfl).trans rfl)) ⟨rfl, rfl, rfl, rfl⟩ ?_
      refine SeqA.cons (loc [6] [] rfl rfl fun S hs hr => op_field ldiffer_single_1 rfl rfl fl116_1 (vt ((hs 6 rfl).trans rfl))) ⟨rfl, rfl, rfl, rfl⟩ ?_
      refine SeqA.cons (loc [27] [7] rfl rfl fun S hs hr => op_load rfl rfl ty3 (vt ((hs 27 rfl).trans rfl)) (i := 7) ((hr 7 rfl).trans rfl)) ⟨rfl, rfl, rfl, rfl⟩ ?_
      refine SeqA.cons (loc [26, 28] [] rfl rfl fun S hs hr => op_call (xs := [.tmp 26, .tmp 28]) (c_wide_Has _ _ _ hx18) (Ent.mk Try.func59 rfl rfl) rfl rfl ⟨vt ((hs 26 rfl).trans rfl), vt ((hs 28 rfl).trans rfl), trivial⟩) ⟨rfl, rfl, rfl, rfl⟩ ?_
      refine SeqA.cons (loc [29] [] rfl rfl fun S hs hr => op_move (A := rd kbool x18) rfl rfl (vt ((hs 29 rfl).trans rfl))) ⟨rfl, rfl, rfl, rfl⟩ ?_
      refine SeqA.cons (locg [7, 30] [] rfl rfl rfl rfl rfl rfl rfl fun hq S hs hr => op_field lTern_0 rfl rfl fl49_0 (vt ((hs 7 rfl).trans rfl))) ⟨rfl, rfl, rfl, rfl⟩ ?_
      refine SeqA.cons (locg [31, 30] [8] rfl rfl rfl rfl rfl rfl rfl fun hq S hs hr => op_load rfl rfl ty28 (vgt ((hs 31 rfl).trans rfl) hq) (i := 8) ((hr 8 rfl).trans rfl)) ⟨rfl, rfl, rfl, rfl⟩ ?_
      refine SeqA.cons (locg [6, 30] [] rfl rfl rfl rfl rfl rfl rfl fun hq S hs hr => op_field ldiffer_single_1 rfl rfl fl116_1 (vt ((hs 6 rfl).trans rfl))) ⟨rfl, rfl, rfl, rfl⟩ ?_
      refine SeqA.cons (locg [33, 30] [7] rfl rfl rfl rfl rfl rfl rfl fun hq S hs hr => op_load rfl rfl ty3 (vgt ((hs 33 rfl).trans rfl) hq) (i := 7) ((hr 7 rfl).trans rfl)) ⟨rfl, rfl, rfl, rfl⟩ ?_
      refine SeqA.cons (locg [32, 34, 30] [] rfl rfl rfl rfl rfl rfl rfl fun hq S hs hr => op_call (xs := [.tmp 32, .tmp 34]) (c_wide_Has _ _ _ (opt_t hx19 hq)) (Ent.mk Try.func59 rfl rfl) rfl rfl ⟨vgt ((hs 32 rfl).trans rfl) hq, vgt ((hs 34 rfl).trans rfl) hq, trivial⟩) ⟨rfl, rfl, rfl, rfl⟩ ?_
      refine SeqA.cons (locg [6, 30] [] rfl rfl rfl rfl rfl rfl rfl fun hq S hs hr => op_field ldiffer_single_2 rfl rfl fl116_2 (vt ((hs 6 rfl).trans rfl))) ⟨rfl, rfl, rfl, rfl⟩ ?_
      refine SeqA.cons (locg [36, 30] [7] rfl rfl rfl rfl rfl rfl rfl fun hq S hs hr => op_load rfl rfl ty4 (vgt ((hs 36 rfl).trans rfl) hq) (i := 7) ((hr 7 rfl).trans rfl)) ⟨rfl, rfl, rfl, rfl⟩ ?_
      refine SeqA.cons (locg [35, 37, 30] [] rfl rfl rfl rfl rfl rfl rfl fun hq S hs hr => op_eqlb rfl rfl un4 (vgt ((hs 35 rfl).trans rfl) hq) (vgt ((hs 37 rfl).trans rfl) hq)) ⟨rfl, rfl, rfl, rfl⟩ ?_
      refine SeqA.cons (loc [38, 30] [] rfl rfl fun S hs hr => op_all rfl rfl (vt ((hs 30 rfl).trans rfl)) (vt ((hs 38 rfl).trans rfl))) ⟨rfl, rfl, rfl, rfl⟩ ?_
      refine AW.cond (vt rfl) (fun hc => ?_) (fun hc => ?_)
      · have h := cond_t hc h
        refine AW.exit ?_
        obtain rfl := Option.some.inj h
        exact ⟨_, s12, Turn.refl, rfl, ⟨rfl, rfl, rfl, trivial⟩⟩
      · have h := cond_f hc h
        refine AW.skip ?_
        refine AW.seq ?_
        refine AW.region ?_
        refine AOps.cons (op_load rfl rfl ty106 (vt rfl) (i := 6) rfl) rfl ?_
        refine AOps.consT rfl (op_alloc 9 rfl rfl zr106) ?_
        rintro _ ⟨g20, rfl⟩
        refine AOps.cons (op_store rfl rfl ty106 (vt rfl) (i := 9) rfl (vt rfl)) rfl ?_
        refine AOps.nil ?_
        refine AW.seq ?_
        obtain ⟨x21, hx21, h⟩ := bsome h
        obtain ⟨j22, hj22, h⟩ := bsome h
        refine AW.regionAny [⟨[6], [41], [], []⟩, ⟨[41], [42], [7], []⟩, ⟨[7], [43], [8], []⟩, ⟨[6], [44], [], []⟩, ⟨[44], [45], [7], []⟩, ⟨[6], [46], [], []⟩, ⟨[46], [47], [7], []⟩, ⟨[47], [48], [], []⟩, ⟨[43, 45, 48], [49], [], []⟩, ⟨[8, 42], [50], [], []⟩, ⟨[50, 49], [], [9], [9]⟩] mixed (by kernel_rfl) ?_
        refine SeqA.cons (loc [6] [] rfl rfl fun S hs hr => op_field ldiffer_single_0 rfl rfl fl116_0 (vt ((hs 6 rfl).trans rfl))) ⟨rfl, rfl, rfl, rfl⟩ ?_
        refine SeqA.cons (loc [41] [7] rfl rfl fun S hs hr => op_load rfl rfl ty3 (vt ((hs 41 rfl).trans rfl)) (i := 7) ((hr 7 rfl).trans rfl)) ⟨rfl, rfl, rfl, rfl⟩ ?_
        refine SeqA.cons (loc [7] [8] rfl rfl fun S hs hr => op_load rfl rfl ty49 (vt ((hs 7 rfl).trans rfl)) (i := 8) ((hr 8 rfl).trans rfl)) ⟨rfl, rfl, rfl, rfl⟩ ?_
        refine SeqA.cons (loc [6] [] rfl rfl fun S hs hr => op_field ldiffer_single_1 rfl rfl fl116_1 (vt ((hs 6 rfl).trans rfl))) ⟨rfl, rfl, rfl, rfl⟩ ?_
        refine SeqA.cons (loc [44] [7] rfl rfl fun S hs hr => op_load rfl rfl ty3 (vt ((hs 44 rfl).trans rfl)) (i := 7) ((hr 7 rfl).trans rfl)) ⟨rfl, rfl, rfl, rfl⟩ ?_
        refine SeqA.cons (loc [6] [] rfl rfl fun S hs hr => op_field ldiffer_single_2 rfl rfl fl116_2 (vt ((hs 6 rfl).trans rfl))) ⟨rfl, rfl, rfl, rfl⟩ ?_
        refine SeqA.cons (loc [46] [7] rfl rfl fun S hs hr => op_load rfl rfl ty4 (vt ((hs 46 rfl).trans rfl)) (i := 7) ((hr 7 rfl).trans rfl)) ⟨rfl, rfl, rfl, rfl⟩ ?_
        refine SeqA.cons (loc [47] [] rfl rfl fun S hs hr => op_not rfl rfl (vt ((hs 47 rfl).trans rfl))) ⟨rfl, rfl, rfl, rfl⟩ ?_
        refine SeqA.cons (loc [43, 45, 48] [] rfl rfl fun S hs hr => op_call (xs := [.tmp 43, .tmp 45, .tmp 48]) (c_tern_Fix _ _ _ _ hx21) (Ent.mk Try.func91 rfl rfl) rfl rfl ⟨vt ((hs 43 rfl).trans rfl), vt ((hs 45 rfl).trans rfl), vt ((hs 48 rfl).trans rfl), trivial⟩) ⟨rfl, rfl, rfl, rfl⟩ ?_
        refine SeqA.cons (loc [8, 42] [] rfl rfl fun S hs hr => op_index' rfl rfl ar106 (vt ((hs 8 rfl).trans rfl)) (vt ((hs 42 rfl).trans rfl)) hj22) ⟨rfl, rfl, rfl, rfl⟩ ?_
        refine SeqA.cons (locr [50, 49] [9] rfl fun S hs hr => op_store rfl rfl ty49 (vt ((hs 50 rfl).trans rfl)) (i := 9) ((hr 9 rfl).trans rfl) (vt ((hs 49 rfl).trans rfl))) ⟨rfl, rfl, rfl, rfl⟩ ?_
        refine AW.seq ?_
        obtain ⟨s23, hs23, h⟩ := bsome h
        refine AW.region ?_
        refine AOps.cons (op_loadA (A := ydA Try.prog (karr 24 kTern) yield1 L) rfl rfl rfl (tyk146 _) (vt rfl) (i := 5) rfl) rfl ?_
        refine AOps.cons (op_load rfl rfl ty106 (vt rfl) (i := 9) rfl) rfl ?_
        refine AOps.cons (op_yield 0 hs23 rfl rfl (vt rfl) (vt rfl) rfl) rfl ?_
        refine AOps.cons (op_not rfl rfl (vt rfl)) rfl ?_
        refine AOps.nil ?_
        refine AW.cond (vt rfl) (fun hc => ?_) (fun hc => ?_)
        · have h := cond_t hc h
          refine AW.ret ?_
          obtain rfl := Option.some.inj h
          exact ⟨_, s23, Turn.refl, rfl, ⟨rfl, rfl, rfl, trivial⟩⟩
        · have h := cond_f hc h
          refine AW.skip ?_
          obtain rfl := Option.some.inj h
          exact ⟨_, s23, Turn.refl, rfl, ⟨rfl, rfl, rfl, trivial⟩⟩
    case he1 =>
      intro D
      cases z13 with
      | go s24 =>
        change _ = some r at h
        obtain rfl := Option.some.inj h
        exact ⟨rfl, 3001, rfl, ret0Y (i := 0) Try.results89 rfl rfl⟩
      | out c s24 =>
        change (bif cRet c then _ else _) = some r at h
        cases hc : cRet c with
        | true =>
          rw [hc] at h
          have hc := cRet_of hc
          subst hc
          change _ = some r at h
          refine AW.ret ?_
          obtain rfl := Option.some.inj h
          exact ⟨rfl, 3001, rfl, ret0Y (i := 0) Try.results89 rfl rfl⟩
        | false =>
          rw [hc] at h
          cases h
def F_differ_Parts (c_gosem_cut : (Vector Tern 24)) (a2 : (List Atom)) (b3 : (List Atom)) : Option (Itr (Vector Tern 24)) :=
  some (Itr.mk fun σ y s => F_differ_Parts_1 σ y s c_gosem_cut a2 b3)
theorem c_differ_Parts (c_gosem_cut : (Vector Tern 24)) (a2 : (List Atom)) (b3 : (List Atom)) (r : (Itr (Vector Tern 24))) (h : F_differ_Parts c_gosem_cut a2 b3 = some r) : PCon Try.prog 56 [rd (karr 24 kTern) c_gosem_cut, rd (ksl kAtom) a2, rd (ksl kAtom) b3] (seqA Try.prog (karr 24 kTern) r) := by
  refine PCon.of (Con.intro0 Try.func56 rfl Try.ntmps56 rfl fun w H => ?_)
  unfold F_differ_Parts at h
  refine AW.seq ?_
  refine AW.region ?_
  refine AOps.consT rfl (op_box 4 rfl rfl (vt rfl)) ?_
  rintro _ ⟨g4, rfl⟩
  refine AOps.consT rfl (op_box 5 rfl rfl (vt rfl)) ?_
  rintro _ ⟨g5, rfl⟩
  refine AOps.consT rfl (op_box 6 rfl rfl (vt rfl)) ?_
  rintro _ ⟨g6, rfl⟩
  refine AOps.cons (op_assign (A := raw .nilFunc) rfl rfl vc) rfl ?_
  refine AOps.nil ?_
  refine AW.seq ?_
  refine AW.freezeB 3 4 rfl rfl rfl ?_
  refine AW.freezeB 4 5 rfl rfl rfl ?_
  refine AW.freezeB 5 6 rfl rfl rfl ?_
  refine AW.region ?_
  refine AOps.cons (op_seq (Itr.mk fun σ y s => F_differ_Parts_1 σ y s c_gosem_cut a2 b3) (cs := [.tmp 3, .tmp 4, .tmp 5]) (CAs := [rp (karr 24 kTern) c_gosem_cut, rp (ksl kAtom) a2, rp (ksl kAtom) b3]) rfl rfl (Ent.mk Try.func89 rfl rfl) ⟨vt rfl, vt rfl, vt rfl, trivial⟩ (fun σ y L s r h => c_differ_Parts_1 σ y L s c_gosem_cut a2 b3 r h)) rfl ?_
  refine AOps.cons (op_assign (A := seqA Try.prog (karr 24 kTern) (Itr.mk fun σ y s => F_differ_Parts_1 σ y s c_gosem_cut a2 b3)) rfl rfl (vt rfl)) rfl ?_
  refine AOps.nil ?_
  refine AW.ret ?_
  obtain rfl := Option.some.inj h
  exact ret1 Try.results56 rfl (out_tmp rfl)
def F_slices_AppendSeq_Cube (q : Itr (Vector Tern 24)) : Option (List (Vector Tern 24)) := collect q
theorem c_slices_AppendSeq_Cube_o (q : Itr (Vector Tern 24)) (r : List (Vector Tern 24)) (h : F_slices_AppendSeq_Cube q = some r) : Con Try.prog 123 [raw (.slice none 0 0), seqA Try.prog (karr 24 kTern) q] emp (fun v => raw v) (fun v => Row v 106 (karr 24 kTern) r) := by
  refine Con.intro0 Try.func123 rfl Try.ntmps123 rfl fun w H => ?_
  have h := collect_of h
  refine AW.newnil 1001 106 (karr 24 kTern) ?_
  refine AW.seq ?_
  refine AW.region ?_
  refine AOps.consT rfl (op_box (k := kraw) 3 rfl rfl (vkr (vt rfl) rfl)) ?_
  rintro _ ⟨g, rfl⟩
  refine AOps.cons (op_assign (A := raw (.slice none 0 0)) rfl rfl vc) rfl ?_
  refine AOps.pack 3 1001 (by decide) rfl rfl ?_
  refine AOps.nil ?_
  refine AW.seq ?_
  refine AW.seq ?_
  refine AW.region ?_
  refine AOps.cons (op_move (A := seqA Try.prog (karr 24 kTern) q) rfl rfl (vt rfl)) rfl ?_
  refine AOps.nil ?_
  refine AW.block ?_
  refine AW.fit (d := []) (L := [(2, ptrL g (Lens.id kraw)), (6, seqA Try.prog (karr 24 kTern) q)]) (M := [(3, BoxRow g 104 106 (karr 24 kTern) [])]) ⟨rfl, ⟨rfl, rfl, trivial⟩, ⟨rfl, trivial⟩⟩ ?_
  refine AW.rangeFunc (fun x => [rd (karr 24 kTern) x]) collectF (fun s => ress [(3, BoxRow g 104 106 (karr 24 kTern) s)]) (fun _ _ => ress []) [(2, ptrL g (Lens.id kraw))]
    (fun s x S1 => ∃ g5, Fit S1 [] [(2, ptrL g (Lens.id kraw)), (5, ptrL g5 (Lens.id (karr 24 kTern)))] [(3, BoxRow g 104 106 (karr 24 kTern) s), (6, Blk g5 106 (karr 24 kTern) x)]) 1003 (s0 := []) (sE := .go r)
    rfl (vt rfl) ⟨rfl, inferInstance, trivial⟩ rfl (fun _ => rfl) (by intro p hp; have hp : p ∈ [7] := hp; rw [List.mem_singleton.1 hp]; show 7 < 13; decide) ?ha ?hb (fun Lf => ⟨top, _, _, Lf, _, _, h, rfl, rfl, rfl, rfl⟩) ?he
  case ha =>
    intro s x r' hF l w H X
    refine AW.region ?_
    refine AOps.consT rfl (op_alloc 6 rfl rfl zr106) ?_
    rintro _ ⟨g5, rfl⟩
    refine AOps.cons (op_store rfl rfl ty106 (vt rfl) (i := 6) rfl (vt rfl)) rfl ?_
    refine AOps.nil ?_
    exact ⟨rfl, g5, rfl, ⟨rfl, rfl, trivial⟩, ⟨rfl, rfl, trivial⟩⟩
  case hb =>
    rintro s x r' hF S1 ⟨g5, hfit⟩ l w H X
    refine AW.fit hfit ?_
    refine AW.bodyOf (M := fun s => [(3, BoxRow g 104 106 (karr 24 kTern) s)]) (Mx := fun _ _ => []) ?_
    obtain ⟨m, hm, hF⟩ := bsome hF
    cases hF
    refine AW.block ?_
    refine AW.unbox 3 1001 (by decide) rfl rfl fun v => ?_
    refine AW.region ?_
    refine AOps.cons (op_loadr (i := 3) rfl rfl tyr104 (vt rfl) rfl) rfl ?_
    refine AOps.cons (op_load rfl rfl ty106 (vt rfl) (i := 6) rfl) rfl ?_
    refine AOps.cons (op_buildSliceR (ps := [(0, .tmp 9)]) (l := [x]) rfl rfl sl104 zr106 rfl rfl ⟨_, _, Lens.idx 1 (karr 24 kTern) 0 (by decide), _, rfl, vt rfl, rfl⟩ rfl) rfl ?_
    refine AOps.consT rfl (op_append' 1001 hm rfl rfl el104 (vt rfl) rfl (vt rfl)) ?_
    rintro _ ⟨v2, rfl⟩
    refine AOps.cons (op_store rfl rfl tyr104 (vt rfl) (i := 3) rfl (vrow (i := 1001) rfl rfl)) rfl ?_
    refine AOps.pack 3 1001 (by decide) rfl rfl ?_
    refine AOps.nil ?_
    exact ⟨_, rfl, rfl, trivial⟩
  case he =>
    intro D
    refine AW.unbox 3 1001 (by decide) rfl rfl fun v => ?_
    refine AW.seq ?_
    refine AW.region ?_
    refine AOps.cons (op_loadr (i := 3) rfl rfl tyr104 (vt rfl) rfl) rfl ?_
    refine AOps.cons (op_assign (A := raw v) rfl rfl (vt rfl)) rfl ?_
    refine AOps.nil ?_
    refine AW.ret ?_
    exact ⟨rfl, 1003, rfl, ret1R (i := 1001) Try.results123 rfl rfl rfl⟩
theorem c_slices_AppendSeq_Cube (q : Itr (Vector Tern 24)) (r : List (Vector Tern 24)) (h : F_slices_AppendSeq_Cube q = some r) : PCon Try.prog 123 [raw (.slice none 0 0), seqA Try.prog (karr 24 kTern) q] (rd (ksl (karr 24 kTern)) r) := PCon.of_row (c_slices_AppendSeq_Cube_o q r h)
def F_slices_Collect_Cube (seq1 : (Itr (Vector Tern 24))) : Option (List (Vector Tern 24)) :=
  (F_slices_AppendSeq_Cube seq1).bind fun x2 => some x2
theorem c_slices_Collect_Cube (seq1 : (Itr (Vector Tern 24))) (r : (List (Vector Tern 24))) (h : F_slices_Collect_Cube seq1 = some r) : PCon Try.prog 85 [seqA Try.prog (karr 24 kTern) seq1] (rd (ksl (karr 24 kTern)) r) := by
  refine PCon.of (Con.intro0 Try.func85 rfl Try.ntmps85 rfl fun w H => ?_)
  unfold F_slices_Collect_Cube at h
  refine AW.seq ?_
  refine AW.region ?_
  refine AOps.cons (op_assign (A := rd (ksl (karr 24 kTern)) []) rfl rfl vnil) rfl ?_
  refine AOps.nil ?_
  refine AW.seq ?_
  obtain ⟨x2, hx2, h⟩ := bsome h
  refine AW.region ?_
  refine AOps.cons (op_move (A := seqA Try.prog (karr 24 kTern) seq1) rfl rfl (vt rfl)) rfl ?_
  refine AOps.cons (op_call (xs := [.const (Value.slice none 0 0), .tmp 3]) (c_slices_AppendSeq_Cube _ _ hx2) (Ent.mk Try.func123 rfl rfl) rfl rfl ⟨vc, vt rfl, trivial⟩) rfl ?_
  refine AOps.cons (op_assign (A := rd (ksl (karr 24 kTern)) x2) rfl rfl (vt rfl)) rfl ?_
  refine AOps.nil ?_
  refine AW.ret ?_
  obtain rfl := Option.some.inj h
  exact ret1 Try.results85 rfl (out_tmp rfl)
end Go.Proofs.Ytknpgojdkobgjaa.W
set_option linter.unusedVariables false
set_option maxRecDepth 4000
set_option linter.unusedSimpArgs false
namespace Go.Proofs.Ytknpgojdkobgjaa.W
open Go Go.Wb
def F_differ_List (c_gosem_cut : (Vector Tern 24)) (a2 : (List Atom)) (b3 : (List Atom)) : Option (List (Vector Tern 24)) :=
  (F_differ_Parts c_gosem_cut a2 b3).bind fun x5 => (F_slices_Collect_Cube x5).bind fun x6 => some x6
theorem c_differ_List (c_gosem_cut : (Vector Tern 24)) (a2 : (List Atom)) (b3 : (List Atom)) (r : (List (Vector Tern 24))) (h : F_differ_List c_gosem_cut a2 b3 = some r) : PCon Try.prog 53 [rd (karr 24 kTern) c_gosem_cut, rd (ksl kAtom) a2, rd (ksl kAtom) b3] (rd (ksl (karr 24 kTern)) r) := by
  refine PCon.of (Con.intro0 Try.func53 rfl Try.ntmps53 rfl fun w H => ?_)
  unfold F_differ_List at h
  refine AW.seq ?_
  refine AW.region ?_
  refine AOps.consT rfl (op_box 4 rfl rfl (vt rfl)) ?_
  rintro _ ⟨g4, rfl⟩
  refine AOps.cons (op_assign (A := rd (ksl (karr 24 kTern)) []) rfl rfl vnil) rfl ?_
  refine AOps.nil ?_
  refine AW.seq ?_
  obtain ⟨x5, hx5, h⟩ := bsome h
  obtain ⟨x6, hx6, h⟩ := bsome h
  refine AW.region ?_
  refine AOps.cons (op_load rfl rfl ty106 (vt rfl) (i := 4) rfl) rfl ?_
  refine AOps.cons (op_move (A := rd (ksl kAtom) a2) rfl rfl (vt rfl)) rfl ?_
  refine AOps.cons (op_move (A := rd (ksl kAtom) b3) rfl rfl (vt rfl)) rfl ?_
  refine AOps.cons (op_call (xs := [.tmp 7, .tmp 8, .tmp 9]) (c_differ_Parts _ _ _ _ hx5) (Ent.mk Try.func56 rfl rfl) rfl rfl ⟨vt rfl, vt rfl, vt rfl, trivial⟩) rfl ?_
  refine AOps.cons (op_call (xs := [.tmp 10]) (c_slices_Collect_Cube _ _ hx6) (Ent.mk Try.func85 rfl rfl) rfl rfl ⟨vt rfl, trivial⟩) rfl ?_
  refine AOps.cons (op_assign (A := rd (ksl (karr 24 kTern)) x6) rfl rfl (vt rfl)) rfl ?_
  refine AOps.nil ?_
  refine AW.ret ?_
  obtain rfl := Option.some.inj h
  exact ret1 Try.results53 rfl (out_tmp rfl)
def F_differ_At_b1 (h3 : (Vector Wide 24)) (b8 : Bool) (x10 : differ_single) : Option (Lp Bool) :=
  (chk 24 x10.field).bind fun j12 => (F_wide_Has (Vector.get h3 j12) x10.bit).bind fun x13 => (bif (!(x13 == x10.on)) then some (.out .ret true) else some (.go b8))
def F_differ_At (a1 : (List Atom)) (b2 : (List Atom)) (h3 : (Vector Wide 24)) : Option Bool :=
  (F_differ_Unlike a1 b2).bind fun x6 => (bif x6 then some true else (F_differ_singles a1 b2).bind fun x7 => (Itr.run x7 Bool (F_differ_At_b1 h3) (.go false)).bind fun z9 => lpCase z9 (fun s14 => some false) (fun c s14 => bif cRet c then some s14 else none))
theorem c_differ_At (a1 : (List Atom)) (b2 : (List Atom)) (h3 : (Vector Wide 24)) (r : Bool) (h : F_differ_At a1 b2 h3 = some r) : PCon Try.prog 26 [rd (ksl kAtom) a1, rd (ksl kAtom) b2, rd (karr 24 kWide) h3] (rd kbool r) := by
  refine PCon.of (Con.intro0 Try.func26 rfl Try.ntmps26 rfl fun w H => ?_)
  unfold F_differ_At at h
  refine AW.seq ?_
  refine AW.region ?_
  refine AOps.consT rfl (op_box 6 rfl rfl (vt rfl)) ?_
  rintro _ ⟨g4, rfl⟩
  refine AOps.consT rfl (op_alloc 7 rfl rfl zr4) ?_
  rintro _ ⟨g5, rfl⟩
  refine AOps.nil ?_
  refine AW.seq ?_
  refine AW.seq ?_
  obtain ⟨x6, hx6, h⟩ := bsome h
  refine AW.region ?_
  refine AOps.cons (op_move (A := rd (ksl kAtom) a1) rfl rfl (vt rfl)) rfl ?_
  refine AOps.cons (op_move (A := rd (ksl kAtom) b2) rfl rfl (vt rfl)) rfl ?_
  refine AOps.cons (op_call (xs := [.tmp 8, .tmp 9]) (c_differ_Unlike _ _ _ hx6) (Ent.mk Try.func55 rfl rfl) rfl rfl ⟨vt rfl, vt rfl, trivial⟩) rfl ?_
  refine AOps.nil ?_
  refine AW.cond (vt rfl) (fun hc => ?_) (fun hc => ?_)
  · have h := cond_t hc h
    refine AW.seq ?_
    refine AW.region ?_
    refine AOps.cons (op_store rfl rfl ty4 (vt rfl) (i := 7) rfl vb) rfl ?_
    refine AOps.nil ?_
    refine AW.ret ?_
    obtain rfl := Option.some.inj h
    exact ret1 Try.results26 rfl (out_cell rfl (i := 7) rfl ty4)
  · have h := cond_f hc h
    refine AW.skip ?_
    refine AW.seq ?_
    refine AW.seq ?_
    obtain ⟨x7, hx7, h⟩ := bsome h
    refine AW.region ?_
    refine AOps.cons (op_move (A := rd (ksl kAtom) a1) rfl rfl (vt rfl)) rfl ?_
    refine AOps.cons (op_move (A := rd (ksl kAtom) b2) rfl rfl (vt rfl)) rfl ?_
    refine AOps.cons (op_call (xs := [.tmp 11, .tmp 12]) (c_differ_singles _ _ _ hx7) (Ent.mk Try.func58 rfl rfl) rfl rfl ⟨vt rfl, vt rfl, trivial⟩) rfl ?_
    refine AOps.nil ?_
    refine AW.block ?_
    obtain ⟨z9, hz9, h⟩ := bsome h
    refine AW.fit (d := []) (L := [(5, ptrL g4 (Lens.id (karr 24 kWide))), (6, ptrL g5 (Lens.id kbool)), (13, seqA Try.prog kdiffer_single x7)]) (M := [(6, Blk g4 30 (karr 24 kWide) h3), (7, Blk g5 4 kbool false)]) ⟨rfl, ⟨rfl, rfl, rfl, trivial⟩, ⟨rfl, rfl, trivial⟩⟩ ?_
    refine AW.rangeFunc (σ := Bool) (fun x => [rd kdiffer_single x]) (F_differ_At_b1 h3) (fun s => ress ((fun s => [(6, Blk g4 30 (karr 24 kWide) h3), (7, Blk g5 4 kbool s)]) s)) (fun _ s => ress ((fun s => [(6, Blk g4 30 (karr 24 kWide) h3), (7, Blk g5 4 kbool s)]) s)) [(5, ptrL g4 (Lens.id (karr 24 kWide))), (6, ptrL g5 (Lens.id kbool))] (fun b8 x10 S1 => ∃ (g11 : Nat), Fit S1 [] [(5, ptrL g4 (Lens.id (karr 24 kWide))), (6, ptrL g5 (Lens.id kbool)), (7, ptrL g11 (Lens.id kdiffer_single))] [(6, Blk g4 30 (karr 24 kWide) h3), (7, Blk g5 4 kbool b8), (8, Blk g11 116 kdiffer_single x10)]) 3001 (s0 := false) (sE := z9) rfl (vt rfl) ⟨rfl, inferInstance, rfl, inferInstance, trivial⟩ rfl (fun _ => rfl) (by intro p hp; have hp : p ∈ [14] := hp; rw [List.mem_singleton.1 hp]; show 14 < 25; decide) ?ha1 ?hb1 (fun Lf => ⟨top, _, _, Lf, _, _, hz9, rfl, rfl, rfl, rfl⟩) ?he1
    case ha1 =>
      rintro b8 x10 r hF l w H X
      refine AW.region ?_
      refine AOps.consT rfl (op_alloc 8 rfl rfl zr116) ?_
      rintro _ ⟨g11, rfl⟩
      refine AOps.cons (op_store rfl rfl ty116 (vt rfl) (i := 8) rfl (vt rfl)) rfl ?_
      refine AOps.nil ?_
      exact ⟨rfl, g11, rfl, ⟨rfl, rfl, rfl, trivial⟩, ⟨rfl, rfl, rfl, trivial⟩⟩
    case hb1 =>
      rintro b8 x10 r h S1 ⟨g11, hfit⟩ l w H X
      refine AW.fit (d := []) (L := [(5, ptrL g4 (Lens.id (karr 24 kWide))), (6, ptrL g5 (Lens.id kbool)), (7, ptrL g11 (Lens.id kdiffer_single))]) (M := [(6, Blk g4 30 (karr 24 kWide) h3), (7, Blk g5 4 kbool b8), (8, Blk g11 116 kdiffer_single x10)]) hfit ?_
      refine AW.bodyT ?_
      change F_differ_At_b1 h3 b8 x10 = some r at h
      unfold F_differ_At_b1 at h
      refine AW.block ?_
      refine AW.seq ?_
      obtain ⟨j12, hj12, h⟩ := bsome h
      obtain ⟨x13, hx13, h⟩ := bsome h
      refine AW.regionAny [⟨[7], [15], [], []⟩, ⟨[15], [16], [8], []⟩, ⟨[5, 16], [17], [], []⟩, ⟨[17], [18], [6], []⟩, ⟨[7], [19], [], []⟩, ⟨[19], [20], [8], []⟩, ⟨[18, 20], [21], [], []⟩, ⟨[7], [22], [], []⟩, ⟨[22], [23], [8], []⟩, ⟨[21, 23], [24], [], []⟩] mixed (by kernel_rfl) ?_
      refine SeqA.cons (loc [7] [] rfl rfl fun S hs hr => op_field ldiffer_single_0 rfl rfl fl116_0 (vt ((hs 7 rfl).trans rfl))) ⟨rfl, rfl, rfl, rfl⟩ ?_
      refine SeqA.cons (loc [15] [8] rfl rfl fun S hs hr => op_load rfl rfl ty3 (vt ((hs 15 rfl).trans rfl)) (i := 8) ((hr 8 rfl).trans rfl)) ⟨rfl, rfl, rfl, rfl⟩ ?_
      refine SeqA.cons (loc [5, 16] [] rfl rfl fun S hs hr => op_index' rfl rfl ar30 (vt ((hs 5 rfl).trans rfl)) (vt ((hs 16 rfl).trans rfl)) hj12) ⟨rfl, rfl, rfl, rfl⟩ ?_
      refine SeqA.cons (loc [17] [6] rfl rfl fun S hs hr => op_load rfl rfl ty28 (vt ((hs 17 rfl).trans rfl)) (i := 6) ((hr 6 rfl).trans rfl)) ⟨rfl, rfl, rfl, rfl⟩ ?_
      refine SeqA.cons (loc [7] [] rfl rfl fun S hs hr => op_field ldiffer_single_1 rfl rfl fl116_1 (vt ((hs 7 rfl).trans rfl))) ⟨rfl, rfl, rfl, rfl⟩ ?_
      refine SeqA.cons (loc [19] [8] rfl rfl fun S hs hr => op_load rfl rfl ty3 (vt ((hs 19 rfl).trans rfl)) (i := 8) ((hr 8 rfl).trans rfl)) ⟨rfl, rfl, rfl, rfl⟩ ?_
      refine SeqA.cons (loc [18, 20] [] rfl rfl fun S hs hr => op_call (xs := [.tmp 18, .tmp 20]) (c_wide_Has _ _ _ hx13) (Ent.mk Try.func59 rfl rfl) rfl rfl ⟨vt ((hs 18 rfl).trans rfl), vt ((hs 20 rfl).trans rfl), trivial⟩) ⟨rfl, rfl, rfl, rfl⟩ ?_
      refine SeqA.cons (loc [7] [] rfl rfl fun S hs hr => op_field ldiffer_single_2 rfl rfl fl116_2 (vt ((hs 7 rfl).trans rfl))) ⟨rfl, rfl, rfl, rfl⟩ ?_
      refine SeqA.cons (loc [22] [8] rfl rfl fun S hs hr => op_load rfl rfl ty4 (vt ((hs 22 rfl).trans rfl)) (i := 8) ((hr 8 rfl).trans rfl)) ⟨rfl, rfl, rfl, rfl⟩ ?_
      refine SeqA.cons (loc [21, 23] [] rfl rfl fun S hs hr => op_neqb rfl rfl un4 (vt ((hs 21 rfl).trans rfl)) (vt ((hs 23 rfl).trans rfl))) ⟨rfl, rfl, rfl, rfl⟩ ?_
      refine AW.cond (vt rfl) (fun hc => ?_) (fun hc => ?_)
      · have h := cond_t hc h
        refine AW.seq ?_
        refine AW.region ?_
        refine AOps.cons (op_store rfl rfl ty4 (vt rfl) (i := 7) rfl vb) rfl ?_
        refine AOps.nil ?_
        refine AW.ret ?_
        obtain rfl := Option.some.inj h
        exact ⟨_, true, Turn.refl, rfl, ⟨rfl, rfl, trivial⟩⟩
      · have h := cond_f hc h
        refine AW.skip ?_
        obtain rfl := Option.some.inj h
        exact ⟨_, b8, Turn.refl, rfl, ⟨rfl, rfl, trivial⟩⟩
    case he1 =>
      intro D
      cases z9 with
      | go s14 =>
        change _ = some r at h
        refine AW.seq ?_
        refine AW.region ?_
        refine AOps.cons (op_store rfl rfl ty4 (vt rfl) (i := 7) rfl vb) rfl ?_
        refine AOps.nil ?_
        refine AW.ret ?_
        obtain rfl := Option.some.inj h
        exact ⟨rfl, 3001, rfl, ret1 Try.results26 rfl (out_cell rfl (i := 7) rfl ty4)⟩
      | out c s14 =>
        change (bif cRet c then _ else _) = some r at h
        cases hc : cRet c with
        | true =>
          rw [hc] at h
          have hc := cRet_of hc
          subst hc
          change _ = some r at h
          refine AW.ret ?_
          obtain rfl := Option.some.inj h
          exact ⟨rfl, 3001, rfl, ret1 Try.results26 rfl (out_cell rfl (i := 7) rfl ty4)⟩
        | false =>
          rw [hc] at h
          cases h
def F_l39_awake : Option Bool :=
  (F_cube_All).bind fun x1 => (F_differ_List x1 [(⟨(Vector.set (Vector.replicate 24 zTern) 0 (⟨(⟨0, (1 : BitVec 64)⟩ : Wide), (⟨0, (1 : BitVec 64)⟩ : Wide)⟩ : Tern) (by decide)), false, 1, 0⟩ : Atom)] [(⟨(Vector.replicate 24 zTern), false, 1, 0⟩ : Atom)]).bind fun x2 => (F_differ_Unlike [(⟨(Vector.set (Vector.replicate 24 zTern) 0 (⟨(⟨0, (1 : BitVec 64)⟩ : Wide), (⟨0, (1 : BitVec 64)⟩ : Wide)⟩ : Tern) (by decide)), false, 1, 0⟩ : Atom)] [(⟨(Vector.replicate 24 zTern), false, 1, 0⟩ : Atom)]).bind fun x3 => (opt (!x3) (F_differ_Unlike [(⟨(Vector.set (Vector.replicate 24 zTern) 0 (⟨(⟨0, (1 : BitVec 64)⟩ : Wide), (⟨0, (1 : BitVec 64)⟩ : Wide)⟩ : Tern) (by decide)), false, 1, 0⟩ : Atom)] [])).bind fun x4 => (opt (((!x3) && x4) && (decide ((x2.length : Int) = 1))) (lget x2 0)).bind fun e5 => (opt ((((!x3) && x4) && (decide ((x2.length : Int) = 1))) && (decide ((((Vector.get e5 (⟨0, by decide⟩ : _root_.Fin 24)).Mask).Lo) = (1 : BitVec 64)))) (lget x2 0)).bind fun e6 => (opt (((((!x3) && x4) && (decide ((x2.length : Int) = 1))) && (decide ((((Vector.get e5 (⟨0, by decide⟩ : _root_.Fin 24)).Mask).Lo) = (1 : BitVec 64)))) && (decide ((((Vector.get e6 (⟨0, by decide⟩ : _root_.Fin 24)).Value).Lo) = (0 : BitVec 64)))) (F_differ_At [(⟨(Vector.set (Vector.replicate 24 zTern) 0 (⟨(⟨0, (1 : BitVec 64)⟩ : Wide), (⟨0, (1 : BitVec 64)⟩ : Wide)⟩ : Tern) (by decide)), false, 1, 0⟩ : Atom)] [(⟨(Vector.replicate 24 zTern), false, 1, 0⟩ : Atom)] (Vector.replicate 24 zWide))).bind fun x7 => (opt ((((((!x3) && x4) && (decide ((x2.length : Int) = 1))) && (decide ((((Vector.get e5 (⟨0, by decide⟩ : _root_.Fin 24)).Mask).Lo) = (1 : BitVec 64)))) && (decide ((((Vector.get e6 (⟨0, by decide⟩ : _root_.Fin 24)).Value).Lo) = (0 : BitVec 64)))) && x7) (F_differ_At [(⟨(Vector.set (Vector.replicate 24 zTern) 0 (⟨(⟨0, (1 : BitVec 64)⟩ : Wide), (⟨0, (1 : BitVec 64)⟩ : Wide)⟩ : Tern) (by decide)), false, 1, 0⟩ : Atom)] [(⟨(Vector.replicate 24 zTern), false, 1, 0⟩ : Atom)] (Vector.set (Vector.replicate 24 zWide) 0 (⟨0, (1 : BitVec 64)⟩ : Wide) (by decide)))).bind fun x8 => (opt (((((((!x3) && x4) && (decide ((x2.length : Int) = 1))) && (decide ((((Vector.get e5 (⟨0, by decide⟩ : _root_.Fin 24)).Mask).Lo) = (1 : BitVec 64)))) && (decide ((((Vector.get e6 (⟨0, by decide⟩ : _root_.Fin 24)).Value).Lo) = (0 : BitVec 64)))) && x7) && (!x8)) (F_cube_All)).bind fun x9 => (opt (((((((!x3) && x4) && (decide ((x2.length : Int) = 1))) && (decide ((((Vector.get e5 (⟨0, by decide⟩ : _root_.Fin 24)).Mask).Lo) = (1 : BitVec 64)))) && (decide ((((Vector.get e6 (⟨0, by decide⟩ : _root_.Fin 24)).Value).Lo) = (0 : BitVec 64)))) && x7) && (!x8)) (F_differ_Parts x9 [(⟨(Vector.set (Vector.replicate 24 zTern) 0 (⟨(⟨0, (1 : BitVec 64)⟩ : Wide), (⟨0, (1 : BitVec 64)⟩ : Wide)⟩ : Tern) (by decide)), false, 1, 0⟩ : Atom)] [(⟨(Vector.replicate 24 zTern), false, 1, 0⟩ : Atom)])).bind fun x10 => some ((((((((!x3) && x4) && (decide ((x2.length : Int) = 1))) && (decide ((((Vector.get e5 (⟨0, by decide⟩ : _root_.Fin 24)).Mask).Lo) = (1 : BitVec 64)))) && (decide ((((Vector.get e6 (⟨0, by decide⟩ : _root_.Fin 24)).Value).Lo) = (0 : BitVec 64)))) && x7) && (!x8)) && true)
theorem c_l39_awake (r : Bool) (h : F_l39_awake = some r) : PCon Try.prog 24 [] (rd kbool r) := by
  refine PCon.of (Con.intro0 Try.func24 rfl Try.ntmps24 rfl fun w H => ?_)
  unfold F_l39_awake at h
  refine AW.seq ?_
  refine AW.region ?_
  refine AOps.cons (op_assign (A := rd kbool false) rfl rfl vb) rfl ?_
  refine AOps.nil ?_
  refine AW.seq ?_
  refine AW.region ?_
  refine AOps.cons (op_build (ps := [(1, .const (Value.int IntKind.u64 1))]) (x := (⟨0, (1 : BitVec 64)⟩ : Wide)) rfl rfl rfl (by kernel_rfl) zr28 ⟨_, _, lWide_1, _, by kernel_rfl, (vku (1 : BitVec 64) rfl), rfl⟩) rfl ?_
  refine AOps.cons (op_build (ps := [(1, .const (Value.int IntKind.u64 1))]) (x := (⟨0, (1 : BitVec 64)⟩ : Wide)) rfl rfl rfl (by kernel_rfl) zr28 ⟨_, _, lWide_1, _, by kernel_rfl, (vku (1 : BitVec 64) rfl), rfl⟩) rfl ?_
  refine AOps.cons (op_build (ps := [(0, .tmp 4), (1, .tmp 5)]) (x := (⟨(⟨0, (1 : BitVec 64)⟩ : Wide), (⟨0, (1 : BitVec 64)⟩ : Wide)⟩ : Tern)) rfl rfl rfl (by kernel_rfl) zr49 ⟨_, _, lTern_0, _, by kernel_rfl, (vt rfl), _, _, lTern_1, _, by kernel_rfl, (vt rfl), rfl⟩) rfl ?_
  refine AOps.cons (op_build (ps := [(0, .tmp 6)]) (x := (Vector.set (Vector.replicate 24 zTern) 0 (⟨(⟨0, (1 : BitVec 64)⟩ : Wide), (⟨0, (1 : BitVec 64)⟩ : Wide)⟩ : Tern) (by decide))) rfl rfl rfl (by kernel_rfl) zr51 ⟨_, _, Lens.idx 24 kTern 0 (by decide), _, by kernel_rfl, (vt rfl), rfl⟩) rfl ?_
  refine AOps.cons (op_build (ps := [(2, .const (Value.int IntKind.i64 1)), (0, .tmp 7)]) (x := (⟨(Vector.set (Vector.replicate 24 zTern) 0 (⟨(⟨0, (1 : BitVec 64)⟩ : Wide), (⟨0, (1 : BitVec 64)⟩ : Wide)⟩ : Tern) (by decide)), false, 1, 0⟩ : Atom)) rfl rfl rfl (by kernel_rfl) zr53 ⟨_, _, lAtom_2, _, by kernel_rfl, (vk rfl), _, _, lAtom_0, _, by kernel_rfl, (vt rfl), rfl⟩) rfl ?_
  refine AOps.cons (op_buildSliceR (ps := [(0, .tmp 8)]) (l := [(⟨(Vector.set (Vector.replicate 24 zTern) 0 (⟨(⟨0, (1 : BitVec 64)⟩ : Wide), (⟨0, (1 : BitVec 64)⟩ : Wide)⟩ : Tern) (by decide)), false, 1, 0⟩ : Atom)]) rfl rfl sl44 zr53 rfl rfl ⟨_, _, Lens.idx 1 kAtom 0 (by decide), _, rfl, (vt rfl), rfl⟩ rfl) rfl ?_
  refine AOps.cons (op_assign (A := rd (ksl kAtom) [(⟨(Vector.set (Vector.replicate 24 zTern) 0 (⟨(⟨0, (1 : BitVec 64)⟩ : Wide), (⟨0, (1 : BitVec 64)⟩ : Wide)⟩ : Tern) (by decide)), false, 1, 0⟩ : Atom)]) rfl rfl (vt rfl)) rfl ?_
  refine AOps.nil ?_
  refine AW.seq ?_
  refine AW.region ?_
  refine AOps.cons (op_build (ps := [(2, .const (Value.int IntKind.i64 1))]) (x := (⟨(Vector.replicate 24 zTern), false, 1, 0⟩ : Atom)) rfl rfl rfl (by kernel_rfl) zr53 ⟨_, _, lAtom_2, _, by kernel_rfl, (vk rfl), rfl⟩) rfl ?_
  refine AOps.cons (op_buildSliceR (ps := [(0, .tmp 10)]) (l := [(⟨(Vector.replicate 24 zTern), false, 1, 0⟩ : Atom)]) rfl rfl sl44 zr53 rfl rfl ⟨_, _, Lens.idx 1 kAtom 0 (by decide), _, rfl, (vt rfl), rfl⟩ rfl) rfl ?_
  refine AOps.cons (op_assign (A := rd (ksl kAtom) [(⟨(Vector.replicate 24 zTern), false, 1, 0⟩ : Atom)]) rfl rfl (vt rfl)) rfl ?_
  refine AOps.nil ?_
  refine AW.seq ?_
  obtain ⟨x1, hx1, h⟩ := bsome h
  obtain ⟨x2, hx2, h⟩ := bsome h
  refine AW.region ?_
  refine AOps.cons (op_call (xs := []) (c_cube_All _ hx1) (Ent.mk Try.func54 rfl rfl) rfl rfl trivial) rfl ?_
  refine AOps.cons (op_move (A := rd (ksl kAtom) [(⟨(Vector.set (Vector.replicate 24 zTern) 0 (⟨(⟨0, (1 : BitVec 64)⟩ : Wide), (⟨0, (1 : BitVec 64)⟩ : Wide)⟩ : Tern) (by decide)), false, 1, 0⟩ : Atom)]) rfl rfl (vt rfl)) rfl ?_
  refine AOps.cons (op_move (A := rd (ksl kAtom) [(⟨(Vector.replicate 24 zTern), false, 1, 0⟩ : Atom)]) rfl rfl (vt rfl)) rfl ?_
  refine AOps.cons (op_call (xs := [.tmp 12, .tmp 13, .tmp 14]) (c_differ_List _ _ _ _ hx2) (Ent.mk Try.func53 rfl rfl) rfl rfl ⟨vt rfl, vt rfl, vt rfl, trivial⟩) rfl ?_
  refine AOps.cons (op_assign (A := rd (ksl (karr 24 kTern)) x2) rfl rfl (vt rfl)) rfl ?_
  refine AOps.nil ?_
  refine AW.seq ?_
  obtain ⟨x3, hx3, h⟩ := bsome h
  obtain ⟨x4, hx4, h⟩ := bsome h
  obtain ⟨e5, he5, h⟩ := bsome h
  obtain ⟨e6, he6, h⟩ := bsome h
  obtain ⟨x7, hx7, h⟩ := bsome h
  obtain ⟨x8, hx8, h⟩ := bsome h
  obtain ⟨x9, hx9, h⟩ := bsome h
  obtain ⟨x10, hx10, h⟩ := bsome h
  refine AW.region ?_
  refine AOps.cons (op_move (A := rd (ksl kAtom) [(⟨(Vector.set (Vector.replicate 24 zTern) 0 (⟨(⟨0, (1 : BitVec 64)⟩ : Wide), (⟨0, (1 : BitVec 64)⟩ : Wide)⟩ : Tern) (by decide)), false, 1, 0⟩ : Atom)]) rfl rfl (vt rfl)) rfl ?_
  refine AOps.cons (op_move (A := rd (ksl kAtom) [(⟨(Vector.replicate 24 zTern), false, 1, 0⟩ : Atom)]) rfl rfl (vt rfl)) rfl ?_
  refine AOps.cons (op_call (xs := [.tmp 16, .tmp 17]) (c_differ_Unlike _ _ _ hx3) (Ent.mk Try.func55 rfl rfl) rfl rfl ⟨vt rfl, vt rfl, trivial⟩) rfl ?_
  refine AOps.cons (op_not rfl rfl (vt rfl)) rfl ?_
  refine AOps.cons (op_move (A := rd kbool (!x3)) rfl rfl (vt rfl)) rfl ?_
  refine AOps.consG (OpG.guard rfl rfl rfl rfl rfl fun hq => op_move (A := rd (ksl kAtom) [(⟨(Vector.set (Vector.replicate 24 zTern) 0 (⟨(⟨0, (1 : BitVec 64)⟩ : Wide), (⟨0, (1 : BitVec 64)⟩ : Wide)⟩ : Tern) (by decide)), false, 1, 0⟩ : Atom)]) rfl rfl (vt rfl)) ?_
  refine AOps.consG (OpG.guard rfl rfl rfl rfl rfl fun hq => op_call (xs := [.tmp 21, .const (Value.slice none 0 0)]) (c_differ_Unlike _ _ _ (opt_t hx4 hq)) (Ent.mk Try.func55 rfl rfl) rfl rfl ⟨vgt rfl hq, vnil, trivial⟩) ?_
  refine AOps.cons (op_all rfl rfl (vt rfl) (vt rfl)) rfl ?_
  refine AOps.cons (op_move (A := rd kbool ((!x3) && x4)) rfl rfl (vt rfl)) rfl ?_
  refine AOps.consG (OpG.guard rfl rfl rfl rfl rfl fun hq => op_move (A := rd (ksl (karr 24 kTern)) x2) rfl rfl (vt rfl)) ?_
  refine AOps.consG (OpG.guard rfl rfl rfl rfl rfl fun hq => op_len' rfl rfl sl104 (vgt rfl hq)) ?_
  refine AOps.consG (OpG.guard rfl rfl rfl rfl rfl fun hq => op_eql rfl rfl (vgt rfl hq) (vk rfl)) ?_
  refine AOps.cons (op_all rfl rfl (vt rfl) (vt rfl)) rfl ?_
  refine AOps.cons (op_move (A := rd kbool (((!x3) && x4) && (decide ((x2.length : Int) = 1)))) rfl rfl (vt rfl)) rfl ?_
  refine AOps.consG (OpG.guard rfl rfl rfl rfl rfl fun hq => op_move (A := rd (ksl (karr 24 kTern)) x2) rfl rfl (vt rfl)) ?_
  refine AOps.consG (OpG.guard rfl rfl rfl rfl rfl fun hq => op_indexs' rfl rfl sl104 (vgt rfl hq) (vk rfl) (opt_t he5 hq)) ?_
  refine AOps.consG (OpG.guard rfl rfl rfl rfl rfl fun hq => op_indexp' rfl rfl ar106 (vgt rfl hq) (vk rfl) rfl) ?_
  refine AOps.consG (OpG.guard rfl rfl rfl rfl rfl fun hq => op_fieldp lTern_1 rfl rfl fl49_1 (vgt rfl hq)) ?_
  refine AOps.consG (OpG.guard rfl rfl rfl rfl rfl fun hq => op_fieldp lWide_1 rfl rfl fl28_1 (vgt rfl hq)) ?_
  refine AOps.consG (OpG.guard rfl rfl rfl rfl rfl fun hq => op_loadp rfl rfl ty26 (vgt rfl hq)) ?_
  refine AOps.consG (OpG.guard rfl rfl rfl rfl rfl fun hq => op_eqlu rfl rfl (vgt rfl hq) (vku (1 : BitVec 64) rfl)) ?_
  refine AOps.cons (op_all rfl rfl (vt rfl) (vt rfl)) rfl ?_
  refine AOps.cons (op_move (A := rd kbool ((((!x3) && x4) && (decide ((x2.length : Int) = 1))) && (decide ((((Vector.get e5 (⟨0, by decide⟩ : _root_.Fin 24)).Mask).Lo) = (1 : BitVec 64))))) rfl rfl (vt rfl)) rfl ?_
  refine AOps.consG (OpG.guard rfl rfl rfl rfl rfl fun hq => op_move (A := rd (ksl (karr 24 kTern)) x2) rfl rfl (vt rfl)) ?_
  refine AOps.consG (OpG.guard rfl rfl rfl rfl rfl fun hq => op_indexs' rfl rfl sl104 (vgt rfl hq) (vk rfl) (opt_t he6 hq)) ?_
  refine AOps.consG (OpG.guard rfl rfl rfl rfl rfl fun hq => op_indexp' rfl rfl ar106 (vgt rfl hq) (vk rfl) rfl) ?_
  refine AOps.consG (OpG.guard rfl rfl rfl rfl rfl fun hq => op_fieldp lTern_0 rfl rfl fl49_0 (vgt rfl hq)) ?_
  refine AOps.consG (OpG.guard rfl rfl rfl rfl rfl fun hq => op_fieldp lWide_1 rfl rfl fl28_1 (vgt rfl hq)) ?_
  refine AOps.consG (OpG.guard rfl rfl rfl rfl rfl fun hq => op_loadp rfl rfl ty26 (vgt rfl hq)) ?_
  refine AOps.consG (OpG.guard rfl rfl rfl rfl rfl fun hq => op_eqlu rfl rfl (vgt rfl hq) (vku (0 : BitVec 64) rfl)) ?_
  refine AOps.cons (op_all rfl rfl (vt rfl) (vt rfl)) rfl ?_
  refine AOps.cons (op_move (A := rd kbool (((((!x3) && x4) && (decide ((x2.length : Int) = 1))) && (decide ((((Vector.get e5 (⟨0, by decide⟩ : _root_.Fin 24)).Mask).Lo) = (1 : BitVec 64)))) && (decide ((((Vector.get e6 (⟨0, by decide⟩ : _root_.Fin 24)).Value).Lo) = (0 : BitVec 64))))) rfl rfl (vt rfl)) rfl ?_
  refine AOps.consG (OpG.guard rfl rfl rfl rfl rfl fun hq => op_move (A := rd (ksl kAtom) [(⟨(Vector.set (Vector.replicate 24 zTern) 0 (⟨(⟨0, (1 : BitVec 64)⟩ : Wide), (⟨0, (1 : BitVec 64)⟩ : Wide)⟩ : Tern) (by decide)), false, 1, 0⟩ : Atom)]) rfl rfl (vt rfl)) ?_
  refine AOps.consG (OpG.guard rfl rfl rfl rfl rfl fun hq => op_move (A := rd (ksl kAtom) [(⟨(Vector.replicate 24 zTern), false, 1, 0⟩ : Atom)]) rfl rfl (vt rfl)) ?_
  refine AOps.consG (OpG.guard rfl rfl rfl rfl rfl fun hq => op_build (ps := []) (x := (Vector.replicate 24 zWide)) rfl rfl rfl (by kernel_rfl) zr30 rfl) ?_
  refine AOps.consG (OpG.guard rfl rfl rfl rfl rfl fun hq => op_call (xs := [.tmp 48, .tmp 49, .tmp 50]) (c_differ_At _ _ _ _ (opt_t hx7 hq)) (Ent.mk Try.func26 rfl rfl) rfl rfl ⟨vgt rfl hq, vgt rfl hq, vgt rfl hq, trivial⟩) ?_
  refine AOps.cons (op_all rfl rfl (vt rfl) (vt rfl)) rfl ?_
  refine AOps.cons (op_move (A := rd kbool ((((((!x3) && x4) && (decide ((x2.length : Int) = 1))) && (decide ((((Vector.get e5 (⟨0, by decide⟩ : _root_.Fin 24)).Mask).Lo) = (1 : BitVec 64)))) && (decide ((((Vector.get e6 (⟨0, by decide⟩ : _root_.Fin 24)).Value).Lo) = (0 : BitVec 64)))) && x7)) rfl rfl (vt rfl)) rfl ?_
  refine AOps.consG (OpG.guard rfl rfl rfl rfl rfl fun hq => op_move (A := rd (ksl kAtom) [(⟨(Vector.set (Vector.replicate 24 zTern) 0 (⟨(⟨0, (1 : BitVec 64)⟩ : Wide), (⟨0, (1 : BitVec 64)⟩ : Wide)⟩ : Tern) (by decide)), false, 1, 0⟩ : Atom)]) rfl rfl (vt rfl)) ?_
  refine AOps.consG (OpG.guard rfl rfl rfl rfl rfl fun hq => op_move (A := rd (ksl kAtom) [(⟨(Vector.replicate 24 zTern), false, 1, 0⟩ : Atom)]) rfl rfl (vt rfl)) ?_
  refine AOps.consG (OpG.guard rfl rfl rfl rfl rfl fun hq => op_build (ps := [(1, .const (Value.int IntKind.u64 1))]) (x := (⟨0, (1 : BitVec 64)⟩ : Wide)) rfl rfl rfl (by kernel_rfl) zr28 ⟨_, _, lWide_1, _, by kernel_rfl, (vku (1 : BitVec 64) rfl), rfl⟩) ?_
  refine AOps.consG (OpG.guard rfl rfl rfl rfl rfl fun hq => op_build (ps := [(0, .tmp 56)]) (x := (Vector.set (Vector.replicate 24 zWide) 0 (⟨0, (1 : BitVec 64)⟩ : Wide) (by decide))) rfl rfl rfl (by kernel_rfl) zr30 ⟨_, _, Lens.idx 24 kWide 0 (by decide), _, by kernel_rfl, (vgt rfl hq), rfl⟩) ?_
  refine AOps.consG (OpG.guard rfl rfl rfl rfl rfl fun hq => op_call (xs := [.tmp 54, .tmp 55, .tmp 57]) (c_differ_At _ _ _ _ (opt_t hx8 hq)) (Ent.mk Try.func26 rfl rfl) rfl rfl ⟨vgt rfl hq, vgt rfl hq, vgt rfl hq, trivial⟩) ?_
  refine AOps.consG (OpG.guard rfl rfl rfl rfl rfl fun hq => op_not rfl rfl (vgt rfl hq)) ?_
  refine AOps.cons (op_all rfl rfl (vt rfl) (vt rfl)) rfl ?_
  refine AOps.cons (op_move (A := rd kbool (((((((!x3) && x4) && (decide ((x2.length : Int) = 1))) && (decide ((((Vector.get e5 (⟨0, by decide⟩ : _root_.Fin 24)).Mask).Lo) = (1 : BitVec 64)))) && (decide ((((Vector.get e6 (⟨0, by decide⟩ : _root_.Fin 24)).Value).Lo) = (0 : BitVec 64)))) && x7) && (!x8))) rfl rfl (vt rfl)) rfl ?_
  refine AOps.consG (OpG.guard rfl rfl rfl rfl rfl fun hq => op_call (xs := []) (c_cube_All _ (opt_t hx9 hq)) (Ent.mk Try.func54 rfl rfl) rfl rfl trivial) ?_
  refine AOps.consG (OpG.guard rfl rfl rfl rfl rfl fun hq => op_move (A := rd (ksl kAtom) [(⟨(Vector.set (Vector.replicate 24 zTern) 0 (⟨(⟨0, (1 : BitVec 64)⟩ : Wide), (⟨0, (1 : BitVec 64)⟩ : Wide)⟩ : Tern) (by decide)), false, 1, 0⟩ : Atom)]) rfl rfl (vt rfl)) ?_
  refine AOps.consG (OpG.guard rfl rfl rfl rfl rfl fun hq => op_move (A := rd (ksl kAtom) [(⟨(Vector.replicate 24 zTern), false, 1, 0⟩ : Atom)]) rfl rfl (vt rfl)) ?_
  refine AOps.consG (OpG.guard rfl rfl rfl rfl rfl fun hq => op_call (xs := [.tmp 62, .tmp 63, .tmp 64]) (c_differ_Parts _ _ _ _ (opt_t hx10 hq)) (Ent.mk Try.func56 rfl rfl) rfl rfl ⟨vgt rfl hq, vgt rfl hq, vgt rfl hq, trivial⟩) ?_
  refine AOps.consG (OpG.guard rfl rfl rfl rfl rfl fun hq => op_neqseq rfl rfl uf110 (vgt rfl hq)) ?_
  refine AOps.cons (op_all rfl rfl (vt rfl) (vt rfl)) rfl ?_
  refine AOps.cons (op_assign (A := rd kbool ((((((((!x3) && x4) && (decide ((x2.length : Int) = 1))) && (decide ((((Vector.get e5 (⟨0, by decide⟩ : _root_.Fin 24)).Mask).Lo) = (1 : BitVec 64)))) && (decide ((((Vector.get e6 (⟨0, by decide⟩ : _root_.Fin 24)).Value).Lo) = (0 : BitVec 64)))) && x7) && (!x8)) && true)) rfl rfl (vt rfl)) rfl ?_
  refine AOps.nil ?_
  refine AW.ret ?_
  obtain rfl := Option.some.inj h
  exact ret1 Try.results24 rfl (out_tmp rfl)
def F_slices_Clone_Atom (s : List Atom) : Option (List Atom) := appd [] s
theorem c_slices_Clone_Atom_o (s : List Atom) (r : List Atom) (h : F_slices_Clone_Atom s = some r) : Con Try.prog 57 [rd (ksl kAtom) s] emp (fun v => raw v) (fun v => Row v 53 kAtom r) := by
  refine Con.intro0 Try.func57 rfl Try.ntmps57 rfl fun w H => ?_
  unfold F_slices_Clone_Atom at h
  refine AW.newnil 1001 53 kAtom ?_
  refine AW.seq ?_
  refine AW.region ?_
  refine AOps.cons (op_assign (A := raw (.slice none 0 0)) rfl rfl vc) rfl ?_
  refine AOps.nil ?_
  refine AW.seq ?_
  refine AW.seq ?_
  refine AW.region ?_
  refine AOps.cons (op_move (A := rd (ksl kAtom) s) rfl rfl (vt rfl)) rfl ?_
  refine AOps.consT rfl (op_eqnil rfl rfl sl44 (vt rfl)) ?_
  rintro _ ⟨b, hb, rfl⟩
  refine AOps.nil ?_
  refine AW.cond (vt rfl) (fun hc => ?_) (fun hc => ?_)
  · obtain rfl := hb hc
    refine AW.seq ?_
    refine AW.region ?_
    refine AOps.cons (op_assign (A := raw (.slice none 0 0)) rfl rfl vc) rfl ?_
    refine AOps.nil ?_
    refine AW.ret ?_
    obtain rfl := (appd_of h).2
    exact ret1R (i := 1001) Try.results57 rfl rfl rfl
  · refine AW.skip ?_
    refine AW.seq ?_
    refine AW.region ?_
    refine AOps.consT rfl (op_buildSlice 1002 (ps := []) (l := []) rfl rfl sl44 zr53 rfl rfl rfl rfl) ?_
    rintro _ ⟨v1, rfl⟩
    refine AOps.cons (op_move (A := rd (ksl kAtom) s) rfl rfl (vt rfl)) rfl ?_
    refine AOps.consT rfl (op_append' 1002 h rfl rfl el44 (vt rfl) rfl (vt rfl)) ?_
    rintro _ ⟨v2, rfl⟩
    refine AOps.cons (op_assign (A := raw v2) rfl rfl (vt rfl)) rfl ?_
    refine AOps.nil ?_
    refine AW.ret ?_
    exact ret1R (i := 1002) Try.results57 rfl rfl rfl
theorem c_slices_Clone_Atom (s : List Atom) (r : List Atom) (h : F_slices_Clone_Atom s = some r) : PCon Try.prog 57 [rd (ksl kAtom) s] (rd (ksl kAtom) r) := PCon.of_row (c_slices_Clone_Atom_o s r h)
def F_l39_none_l1 : Nat → Nat → (List Atom) → Option (List Atom)
  | 0, i6, l5 => some l5
  | m7 + 1, i6, l5 => (lget l5 (i6 : Int)).bind fun e8 => (F_l39_none_l1 m7) (i6 + 1) (List.set l5 (i6 : Int).toNat { e8 with Group := false })
def F_l39_none (l1 : (List Atom)) : Option (List Atom) :=
  (F_slices_Clone_Atom l1).bind fun x2 => F_l39_none_l1 ((x2.length : Int) : Int).toNat 0 x2
theorem c_l39_none (l1 : (List Atom)) (r : (List Atom)) (h : F_l39_none l1 = some r) : PCon Try.prog 25 [rd (ksl kAtom) l1] (rd (ksl kAtom) r) := by
  refine PCon.of (Con.intro0 Try.func25 rfl Try.ntmps25 rfl fun w H => ?_)
  unfold F_l39_none at h
  refine AW.seq ?_
  refine AW.region ?_
  refine AOps.cons (op_assign (A := rd (ksl kAtom) []) rfl rfl vnil) rfl ?_
  refine AOps.nil ?_
  refine AW.seq ?_
  obtain ⟨x2, hx2, h⟩ := bsome h
  refine AW.region ?_
  refine AOps.cons (op_move (A := rd (ksl kAtom) l1) rfl rfl (vt rfl)) rfl ?_
  refine AOps.consT rfl (op_callR 1001 (xs := [.tmp 5]) (c_slices_Clone_Atom_o _ _ hx2) (Ent.mk Try.func57 rfl rfl) rfl rfl ⟨vt rfl, trivial⟩ rfl) ?_
  rintro _ ⟨v3, rfl⟩
  refine AOps.cons (op_assign (A := raw v3) rfl rfl (vt rfl)) rfl ?_
  refine AOps.nil ?_
  refine AW.seq ?_
  refine AW.seq ?_
  refine AW.region ?_
  refine AOps.cons (op_move (A := raw v3) rfl rfl (vt rfl)) rfl ?_
  refine AOps.cons (op_leno 1001 rfl rfl sl44 (vt rfl) rfl) rfl ?_
  refine AOps.cons (op_move (A := rd (kint .i64) 0) rfl rfl (vk rfl)) rfl ?_
  refine AOps.nil ?_
  refine AW.block ?_
  refine AW.loopG (d := []) (ν := Nat × Nat × (List Atom)) (fun n => Cnt (x2.length : Int) n.2.1 n.1 ∧ F_l39_none_l1 n.1 n.2.1 n.2.2 = some r) (fun n => n.1) (fun n => [(3, raw v3), (8, rd (kint .i64) (x2.length : Int)), (9, rd (kint .i64) (n.2.1 : Int))]) (fun n => [(1001, Row v3 53 kAtom n.2.2)]) (((x2.length : Int) : Int).toNat, 0, x2) ⟨Cnt.start _, h⟩ ⟨rfl, ⟨rfl, rfl, rfl, trivial⟩, ⟨rfl, trivial⟩⟩ ?_
  rintro ⟨m7, i6, l5⟩ ⟨hsf1, h⟩
  change Cnt (x2.length : Int) i6 m7 at hsf1
  change F_l39_none_l1 m7 i6 l5 = some r at h
  change AW _ _ _ ⟨slots [(3, raw v3), (8, rd (kint .i64) (x2.length : Int)), (9, rd (kint .i64) (i6 : Int))], ress [(1001, Row v3 53 kAtom l5)], _⟩
  cases m7 with
  | zero =>
    unfold F_l39_none_l1 at h
    refine AW.seq ?_
    refine AW.region ?_
    refine AOps.cons (op_lss rfl rfl (vt rfl) (vt rfl)) rfl ?_
    refine AOps.nil ?_
    refine AW.seq ?_
    refine AW.cond (vt rfl) (fun hc => absurd (of_decide_eq_true hc) hsf1.zero) (fun hc => ?_)
    refine AW.exit ?_
    refine AW.seq ?_
    refine AW.region ?_
    refine AOps.cons (op_move (A := raw v3) rfl rfl (vt rfl)) rfl ?_
    refine AOps.cons (op_assign (A := raw v3) rfl rfl (vt rfl)) rfl ?_
    refine AOps.nil ?_
    refine AW.freezes [2, 3, 17] 1001 rfl ⟨rfl, rfl, rfl, trivial⟩ rfl ?_
    refine AW.ret ?_
    obtain rfl := Option.some.inj h
    exact ret1 Try.results25 rfl (out_tmp rfl)
  | succ m7 =>
    unfold F_l39_none_l1 at h
    generalize hgo1 : F_l39_none_l1 m7 = go1 at h
    refine AW.seq ?_
    refine AW.region ?_
    refine AOps.cons (op_lss rfl rfl (vt rfl) (vt rfl)) rfl ?_
    refine AOps.nil ?_
    refine AW.seq ?_
    refine AW.cond (vt rfl) (fun hc => ?_) (fun hc => absurd hsf1.succ (of_decide_eq_false hc))
    have hlti6 := of_decide_eq_true hc
    refine AW.skip ?_
    refine AW.seq ?_
    refine AW.block ?_
    refine AW.seq ?_
    refine AW.region ?_
    refine AOps.cons (op_move (A := rd (kint .i64) (i6 : Int)) rfl rfl (vt rfl)) rfl ?_
    refine AOps.cons (op_assign (A := rd (kint .i64) (i6 : Int)) rfl rfl (vt rfl)) rfl ?_
    refine AOps.nil ?_
    obtain ⟨e8, he8, h⟩ := bsome h
    refine AW.region ?_
    refine AOps.cons (op_move (A := raw v3) rfl rfl (vt rfl)) rfl ?_
    refine AOps.cons (op_move (A := rd (kint .i64) (i6 : Int)) rfl rfl (vt rfl)) rfl ?_
    refine AOps.cons (op_indexo' 1001 rfl rfl sl44 (vt rfl) rfl (vt rfl) he8) rfl ?_
    refine AOps.cons (op_fieldo lAtom_1 rfl rfl fl53_1 (vt rfl)) rfl ?_
    refine AOps.cons (op_storeo' 1001 rfl rfl ty4 (vt rfl) rfl (lget_of he8).2 vb) rfl ?_
    refine AOps.nil ?_
    refine AW.region ?_
    refine AOps.cons (op_incr (t := 8) rfl rfl (vt rfl) (vk rfl) (vt rfl) hlti6) rfl ?_
    refine AOps.cons (op_move (A := rd (kint .i64) ((i6 + 1 : Nat) : Int)) rfl rfl (vt rfl)) rfl ?_
    refine AOps.nil ?_
    subst hgo1
    exact ⟨(m7, i6 + 1, (List.set l5 (i6 : Int).toNat { e8 with Group := false })), Nat.lt_succ_self _, ⟨hsf1.next, h⟩, ⟨rfl, ⟨rfl, rfl, rfl, trivial⟩, ⟨rfl, trivial⟩⟩⟩
def F_l39_DifferAt (a1 : (List Atom)) (b2 : (List Atom)) (h3 : (Vector Wide 24)) : Option Bool :=
  (F_pl_Atoms a1).bind fun x5 => (opt (!(!x5)) (F_pl_Atoms b2)).bind fun x6 => (bif ((!x5) || (!x6)) then (F_l39_awake).bind fun x7 => some x7 else (F_l39_none a1).bind fun x8 => (F_l39_none b2).bind fun x9 => (F_atom_Out [] (⟨0, []⟩ : Env) x8 h3).bind fun x10 => (F_atom_Out [] (⟨0, []⟩ : Env) x9 h3).bind fun x11 => (F_exec_Same x10 x11).bind fun x12 => (F_differ_At x8 x9 h3).bind fun x13 => (opt (x13 == (!x12)) (F_differ_At x9 x8 h3)).bind fun x14 => (opt ((x13 == (!x12)) && (x14 == (!x12))) (F_l39_awake)).bind fun x15 => some (((x13 == (!x12)) && (x14 == (!x12))) && x15))
theorem c_l39_DifferAt (a1 : (List Atom)) (b2 : (List Atom)) (h3 : (Vector Wide 24)) (r : Bool) (h : F_l39_DifferAt a1 b2 h3 = some r) : PCon Try.prog 5 [rd (ksl kAtom) a1, rd (ksl kAtom) b2, rd (karr 24 kWide) h3] (rd kbool r) := by
  refine PCon.of (Con.intro0 Try.func5 rfl Try.ntmps5 rfl fun w H => ?_)
  unfold F_l39_DifferAt at h
  refine AW.seq ?_
  refine AW.region ?_
  refine AOps.consT rfl (op_box 6 rfl rfl (vt rfl)) ?_
  rintro _ ⟨g4, rfl⟩
  refine AOps.cons (op_assign (A := rd kbool false) rfl rfl vb) rfl ?_
  refine AOps.nil ?_
  refine AW.seq ?_
  refine AW.seq ?_
  obtain ⟨x5, hx5, h⟩ := bsome h
  obtain ⟨x6, hx6, h⟩ := bsome h
  refine AW.region ?_
  refine AOps.cons (op_move (A := rd (ksl kAtom) a1) rfl rfl (vt rfl)) rfl ?_
  refine AOps.cons (op_call (xs := [.tmp 8]) (c_pl_Atoms _ _ hx5) (Ent.mk Try.func23 rfl rfl) rfl rfl ⟨vt rfl, trivial⟩) rfl ?_
  refine AOps.cons (op_not rfl rfl (vt rfl)) rfl ?_
  refine AOps.cons (op_move (A := rd kbool (!x5)) rfl rfl (vt rfl)) rfl ?_
  refine AOps.consG (OpG.guard rfl rfl rfl rfl rfl fun hq => op_move (A := rd (ksl kAtom) b2) rfl rfl (vt rfl)) ?_
  refine AOps.consG (OpG.guard rfl rfl rfl rfl rfl fun hq => op_call (xs := [.tmp 12]) (c_pl_Atoms _ _ (opt_f hx6 hq)) (Ent.mk Try.func23 rfl rfl) rfl rfl ⟨vgt rfl hq, trivial⟩) ?_
  refine AOps.consG (OpG.guard rfl rfl rfl rfl rfl fun hq => op_not rfl rfl (vgt rfl hq)) ?_
  refine AOps.cons (op_any rfl rfl (vt rfl) (vt rfl)) rfl ?_
  refine AOps.nil ?_
  refine AW.cond (vt rfl) (fun hc => ?_) (fun hc => ?_)
  · have h := cond_t hc h
    refine AW.seq ?_
    obtain ⟨x7, hx7, h⟩ := bsome h
    refine AW.region ?_
    refine AOps.cons (op_call (xs := []) (c_l39_awake _ hx7) (Ent.mk Try.func24 rfl rfl) rfl rfl trivial) rfl ?_
    refine AOps.cons (op_assign (A := rd kbool x7) rfl rfl (vt rfl)) rfl ?_
    refine AOps.nil ?_
    refine AW.ret ?_
    obtain rfl := Option.some.inj h
    exact ret1 Try.results5 rfl (out_tmp rfl)
  · have h := cond_f hc h
    refine AW.skip ?_
    refine AW.seq ?_
    obtain ⟨x8, hx8, h⟩ := bsome h
    obtain ⟨x9, hx9, h⟩ := bsome h
    refine AW.region ?_
    refine AOps.cons (op_move (A := rd (ksl kAtom) a1) rfl rfl (vt rfl)) rfl ?_
    refine AOps.cons (op_call (xs := [.tmp 17]) (c_l39_none _ _ hx8) (Ent.mk Try.func25 rfl rfl) rfl rfl ⟨vt rfl, trivial⟩) rfl ?_
    refine AOps.cons (op_move (A := rd (ksl kAtom) b2) rfl rfl (vt rfl)) rfl ?_
    refine AOps.cons (op_call (xs := [.tmp 19]) (c_l39_none _ _ hx9) (Ent.mk Try.func25 rfl rfl) rfl rfl ⟨vt rfl, trivial⟩) rfl ?_
    refine AOps.cons (op_assign (A := rd (ksl kAtom) x8) rfl rfl (vt rfl)) rfl ?_
    refine AOps.cons (op_assign (A := rd (ksl kAtom) x9) rfl rfl (vt rfl)) rfl ?_
    refine AOps.nil ?_
    refine AW.seq ?_
    obtain ⟨x10, hx10, h⟩ := bsome h
    obtain ⟨x11, hx11, h⟩ := bsome h
    obtain ⟨x12, hx12, h⟩ := bsome h
    refine AW.regionAny [⟨[], [21], [], []⟩, ⟨[0], [22], [], []⟩, ⟨[5], [23], [6], []⟩, ⟨[21, 22, 23], [24], [], []⟩, ⟨[], [25], [], []⟩, ⟨[1], [26], [], []⟩, ⟨[5], [27], [6], []⟩, ⟨[25, 26, 27], [28], [], []⟩, ⟨[24, 28], [29], [], []⟩, ⟨[29], [7], [], []⟩] mixed (by kernel_rfl) ?_
    refine SeqA.cons (loc [] [] rfl rfl fun S hs hr => op_build (ps := []) (x := (⟨0, []⟩ : Env)) rfl rfl rfl (by kernel_rfl) zr25 rfl) ⟨rfl, rfl, rfl, rfl⟩ ?_
    refine SeqA.cons (loc [0] [] rfl rfl fun S hs hr => op_move (A := rd (ksl kAtom) x8) rfl rfl (vt ((hs 0 rfl).trans rfl))) ⟨rfl, rfl, rfl, rfl⟩ ?_
    refine SeqA.cons (loc [5] [6] rfl rfl fun S hs hr => op_load rfl rfl ty30 (vt ((hs 5 rfl).trans rfl)) (i := 6) ((hr 6 rfl).trans rfl)) ⟨rfl, rfl, rfl, rfl⟩ ?_
    refine SeqA.cons (loc [21, 22, 23] [] rfl rfl fun S hs hr => op_call (xs := [.const (Value.slice none 0 0), .tmp 21, .tmp 22, .tmp 23]) (c_atom_Out _ _ _ _ _ hx10) (Ent.mk Try.func22 rfl rfl) rfl rfl ⟨vnil, vt ((hs 21 rfl).trans rfl), vt ((hs 22 rfl).trans rfl), vt ((hs 23 rfl).trans rfl), trivial⟩) ⟨rfl, rfl, rfl, rfl⟩ ?_
    refine SeqA.cons (loc [] [] rfl rfl fun S hs hr => op_build (ps := []) (x := (⟨0, []⟩ : Env)) rfl rfl rfl (by kernel_rfl) zr25 rfl) ⟨rfl, rfl, rfl, rfl⟩ ?_
    refine SeqA.cons (loc [1] [] rfl rfl fun S hs hr => op_move (A := rd (ksl kAtom) x9) rfl rfl (vt ((hs 1 rfl).trans rfl))) ⟨rfl, rfl, rfl, rfl⟩ ?_
    refine SeqA.cons (loc [5] [6] rfl rfl fun S hs hr => op_load rfl rfl ty30 (vt ((hs 5 rfl).trans rfl)) (i := 6) ((hr 6 rfl).trans rfl)) ⟨rfl, rfl, rfl, rfl⟩ ?_
    refine SeqA.cons (loc [25, 26, 27] [] rfl rfl fun S hs hr => op_call (xs := [.const (Value.slice none 0 0), .tmp 25, .tmp 26, .tmp 27]) (c_atom_Out _ _ _ _ _ hx11) (Ent.mk Try.func22 rfl rfl) rfl rfl ⟨vnil, vt ((hs 25 rfl).trans rfl), vt ((hs 26 rfl).trans rfl), vt ((hs 27 rfl).trans rfl), trivial⟩) ⟨rfl, rfl, rfl, rfl⟩ ?_
    refine SeqA.cons (loc [24, 28] [] rfl rfl fun S hs hr => op_call (xs := [.tmp 24, .tmp 28]) (c_exec_Same _ _ _ hx12) (Ent.mk Try.func21 rfl rfl) rfl rfl ⟨vt ((hs 24 rfl).trans rfl), vt ((hs 28 rfl).trans rfl), trivial⟩) ⟨rfl, rfl, rfl, rfl⟩ ?_
    refine SeqA.cons (loc [29] [] rfl rfl fun S hs hr => op_assign (A := rd kbool x12) rfl rfl (vt ((hs 29 rfl).trans rfl))) ⟨rfl, rfl, rfl, rfl⟩ ?_
    refine AW.seq ?_
    obtain ⟨x13, hx13, h⟩ := bsome h
    obtain ⟨x14, hx14, h⟩ := bsome h
    obtain ⟨x15, hx15, h⟩ := bsome h
    refine AW.region ?_
    refine AOps.cons (op_move (A := rd (ksl kAtom) x8) rfl rfl (vt rfl)) rfl ?_
    refine AOps.cons (op_move (A := rd (ksl kAtom) x9) rfl rfl (vt rfl)) rfl ?_
    refine AOps.cons (op_load rfl rfl ty30 (vt rfl) (i := 6) rfl) rfl ?_
    refine AOps.cons (op_call (xs := [.tmp 30, .tmp 31, .tmp 32]) (c_differ_At _ _ _ _ hx13) (Ent.mk Try.func26 rfl rfl) rfl rfl ⟨vt rfl, vt rfl, vt rfl, trivial⟩) rfl ?_
    refine AOps.cons (op_move (A := rd kbool x12) rfl rfl (vt rfl)) rfl ?_
    refine AOps.cons (op_not rfl rfl (vt rfl)) rfl ?_
    refine AOps.cons (op_eqlb rfl rfl un4 (vt rfl) (vt rfl)) rfl ?_
    refine AOps.cons (op_move (A := rd kbool (x13 == (!x12))) rfl rfl (vt rfl)) rfl ?_
    refine AOps.consG (OpG.guard rfl rfl rfl rfl rfl fun hq => op_move (A := rd (ksl kAtom) x9) rfl rfl (vt rfl)) ?_
    refine AOps.consG (OpG.guard rfl rfl rfl rfl rfl fun hq => op_move (A := rd (ksl kAtom) x8) rfl rfl (vt rfl)) ?_
    refine AOps.consG (OpG.guard rfl rfl rfl rfl rfl fun hq => op_load rfl rfl ty30 (vt rfl) (i := 6) rfl) ?_
    refine AOps.consG (OpG.guard rfl rfl rfl rfl rfl fun hq => op_call (xs := [.tmp 38, .tmp 39, .tmp 40]) (c_differ_At _ _ _ _ (opt_t hx14 hq)) (Ent.mk Try.func26 rfl rfl) rfl rfl ⟨vgt rfl hq, vgt rfl hq, vgt rfl hq, trivial⟩) ?_
    refine AOps.consG (OpG.guard rfl rfl rfl rfl rfl fun hq => op_move (A := rd kbool x12) rfl rfl (vt rfl)) ?_
    refine AOps.consG (OpG.guard rfl rfl rfl rfl rfl fun hq => op_not rfl rfl (vgt rfl hq)) ?_
    refine AOps.consG (OpG.guard rfl rfl rfl rfl rfl fun hq => op_eqlb rfl rfl un4 (vgt rfl hq) (vgt rfl hq)) ?_
    refine AOps.cons (op_all rfl rfl (vt rfl) (vt rfl)) rfl ?_
    refine AOps.cons (op_move (A := rd kbool ((x13 == (!x12)) && (x14 == (!x12)))) rfl rfl (vt rfl)) rfl ?_
    refine AOps.consG (OpG.guard rfl rfl rfl rfl rfl fun hq => op_call (xs := []) (c_l39_awake _ (opt_t hx15 hq)) (Ent.mk Try.func24 rfl rfl) rfl rfl trivial) ?_
    refine AOps.cons (op_all rfl rfl (vt rfl) (vt rfl)) rfl ?_
    refine AOps.cons (op_assign (A := rd kbool (((x13 == (!x12)) && (x14 == (!x12))) && x15)) rfl rfl (vt rfl)) rfl ?_
    refine AOps.nil ?_
    refine AW.ret ?_
    obtain rfl := Option.some.inj h
    exact ret1 Try.results5 rfl (out_tmp rfl)
end Go.Proofs.Ytknpgojdkobgjaa.W
