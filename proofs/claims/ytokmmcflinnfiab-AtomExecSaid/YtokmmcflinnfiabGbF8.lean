/- GbF8: a part of the proof. -/
import Derived.Test.YtokmmcflinnfiabGbF7
set_option linter.unusedVariables false
set_option maxRecDepth 4000
set_option linter.unusedSimpArgs false
namespace Go.Proofs.Ytokmmcflinnfiab.W
open Go Go.Wb
-- weirbox/weirboxref09.Clean
def F21_l1 : Nat → (Vector Tern 24) → Int → Option (Vector Tern 24)
  | 0, _, _ => none
  | m8 + 1, b6, f7 => (bif (decide (f7 < 24)) then (chk 24 f7).bind fun j9 => (F42 (Vector.get b6 j9)).bind fun x10 => (chk 24 f7).bind fun j11 => (F21_l1 m8) (Vector.set b6 j11.1 x10 j11.2) (IntKind.i64.wrap (f7 + 1)) else some b6)
def F21 (r1 : (Vector Tern 24)) : Option (Vector Tern 24) :=
  F21_l1 (((24 : Int) - 0).toNat + 1) r1 0
theorem c21 (r1 : (Vector Tern 24)) (r : (Vector Tern 24)) (h : F21 r1 = some r) : PCon Try.prog 21 [rd (karr 24 kTern) r1] (rd (karr 24 kTern) r) := by
  refine PCon.of (Con.intro0 Try.func21 rfl Try.ntmps21 rfl fun w H => ?_)
  unfold F21 at h
  refine AW.seq ?_
  refine AW.region ?_
  refine AOps.consT rfl (op_box 2 rfl rfl (vt rfl)) ?_
  rintro _ ⟨g2, rfl⟩
  refine AOps.consT rfl (op_alloc 3 rfl rfl zr29) ?_
  rintro _ ⟨g3, rfl⟩
  refine AOps.nil ?_
  refine AW.seq ?_
  refine AW.seq ?_
  refine AW.region ?_
  refine AOps.cons (op_assign (A := rd (kint .i64) 0) rfl rfl (vk rfl)) rfl ?_
  refine AOps.nil ?_
  refine AW.block ?_
  refine AW.loopG (d := []) (ν := Nat × (Vector Tern 24) × Int) (fun n => True ∧ F21_l1 n.1 n.2.1 n.2.2 = some r) (fun n => n.1) (fun n => [(1, ptrL g2 (Lens.id (karr 24 kTern))), (2, ptrL g3 (Lens.id (karr 24 kTern))), (3, rd (kint .i64) n.2.2)]) (fun n => [(2, Blk g2 29 (karr 24 kTern) n.2.1), (3, Blk g3 29 (karr 24 kTern) (Vector.replicate 24 zTern))]) ((((24 : Int) - 0).toNat + 1), r1, 0) ⟨trivial, h⟩ ⟨rfl, ⟨rfl, rfl, rfl, trivial⟩, ⟨rfl, rfl, trivial⟩⟩ ?_
  rintro ⟨m8, b6, f7⟩ ⟨hsf1, h⟩
  change True at hsf1
  change F21_l1 m8 b6 f7 = some r at h
  change AW _ _ _ ⟨slots [(1, ptrL g2 (Lens.id (karr 24 kTern))), (2, ptrL g3 (Lens.id (karr 24 kTern))), (3, rd (kint .i64) f7)], ress [(2, Blk g2 29 (karr 24 kTern) b6), (3, Blk g3 29 (karr 24 kTern) (Vector.replicate 24 zTern))], _⟩
  cases m8 with
  | zero => cases h
  | succ m8 =>
    unfold F21_l1 at h
    generalize hgo1 : F21_l1 m8 = go1 at h
    refine AW.seq ?_
    refine AW.seq ?_
    refine AW.region ?_
    refine AOps.cons (op_move (A := rd (kint .i64) f7) rfl rfl (vt rfl)) rfl ?_
    refine AOps.cons (op_lss rfl rfl (vt rfl) (vk rfl)) rfl ?_
    refine AOps.nil ?_
    refine AW.cond (vt rfl) (fun hc => ?_) (fun hc => ?_)
    · have h := cond_t hc h
      refine AW.skip ?_
      refine AW.seq ?_
      refine AW.block ?_
      obtain ⟨j9, hj9, h⟩ := bsome h
      obtain ⟨x10, hx10, h⟩ := bsome h
      obtain ⟨j11, hj11, h⟩ := bsome h
      refine AW.region ?_
      refine AOps.cons (op_move (A := rd (kint .i64) f7) rfl rfl (vt rfl)) rfl ?_
      refine AOps.cons (op_move (A := rd (kint .i64) f7) rfl rfl (vt rfl)) rfl ?_
      refine AOps.cons (op_index' rfl rfl ar29 (vt rfl) (vt rfl) hj9) rfl ?_
      refine AOps.cons (op_load rfl rfl ty27 (vt rfl) (i := 2) rfl) rfl ?_
      refine AOps.cons (op_call (xs := [.tmp 11]) (c42 _ _ hx10) (Ent.mk Try.func42 rfl rfl) rfl rfl ⟨vt rfl, trivial⟩) rfl ?_
      refine AOps.cons (op_index' rfl rfl ar29 (vt rfl) (vt rfl) hj11) rfl ?_
      refine AOps.cons (op_store rfl rfl ty27 (vt rfl) (i := 2) rfl (vt rfl)) rfl ?_
      refine AOps.nil ?_
      refine AW.region ?_
      refine AOps.cons (op_move (A := rd (kint .i64) f7) rfl rfl (vt rfl)) rfl ?_
      refine AOps.cons (op_add rfl rfl (vt rfl) (vk rfl)) rfl ?_
      refine AOps.cons (op_assign (A := rd (kint .i64) (IntKind.i64.wrap (f7 + 1))) rfl rfl (vt rfl)) rfl ?_
      refine AOps.nil ?_
      subst hgo1
      exact ⟨(m8, (Vector.set b6 j11.1 x10 j11.2), (IntKind.i64.wrap (f7 + 1))), Nat.lt_succ_self _, ⟨trivial, h⟩, ⟨rfl, ⟨rfl, rfl, rfl, trivial⟩, ⟨rfl, rfl, trivial⟩⟩⟩
    · have h := cond_f hc h
      refine AW.exit ?_
      refine AW.seq ?_
      refine AW.region ?_
      refine AOps.cons (op_load rfl rfl ty29 (vt rfl) (i := 2) rfl) rfl ?_
      refine AOps.cons (op_store rfl rfl ty29 (vt rfl) (i := 3) rfl (vt rfl)) rfl ?_
      refine AOps.nil ?_
      refine AW.ret ?_
      obtain rfl := Option.some.inj h
      exact ret1 Try.results21 rfl (out_cell rfl (i := 3) rfl ty29)
-- weirbox/weirboxref03.Right
def F62 (f1 : Int) : Option Bool :=
  some ((decide (f1 ≥ 0)) && (decide (f1 < 24)))
theorem c62 (f1 : Int) (r : Bool) (h : F62 f1 = some r) : PCon Try.prog 62 [rd (kint .i64) f1] (rd kbool r) := by
  refine PCon.of (Con.intro0 Try.func62 rfl Try.ntmps62 rfl fun w H => ?_)
  unfold F62 at h
  refine AW.seq ?_
  refine AW.region ?_
  refine AOps.cons (op_assign (A := rd kbool false) rfl rfl vb) rfl ?_
  refine AOps.nil ?_
  refine AW.seq ?_
  refine AW.region ?_
  refine AOps.cons (op_move (A := rd (kint .i64) f1) rfl rfl (vt rfl)) rfl ?_
  refine AOps.cons (op_geq rfl rfl (vt rfl) (vk rfl)) rfl ?_
  refine AOps.cons (op_move (A := rd kbool (decide (f1 ≥ 0))) rfl rfl (vt rfl)) rfl ?_
  refine AOps.consG (OpG.guard rfl rfl rfl rfl rfl fun hq => op_move (A := rd (kint .i64) f1) rfl rfl (vt rfl)) ?_
  refine AOps.consG (OpG.guard rfl rfl rfl rfl rfl fun hq => op_lss rfl rfl (vgt rfl hq) (vk rfl)) ?_
  refine AOps.cons (op_all rfl rfl (vt rfl) (vt rfl)) rfl ?_
  refine AOps.cons (op_assign (A := rd kbool ((decide (f1 ≥ 0)) && (decide (f1 < 24)))) rfl rfl (vt rfl)) rfl ?_
  refine AOps.nil ?_
  refine AW.ret ?_
  obtain rfl := Option.some.inj h
  exact ret1 Try.results62 rfl (out_tmp rfl)
-- weirbox/weirboxref03.upper
def F89 (f1 : Int) : Option (ByteArray × Int × Int × Bool) :=
  (bif (decide (f1 = 12)) then some ({ data := #[116, 99, 112, 95, 115, 114, 99] }, 13, 16, false) else (bif (decide (f1 = 13)) then some ({ data := #[116, 99, 112, 95, 100, 115, 116] }, 14, 16, false) else (bif (decide (f1 = 14)) then some ({ data := #[117, 100, 112, 95, 115, 114, 99] }, 15, 16, false) else (bif (decide (f1 = 15)) then some ({ data := #[117, 100, 112, 95, 100, 115, 116] }, 16, 16, false) else (bif (decide (f1 = 16)) then some ({ data := #[105, 99, 109, 112, 118, 52, 95, 116, 121, 112, 101] }, 19, 8, false) else (bif (decide (f1 = 17)) then some ({ data := #[105, 99, 109, 112, 118, 52, 95, 99, 111, 100, 101] }, 20, 8, false) else (bif (decide (f1 = 18)) then some ({ data := #[97, 114, 112, 95, 111, 112] }, 21, 16, false) else (bif (decide (f1 = 19)) then some ({ data := #[97, 114, 112, 95, 115, 112, 97] }, 22, 32, true) else (bif (decide (f1 = 20)) then some ({ data := #[97, 114, 112, 95, 116, 112, 97] }, 23, 32, true) else (bif (decide (f1 = 21)) then some ({ data := #[105, 112, 118, 54, 95, 115, 114, 99] }, 26, 128, true) else (bif (decide (f1 = 22)) then some ({ data := #[105, 112, 118, 54, 95, 100, 115, 116] }, 27, 128, true) else (bif (decide (f1 = 23)) then some ({ data := #[109, 112, 108, 115, 95, 108, 97, 98, 101, 108] }, 34, 20, false) else some ({ data := #[] }, (-1), 0, false)))))))))))))
theorem c89 (f1 : Int) (r : (ByteArray × Int × Int × Bool)) (h : F89 f1 = some r) : PCon Try.prog 89 [rd (kint .i64) f1] (tup4 (rd kstr r.1) (rd (kint .i64) r.2.1) (rd (kint .i64) r.2.2.1) (rd kbool r.2.2.2)) := by
  refine PCon.of (Con.intro0 Try.func89 rfl Try.ntmps89 rfl fun w H => ?_)
  unfold F89 at h
  refine AW.seq ?_
  refine AW.region ?_
  refine AOps.cons (op_assign (A := rd kstr { data := #[] }) rfl rfl (vs (by decide))) rfl ?_
  refine AOps.cons (op_assign (A := rd (kint .i64) 0) rfl rfl (vk rfl)) rfl ?_
  refine AOps.cons (op_assign (A := rd (kint .i64) 0) rfl rfl (vk rfl)) rfl ?_
  refine AOps.cons (op_assign (A := rd kbool false) rfl rfl vb) rfl ?_
  refine AOps.nil ?_
  refine AW.seq ?_
  refine AW.seq ?_
  refine AW.region ?_
  refine AOps.cons (op_move (A := rd (kint .i64) f1) rfl rfl (vt rfl)) rfl ?_
  refine AOps.nil ?_
  refine AW.block ?_
  refine AW.seq ?_
  refine AW.region ?_
  refine AOps.cons (op_eql rfl rfl (vt rfl) (vk rfl)) rfl ?_
  refine AOps.cons (op_assign (A := rd kbool (decide (f1 = 12))) rfl rfl (vt rfl)) rfl ?_
  refine AOps.nil ?_
  refine AW.cond (vt rfl) (fun hc => ?_) (fun hc => ?_)
  · have h := cond_t hc h
    refine AW.seq ?_
    refine AW.region ?_
    refine AOps.cons (op_assign (A := rd kstr { data := #[116, 99, 112, 95, 115, 114, 99] }) rfl rfl (vs (by decide))) rfl ?_
    refine AOps.cons (op_assign (A := rd (kint .i64) 13) rfl rfl (vk rfl)) rfl ?_
    refine AOps.cons (op_assign (A := rd (kint .i64) 16) rfl rfl (vk rfl)) rfl ?_
    refine AOps.cons (op_assign (A := rd kbool false) rfl rfl vb) rfl ?_
    refine AOps.nil ?_
    refine AW.ret ?_
    obtain rfl := Option.some.inj h
    exact ret4 Try.results89 rfl (out_tmp rfl) (out_tmp rfl) (out_tmp rfl) (out_tmp rfl)
  · have h := cond_f hc h
    refine AW.seq ?_
    refine AW.region ?_
    refine AOps.cons (op_eql rfl rfl (vt rfl) (vk rfl)) rfl ?_
    refine AOps.cons (op_assign (A := rd kbool (decide (f1 = 13))) rfl rfl (vt rfl)) rfl ?_
    refine AOps.nil ?_
    refine AW.cond (vt rfl) (fun hc => ?_) (fun hc => ?_)
    · have h := cond_t hc h
      refine AW.seq ?_
      refine AW.region ?_
      refine AOps.cons (op_assign (A := rd kstr { data := #[116, 99, 112, 95, 100, 115, 116] }) rfl rfl (vs (by decide))) rfl ?_
      refine AOps.cons (op_assign (A := rd (kint .i64) 14) rfl rfl (vk rfl)) rfl ?_
      refine AOps.cons (op_assign (A := rd (kint .i64) 16) rfl rfl (vk rfl)) rfl ?_
      refine AOps.cons (op_assign (A := rd kbool false) rfl rfl vb) rfl ?_
      refine AOps.nil ?_
      refine AW.ret ?_
      obtain rfl := Option.some.inj h
      exact ret4 Try.results89 rfl (out_tmp rfl) (out_tmp rfl) (out_tmp rfl) (out_tmp rfl)
    · have h := cond_f hc h
      refine AW.seq ?_
      refine AW.region ?_
      refine AOps.cons (op_eql rfl rfl (vt rfl) (vk rfl)) rfl ?_
      refine AOps.cons (op_assign (A := rd kbool (decide (f1 = 14))) rfl rfl (vt rfl)) rfl ?_
      refine AOps.nil ?_
      refine AW.cond (vt rfl) (fun hc => ?_) (fun hc => ?_)
      · have h := cond_t hc h
        refine AW.seq ?_
        refine AW.region ?_
        refine AOps.cons (op_assign (A := rd kstr { data := #[117, 100, 112, 95, 115, 114, 99] }) rfl rfl (vs (by decide))) rfl ?_
        refine AOps.cons (op_assign (A := rd (kint .i64) 15) rfl rfl (vk rfl)) rfl ?_
        refine AOps.cons (op_assign (A := rd (kint .i64) 16) rfl rfl (vk rfl)) rfl ?_
        refine AOps.cons (op_assign (A := rd kbool false) rfl rfl vb) rfl ?_
        refine AOps.nil ?_
        refine AW.ret ?_
        obtain rfl := Option.some.inj h
        exact ret4 Try.results89 rfl (out_tmp rfl) (out_tmp rfl) (out_tmp rfl) (out_tmp rfl)
      · have h := cond_f hc h
        refine AW.seq ?_
        refine AW.region ?_
        refine AOps.cons (op_eql rfl rfl (vt rfl) (vk rfl)) rfl ?_
        refine AOps.cons (op_assign (A := rd kbool (decide (f1 = 15))) rfl rfl (vt rfl)) rfl ?_
        refine AOps.nil ?_
        refine AW.cond (vt rfl) (fun hc => ?_) (fun hc => ?_)
        · have h := cond_t hc h
          refine AW.seq ?_
          refine AW.region ?_
          refine AOps.cons (op_assign (A := rd kstr { data := #[117, 100, 112, 95, 100, 115, 116] }) rfl rfl (vs (by decide))) rfl ?_
          refine AOps.cons (op_assign (A := rd (kint .i64) 16) rfl rfl (vk rfl)) rfl ?_
          refine AOps.cons (op_assign (A := rd (kint .i64) 16) rfl rfl (vk rfl)) rfl ?_
          refine AOps.cons (op_assign (A := rd kbool false) rfl rfl vb) rfl ?_
          refine AOps.nil ?_
          refine AW.ret ?_
          obtain rfl := Option.some.inj h
          exact ret4 Try.results89 rfl (out_tmp rfl) (out_tmp rfl) (out_tmp rfl) (out_tmp rfl)
        · have h := cond_f hc h
          refine AW.seq ?_
          refine AW.region ?_
          refine AOps.cons (op_eql rfl rfl (vt rfl) (vk rfl)) rfl ?_
          refine AOps.cons (op_assign (A := rd kbool (decide (f1 = 16))) rfl rfl (vt rfl)) rfl ?_
          refine AOps.nil ?_
          refine AW.cond (vt rfl) (fun hc => ?_) (fun hc => ?_)
          · have h := cond_t hc h
            refine AW.seq ?_
            refine AW.region ?_
            refine AOps.cons (op_assign (A := rd kstr { data := #[105, 99, 109, 112, 118, 52, 95, 116, 121, 112, 101] }) rfl rfl (vs (by decide))) rfl ?_
            refine AOps.cons (op_assign (A := rd (kint .i64) 19) rfl rfl (vk rfl)) rfl ?_
            refine AOps.cons (op_assign (A := rd (kint .i64) 8) rfl rfl (vk rfl)) rfl ?_
            refine AOps.cons (op_assign (A := rd kbool false) rfl rfl vb) rfl ?_
            refine AOps.nil ?_
            refine AW.ret ?_
            obtain rfl := Option.some.inj h
            exact ret4 Try.results89 rfl (out_tmp rfl) (out_tmp rfl) (out_tmp rfl) (out_tmp rfl)
          · have h := cond_f hc h
            refine AW.seq ?_
            refine AW.region ?_
            refine AOps.cons (op_eql rfl rfl (vt rfl) (vk rfl)) rfl ?_
            refine AOps.cons (op_assign (A := rd kbool (decide (f1 = 17))) rfl rfl (vt rfl)) rfl ?_
            refine AOps.nil ?_
            refine AW.cond (vt rfl) (fun hc => ?_) (fun hc => ?_)
            · have h := cond_t hc h
              refine AW.seq ?_
              refine AW.region ?_
              refine AOps.cons (op_assign (A := rd kstr { data := #[105, 99, 109, 112, 118, 52, 95, 99, 111, 100, 101] }) rfl rfl (vs (by decide))) rfl ?_
              refine AOps.cons (op_assign (A := rd (kint .i64) 20) rfl rfl (vk rfl)) rfl ?_
              refine AOps.cons (op_assign (A := rd (kint .i64) 8) rfl rfl (vk rfl)) rfl ?_
              refine AOps.cons (op_assign (A := rd kbool false) rfl rfl vb) rfl ?_
              refine AOps.nil ?_
              refine AW.ret ?_
              obtain rfl := Option.some.inj h
              exact ret4 Try.results89 rfl (out_tmp rfl) (out_tmp rfl) (out_tmp rfl) (out_tmp rfl)
            · have h := cond_f hc h
              refine AW.seq ?_
              refine AW.region ?_
              refine AOps.cons (op_eql rfl rfl (vt rfl) (vk rfl)) rfl ?_
              refine AOps.cons (op_assign (A := rd kbool (decide (f1 = 18))) rfl rfl (vt rfl)) rfl ?_
              refine AOps.nil ?_
              refine AW.cond (vt rfl) (fun hc => ?_) (fun hc => ?_)
              · have h := cond_t hc h
                refine AW.seq ?_
                refine AW.region ?_
                refine AOps.cons (op_assign (A := rd kstr { data := #[97, 114, 112, 95, 111, 112] }) rfl rfl (vs (by decide))) rfl ?_
                refine AOps.cons (op_assign (A := rd (kint .i64) 21) rfl rfl (vk rfl)) rfl ?_
                refine AOps.cons (op_assign (A := rd (kint .i64) 16) rfl rfl (vk rfl)) rfl ?_
                refine AOps.cons (op_assign (A := rd kbool false) rfl rfl vb) rfl ?_
                refine AOps.nil ?_
                refine AW.ret ?_
                obtain rfl := Option.some.inj h
                exact ret4 Try.results89 rfl (out_tmp rfl) (out_tmp rfl) (out_tmp rfl) (out_tmp rfl)
              · have h := cond_f hc h
                refine AW.seq ?_
                refine AW.region ?_
                refine AOps.cons (op_eql rfl rfl (vt rfl) (vk rfl)) rfl ?_
                refine AOps.cons (op_assign (A := rd kbool (decide (f1 = 19))) rfl rfl (vt rfl)) rfl ?_
                refine AOps.nil ?_
                refine AW.cond (vt rfl) (fun hc => ?_) (fun hc => ?_)
                · have h := cond_t hc h
                  refine AW.seq ?_
                  refine AW.region ?_
                  refine AOps.cons (op_assign (A := rd kstr { data := #[97, 114, 112, 95, 115, 112, 97] }) rfl rfl (vs (by decide))) rfl ?_
                  refine AOps.cons (op_assign (A := rd (kint .i64) 22) rfl rfl (vk rfl)) rfl ?_
                  refine AOps.cons (op_assign (A := rd (kint .i64) 32) rfl rfl (vk rfl)) rfl ?_
                  refine AOps.cons (op_assign (A := rd kbool true) rfl rfl vb) rfl ?_
                  refine AOps.nil ?_
                  refine AW.ret ?_
                  obtain rfl := Option.some.inj h
                  exact ret4 Try.results89 rfl (out_tmp rfl) (out_tmp rfl) (out_tmp rfl) (out_tmp rfl)
                · have h := cond_f hc h
                  refine AW.seq ?_
                  refine AW.region ?_
                  refine AOps.cons (op_eql rfl rfl (vt rfl) (vk rfl)) rfl ?_
                  refine AOps.cons (op_assign (A := rd kbool (decide (f1 = 20))) rfl rfl (vt rfl)) rfl ?_
                  refine AOps.nil ?_
                  refine AW.cond (vt rfl) (fun hc => ?_) (fun hc => ?_)
                  · have h := cond_t hc h
                    refine AW.seq ?_
                    refine AW.region ?_
                    refine AOps.cons (op_assign (A := rd kstr { data := #[97, 114, 112, 95, 116, 112, 97] }) rfl rfl (vs (by decide))) rfl ?_
                    refine AOps.cons (op_assign (A := rd (kint .i64) 23) rfl rfl (vk rfl)) rfl ?_
                    refine AOps.cons (op_assign (A := rd (kint .i64) 32) rfl rfl (vk rfl)) rfl ?_
                    refine AOps.cons (op_assign (A := rd kbool true) rfl rfl vb) rfl ?_
                    refine AOps.nil ?_
                    refine AW.ret ?_
                    obtain rfl := Option.some.inj h
                    exact ret4 Try.results89 rfl (out_tmp rfl) (out_tmp rfl) (out_tmp rfl) (out_tmp rfl)
                  · have h := cond_f hc h
                    refine AW.seq ?_
                    refine AW.region ?_
                    refine AOps.cons (op_eql rfl rfl (vt rfl) (vk rfl)) rfl ?_
                    refine AOps.cons (op_assign (A := rd kbool (decide (f1 = 21))) rfl rfl (vt rfl)) rfl ?_
                    refine AOps.nil ?_
                    refine AW.cond (vt rfl) (fun hc => ?_) (fun hc => ?_)
                    · have h := cond_t hc h
                      refine AW.seq ?_
                      refine AW.region ?_
                      refine AOps.cons (op_assign (A := rd kstr { data := #[105, 112, 118, 54, 95, 115, 114, 99] }) rfl rfl (vs (by decide))) rfl ?_
                      refine AOps.cons (op_assign (A := rd (kint .i64) 26) rfl rfl (vk rfl)) rfl ?_
                      refine AOps.cons (op_assign (A := rd (kint .i64) 128) rfl rfl (vk rfl)) rfl ?_
                      refine AOps.cons (op_assign (A := rd kbool true) rfl rfl vb) rfl ?_
                      refine AOps.nil ?_
                      refine AW.ret ?_
                      obtain rfl := Option.some.inj h
                      exact ret4 Try.results89 rfl (out_tmp rfl) (out_tmp rfl) (out_tmp rfl) (out_tmp rfl)
                    · have h := cond_f hc h
                      refine AW.seq ?_
                      refine AW.region ?_
                      refine AOps.cons (op_eql rfl rfl (vt rfl) (vk rfl)) rfl ?_
                      refine AOps.cons (op_assign (A := rd kbool (decide (f1 = 22))) rfl rfl (vt rfl)) rfl ?_
                      refine AOps.nil ?_
                      refine AW.cond (vt rfl) (fun hc => ?_) (fun hc => ?_)
                      · have h := cond_t hc h
                        refine AW.seq ?_
                        refine AW.region ?_
                        refine AOps.cons (op_assign (A := rd kstr { data := #[105, 112, 118, 54, 95, 100, 115, 116] }) rfl rfl (vs (by decide))) rfl ?_
                        refine AOps.cons (op_assign (A := rd (kint .i64) 27) rfl rfl (vk rfl)) rfl ?_
                        refine AOps.cons (op_assign (A := rd (kint .i64) 128) rfl rfl (vk rfl)) rfl ?_
                        refine AOps.cons (op_assign (A := rd kbool true) rfl rfl vb) rfl ?_
                        refine AOps.nil ?_
                        refine AW.ret ?_
                        obtain rfl := Option.some.inj h
                        exact ret4 Try.results89 rfl (out_tmp rfl) (out_tmp rfl) (out_tmp rfl) (out_tmp rfl)
                      · have h := cond_f hc h
                        refine AW.seq ?_
                        refine AW.region ?_
                        refine AOps.cons (op_eql rfl rfl (vt rfl) (vk rfl)) rfl ?_
                        refine AOps.cons (op_assign (A := rd kbool (decide (f1 = 23))) rfl rfl (vt rfl)) rfl ?_
                        refine AOps.nil ?_
                        refine AW.cond (vt rfl) (fun hc => ?_) (fun hc => ?_)
                        · have h := cond_t hc h
                          refine AW.seq ?_
                          refine AW.region ?_
                          refine AOps.cons (op_assign (A := rd kstr { data := #[109, 112, 108, 115, 95, 108, 97, 98, 101, 108] }) rfl rfl (vs (by decide))) rfl ?_
                          refine AOps.cons (op_assign (A := rd (kint .i64) 34) rfl rfl (vk rfl)) rfl ?_
                          refine AOps.cons (op_assign (A := rd (kint .i64) 20) rfl rfl (vk rfl)) rfl ?_
                          refine AOps.cons (op_assign (A := rd kbool false) rfl rfl vb) rfl ?_
                          refine AOps.nil ?_
                          refine AW.ret ?_
                          obtain rfl := Option.some.inj h
                          exact ret4 Try.results89 rfl (out_tmp rfl) (out_tmp rfl) (out_tmp rfl) (out_tmp rfl)
                        · have h := cond_f hc h
                          refine AW.skip ?_
                          refine AW.seq ?_
                          refine AW.region ?_
                          refine AOps.cons (op_assign (A := rd kstr { data := #[] }) rfl rfl (vs (by decide))) rfl ?_
                          refine AOps.cons (op_assign (A := rd (kint .i64) (-1)) rfl rfl (vk rfl)) rfl ?_
                          refine AOps.cons (op_assign (A := rd (kint .i64) 0) rfl rfl (vk rfl)) rfl ?_
                          refine AOps.cons (op_assign (A := rd kbool false) rfl rfl vb) rfl ?_
                          refine AOps.nil ?_
                          refine AW.ret ?_
                          obtain rfl := Option.some.inj h
                          exact ret4 Try.results89 rfl (out_tmp rfl) (out_tmp rfl) (out_tmp rfl) (out_tmp rfl)
-- weirbox/weirboxref03.row
def F72 (f1 : Int) : Option (ByteArray × Int × Int × Bool) :=
  (bif (decide (f1 = 0)) then some ({ data := #[105, 110, 95, 112, 111, 114, 116] }, 0, 32, false) else (bif (decide (f1 = 1)) then some ({ data := #[109, 101, 116, 97, 100, 97, 116, 97] }, 2, 64, true) else (bif (decide (f1 = 2)) then some ({ data := #[101, 116, 104, 95, 100, 115, 116] }, 3, 48, true) else (bif (decide (f1 = 3)) then some ({ data := #[101, 116, 104, 95, 115, 114, 99] }, 4, 48, true) else (bif (decide (f1 = 4)) then some ({ data := #[101, 116, 104, 95, 116, 121, 112, 101] }, 5, 16, false) else (bif (decide (f1 = 5)) then some ({ data := #[118, 108, 97, 110, 95, 118, 105, 100] }, 6, 13, true) else (bif (decide (f1 = 6)) then some ({ data := #[118, 108, 97, 110, 95, 112, 99, 112] }, 7, 3, false) else (bif (decide (f1 = 7)) then some ({ data := #[105, 112, 95, 100, 115, 99, 112] }, 8, 6, false) else (bif (decide (f1 = 8)) then some ({ data := #[105, 112, 95, 101, 99, 110] }, 9, 2, false) else (bif (decide (f1 = 9)) then some ({ data := #[105, 112, 95, 112, 114, 111, 116, 111] }, 10, 8, false) else (bif (decide (f1 = 10)) then some ({ data := #[105, 112, 118, 52, 95, 115, 114, 99] }, 11, 32, true) else (bif (decide (f1 = 11)) then some ({ data := #[105, 112, 118, 52, 95, 100, 115, 116] }, 12, 32, true) else (F89 f1).bind fun x2 => some (x2.1, x2.2.1, x2.2.2.1, x2.2.2.2)))))))))))))
theorem c72 (f1 : Int) (r : (ByteArray × Int × Int × Bool)) (h : F72 f1 = some r) : PCon Try.prog 72 [rd (kint .i64) f1] (tup4 (rd kstr r.1) (rd (kint .i64) r.2.1) (rd (kint .i64) r.2.2.1) (rd kbool r.2.2.2)) := by
  refine PCon.of (Con.intro0 Try.func72 rfl Try.ntmps72 rfl fun w H => ?_)
  unfold F72 at h
  refine AW.seq ?_
  refine AW.region ?_
  refine AOps.cons (op_assign (A := rd kstr { data := #[] }) rfl rfl (vs (by decide))) rfl ?_
  refine AOps.cons (op_assign (A := rd (kint .i64) 0) rfl rfl (vk rfl)) rfl ?_
  refine AOps.cons (op_assign (A := rd (kint .i64) 0) rfl rfl (vk rfl)) rfl ?_
  refine AOps.cons (op_assign (A := rd kbool false) rfl rfl vb) rfl ?_
  refine AOps.nil ?_
  refine AW.seq ?_
  refine AW.seq ?_
  refine AW.region ?_
  refine AOps.cons (op_move (A := rd (kint .i64) f1) rfl rfl (vt rfl)) rfl ?_
  refine AOps.nil ?_
  refine AW.block ?_
  refine AW.seq ?_
  refine AW.region ?_
  refine AOps.cons (op_eql rfl rfl (vt rfl) (vk rfl)) rfl ?_
  refine AOps.cons (op_assign (A := rd kbool (decide (f1 = 0))) rfl rfl (vt rfl)) rfl ?_
  refine AOps.nil ?_
  refine AW.cond (vt rfl) (fun hc => ?_) (fun hc => ?_)
  · have h := cond_t hc h
    refine AW.seq ?_
    refine AW.region ?_
    refine AOps.cons (op_assign (A := rd kstr { data := #[105, 110, 95, 112, 111, 114, 116] }) rfl rfl (vs (by decide))) rfl ?_
    refine AOps.cons (op_assign (A := rd (kint .i64) 0) rfl rfl (vk rfl)) rfl ?_
    refine AOps.cons (op_assign (A := rd (kint .i64) 32) rfl rfl (vk rfl)) rfl ?_
    refine AOps.cons (op_assign (A := rd kbool false) rfl rfl vb) rfl ?_
    refine AOps.nil ?_
    refine AW.ret ?_
    obtain rfl := Option.some.inj h
    exact ret4 Try.results72 rfl (out_tmp rfl) (out_tmp rfl) (out_tmp rfl) (out_tmp rfl)
  · have h := cond_f hc h
    refine AW.seq ?_
    refine AW.region ?_
    refine AOps.cons (op_eql rfl rfl (vt rfl) (vk rfl)) rfl ?_
    refine AOps.cons (op_assign (A := rd kbool (decide (f1 = 1))) rfl rfl (vt rfl)) rfl ?_
    refine AOps.nil ?_
    refine AW.cond (vt rfl) (fun hc => ?_) (fun hc => ?_)
    · have h := cond_t hc h
      refine AW.seq ?_
      refine AW.region ?_
      refine AOps.cons (op_assign (A := rd kstr { data := #[109, 101, 116, 97, 100, 97, 116, 97] }) rfl rfl (vs (by decide))) rfl ?_
      refine AOps.cons (op_assign (A := rd (kint .i64) 2) rfl rfl (vk rfl)) rfl ?_
      refine AOps.cons (op_assign (A := rd (kint .i64) 64) rfl rfl (vk rfl)) rfl ?_
      refine AOps.cons (op_assign (A := rd kbool true) rfl rfl vb) rfl ?_
      refine AOps.nil ?_
      refine AW.ret ?_
      obtain rfl := Option.some.inj h
      exact ret4 Try.results72 rfl (out_tmp rfl) (out_tmp rfl) (out_tmp rfl) (out_tmp rfl)
    · have h := cond_f hc h
      refine AW.seq ?_
      refine AW.region ?_
      refine AOps.cons (op_eql rfl rfl (vt rfl) (vk rfl)) rfl ?_
      refine AOps.cons (op_assign (A := rd kbool (decide (f1 = 2))) rfl rfl (vt rfl)) rfl ?_
      refine AOps.nil ?_
      refine AW.cond (vt rfl) (fun hc => ?_) (fun hc => ?_)
      · have h := cond_t hc h
        refine AW.seq ?_
        refine AW.region ?_
        refine AOps.cons (op_assign (A := rd kstr { data := #[101, 116, 104, 95, 100, 115, 116] }) rfl rfl (vs (by decide))) rfl ?_
        refine AOps.cons (op_assign (A := rd (kint .i64) 3) rfl rfl (vk rfl)) rfl ?_
        refine AOps.cons (op_assign (A := rd (kint .i64) 48) rfl rfl (vk rfl)) rfl ?_
        refine AOps.cons (op_assign (A := rd kbool true) rfl rfl vb) rfl ?_
        refine AOps.nil ?_
        refine AW.ret ?_
        obtain rfl := Option.some.inj h
        exact ret4 Try.results72 rfl (out_tmp rfl) (out_tmp rfl) (out_tmp rfl) (out_tmp rfl)
      · have h := cond_f hc h
        refine AW.seq ?_
        refine AW.region ?_
        refine AOps.cons (op_eql rfl rfl (vt rfl) (vk rfl)) rfl ?_
        refine AOps.cons (op_assign (A := rd kbool (decide (f1 = 3))) rfl rfl (vt rfl)) rfl ?_
        refine AOps.nil ?_
        refine AW.cond (vt rfl) (fun hc => ?_) (fun hc => ?_)
        · have h := cond_t hc h
          refine AW.seq ?_
          refine AW.region ?_
          refine AOps.cons (op_assign (A := rd kstr { data := #[101, 116, 104, 95, 115, 114, 99] }) rfl rfl (vs (by decide))) rfl ?_
          refine AOps.cons (op_assign (A := rd (kint .i64) 4) rfl rfl (vk rfl)) rfl ?_
          refine AOps.cons (op_assign (A := rd (kint .i64) 48) rfl rfl (vk rfl)) rfl ?_
          refine AOps.cons (op_assign (A := rd kbool true) rfl rfl vb) rfl ?_
          refine AOps.nil ?_
          refine AW.ret ?_
          obtain rfl := Option.some.inj h
          exact ret4 Try.results72 rfl (out_tmp rfl) (out_tmp rfl) (out_tmp rfl) (out_tmp rfl)
        · have h := cond_f hc h
          refine AW.seq ?_
          refine AW.region ?_
          refine AOps.cons (op_eql rfl rfl (vt rfl) (vk rfl)) rfl ?_
          refine AOps.cons (op_assign (A := rd kbool (decide (f1 = 4))) rfl rfl (vt rfl)) rfl ?_
          refine AOps.nil ?_
          refine AW.cond (vt rfl) (fun hc => ?_) (fun hc => ?_)
          · have h := cond_t hc h
            refine AW.seq ?_
            refine AW.region ?_
            refine AOps.cons (op_assign (A := rd kstr { data := #[101, 116, 104, 95, 116, 121, 112, 101] }) rfl rfl (vs (by decide))) rfl ?_
            refine AOps.cons (op_assign (A := rd (kint .i64) 5) rfl rfl (vk rfl)) rfl ?_
            refine AOps.cons (op_assign (A := rd (kint .i64) 16) rfl rfl (vk rfl)) rfl ?_
            refine AOps.cons (op_assign (A := rd kbool false) rfl rfl vb) rfl ?_
            refine AOps.nil ?_
            refine AW.ret ?_
            obtain rfl := Option.some.inj h
            exact ret4 Try.results72 rfl (out_tmp rfl) (out_tmp rfl) (out_tmp rfl) (out_tmp rfl)
          · have h := cond_f hc h
            refine AW.seq ?_
            refine AW.region ?_
            refine AOps.cons (op_eql rfl rfl (vt rfl) (vk rfl)) rfl ?_
            refine AOps.cons (op_assign (A := rd kbool (decide (f1 = 5))) rfl rfl (vt rfl)) rfl ?_
            refine AOps.nil ?_
            refine AW.cond (vt rfl) (fun hc => ?_) (fun hc => ?_)
            · have h := cond_t hc h
              refine AW.seq ?_
              refine AW.region ?_
              refine AOps.cons (op_assign (A := rd kstr { data := #[118, 108, 97, 110, 95, 118, 105, 100] }) rfl rfl (vs (by decide))) rfl ?_
              refine AOps.cons (op_assign (A := rd (kint .i64) 6) rfl rfl (vk rfl)) rfl ?_
              refine AOps.cons (op_assign (A := rd (kint .i64) 13) rfl rfl (vk rfl)) rfl ?_
              refine AOps.cons (op_assign (A := rd kbool true) rfl rfl vb) rfl ?_
              refine AOps.nil ?_
              refine AW.ret ?_
              obtain rfl := Option.some.inj h
              exact ret4 Try.results72 rfl (out_tmp rfl) (out_tmp rfl) (out_tmp rfl) (out_tmp rfl)
            · have h := cond_f hc h
              refine AW.seq ?_
              refine AW.region ?_
              refine AOps.cons (op_eql rfl rfl (vt rfl) (vk rfl)) rfl ?_
              refine AOps.cons (op_assign (A := rd kbool (decide (f1 = 6))) rfl rfl (vt rfl)) rfl ?_
              refine AOps.nil ?_
              refine AW.cond (vt rfl) (fun hc => ?_) (fun hc => ?_)
              · have h := cond_t hc h
                refine AW.seq ?_
                refine AW.region ?_
                refine AOps.cons (op_assign (A := rd kstr { data := #[118, 108, 97, 110, 95, 112, 99, 112] }) rfl rfl (vs (by decide))) rfl ?_
                refine AOps.cons (op_assign (A := rd (kint .i64) 7) rfl rfl (vk rfl)) rfl ?_
                refine AOps.cons (op_assign (A := rd (kint .i64) 3) rfl rfl (vk rfl)) rfl ?_
                refine AOps.cons (op_assign (A := rd kbool false) rfl rfl vb) rfl ?_
                refine AOps.nil ?_
                refine AW.ret ?_
                obtain rfl := Option.some.inj h
                exact ret4 Try.results72 rfl (out_tmp rfl) (out_tmp rfl) (out_tmp rfl) (out_tmp rfl)
              · have h := cond_f hc h
                refine AW.seq ?_
                refine AW.region ?_
                refine AOps.cons (op_eql rfl rfl (vt rfl) (vk rfl)) rfl ?_
                refine AOps.cons (op_assign (A := rd kbool (decide (f1 = 7))) rfl rfl (vt rfl)) rfl ?_
                refine AOps.nil ?_
                refine AW.cond (vt rfl) (fun hc => ?_) (fun hc => ?_)
                · have h := cond_t hc h
                  refine AW.seq ?_
                  refine AW.region ?_
                  refine AOps.cons (op_assign (A := rd kstr { data := #[105, 112, 95, 100, 115, 99, 112] }) rfl rfl (vs (by decide))) rfl ?_
                  refine AOps.cons (op_assign (A := rd (kint .i64) 8) rfl rfl (vk rfl)) rfl ?_
                  refine AOps.cons (op_assign (A := rd (kint .i64) 6) rfl rfl (vk rfl)) rfl ?_
                  refine AOps.cons (op_assign (A := rd kbool false) rfl rfl vb) rfl ?_
                  refine AOps.nil ?_
                  refine AW.ret ?_
                  obtain rfl := Option.some.inj h
                  exact ret4 Try.results72 rfl (out_tmp rfl) (out_tmp rfl) (out_tmp rfl) (out_tmp rfl)
                · have h := cond_f hc h
                  refine AW.seq ?_
                  refine AW.region ?_
                  refine AOps.cons (op_eql rfl rfl (vt rfl) (vk rfl)) rfl ?_
                  refine AOps.cons (op_assign (A := rd kbool (decide (f1 = 8))) rfl rfl (vt rfl)) rfl ?_
                  refine AOps.nil ?_
                  refine AW.cond (vt rfl) (fun hc => ?_) (fun hc => ?_)
                  · have h := cond_t hc h
                    refine AW.seq ?_
                    refine AW.region ?_
                    refine AOps.cons (op_assign (A := rd kstr { data := #[105, 112, 95, 101, 99, 110] }) rfl rfl (vs (by decide))) rfl ?_
                    refine AOps.cons (op_assign (A := rd (kint .i64) 9) rfl rfl (vk rfl)) rfl ?_
                    refine AOps.cons (op_assign (A := rd (kint .i64) 2) rfl rfl (vk rfl)) rfl ?_
                    refine AOps.cons (op_assign (A := rd kbool false) rfl rfl vb) rfl ?_
                    refine AOps.nil ?_
                    refine AW.ret ?_
                    obtain rfl := Option.some.inj h
                    exact ret4 Try.results72 rfl (out_tmp rfl) (out_tmp rfl) (out_tmp rfl) (out_tmp rfl)
                  · have h := cond_f hc h
                    refine AW.seq ?_
                    refine AW.region ?_
                    refine AOps.cons (op_eql rfl rfl (vt rfl) (vk rfl)) rfl ?_
                    refine AOps.cons (op_assign (A := rd kbool (decide (f1 = 9))) rfl rfl (vt rfl)) rfl ?_
                    refine AOps.nil ?_
                    refine AW.cond (vt rfl) (fun hc => ?_) (fun hc => ?_)
                    · have h := cond_t hc h
                      refine AW.seq ?_
                      refine AW.region ?_
                      refine AOps.cons (op_assign (A := rd kstr { data := #[105, 112, 95, 112, 114, 111, 116, 111] }) rfl rfl (vs (by decide))) rfl ?_
                      refine AOps.cons (op_assign (A := rd (kint .i64) 10) rfl rfl (vk rfl)) rfl ?_
                      refine AOps.cons (op_assign (A := rd (kint .i64) 8) rfl rfl (vk rfl)) rfl ?_
                      refine AOps.cons (op_assign (A := rd kbool false) rfl rfl vb) rfl ?_
                      refine AOps.nil ?_
                      refine AW.ret ?_
                      obtain rfl := Option.some.inj h
                      exact ret4 Try.results72 rfl (out_tmp rfl) (out_tmp rfl) (out_tmp rfl) (out_tmp rfl)
                    · have h := cond_f hc h
                      refine AW.seq ?_
                      refine AW.region ?_
                      refine AOps.cons (op_eql rfl rfl (vt rfl) (vk rfl)) rfl ?_
                      refine AOps.cons (op_assign (A := rd kbool (decide (f1 = 10))) rfl rfl (vt rfl)) rfl ?_
                      refine AOps.nil ?_
                      refine AW.cond (vt rfl) (fun hc => ?_) (fun hc => ?_)
                      · have h := cond_t hc h
                        refine AW.seq ?_
                        refine AW.region ?_
                        refine AOps.cons (op_assign (A := rd kstr { data := #[105, 112, 118, 52, 95, 115, 114, 99] }) rfl rfl (vs (by decide))) rfl ?_
                        refine AOps.cons (op_assign (A := rd (kint .i64) 11) rfl rfl (vk rfl)) rfl ?_
                        refine AOps.cons (op_assign (A := rd (kint .i64) 32) rfl rfl (vk rfl)) rfl ?_
                        refine AOps.cons (op_assign (A := rd kbool true) rfl rfl vb) rfl ?_
                        refine AOps.nil ?_
                        refine AW.ret ?_
                        obtain rfl := Option.some.inj h
                        exact ret4 Try.results72 rfl (out_tmp rfl) (out_tmp rfl) (out_tmp rfl) (out_tmp rfl)
                      · have h := cond_f hc h
                        refine AW.seq ?_
                        refine AW.region ?_
                        refine AOps.cons (op_eql rfl rfl (vt rfl) (vk rfl)) rfl ?_
                        refine AOps.cons (op_assign (A := rd kbool (decide (f1 = 11))) rfl rfl (vt rfl)) rfl ?_
                        refine AOps.nil ?_
                        refine AW.cond (vt rfl) (fun hc => ?_) (fun hc => ?_)
                        · have h := cond_t hc h
                          refine AW.seq ?_
                          refine AW.region ?_
                          refine AOps.cons (op_assign (A := rd kstr { data := #[105, 112, 118, 52, 95, 100, 115, 116] }) rfl rfl (vs (by decide))) rfl ?_
                          refine AOps.cons (op_assign (A := rd (kint .i64) 12) rfl rfl (vk rfl)) rfl ?_
                          refine AOps.cons (op_assign (A := rd (kint .i64) 32) rfl rfl (vk rfl)) rfl ?_
                          refine AOps.cons (op_assign (A := rd kbool true) rfl rfl vb) rfl ?_
                          refine AOps.nil ?_
                          refine AW.ret ?_
                          obtain rfl := Option.some.inj h
                          exact ret4 Try.results72 rfl (out_tmp rfl) (out_tmp rfl) (out_tmp rfl) (out_tmp rfl)
                        · have h := cond_f hc h
                          refine AW.skip ?_
                          refine AW.seq ?_
                          obtain ⟨x2, hx2, h⟩ := bsome h
                          refine AW.region ?_
                          refine AOps.cons (op_move (A := rd (kint .i64) f1) rfl rfl (vt rfl)) rfl ?_
                          refine AOps.cons (op_call (xs := [.tmp 31]) (c89 _ _ hx2) (Ent.mk Try.func89 rfl rfl) rfl rfl ⟨vt rfl, trivial⟩) rfl ?_
                          refine AOps.cons (op_ext4_0 rfl rfl (vt rfl)) rfl ?_
                          refine AOps.cons (op_ext4_1 rfl rfl (vt rfl)) rfl ?_
                          refine AOps.cons (op_ext4_2 rfl rfl (vt rfl)) rfl ?_
                          refine AOps.cons (op_ext4_3 rfl rfl (vt rfl)) rfl ?_
                          refine AOps.cons (op_assign (A := rd kstr x2.1) rfl rfl (vt rfl)) rfl ?_
                          refine AOps.cons (op_assign (A := rd (kint .i64) x2.2.1) rfl rfl (vt rfl)) rfl ?_
                          refine AOps.cons (op_assign (A := rd (kint .i64) x2.2.2.1) rfl rfl (vt rfl)) rfl ?_
                          refine AOps.cons (op_assign (A := rd kbool x2.2.2.2) rfl rfl (vt rfl)) rfl ?_
                          refine AOps.nil ?_
                          refine AW.ret ?_
                          obtain rfl := Option.some.inj h
                          exact ret4 Try.results72 rfl (out_tmp rfl) (out_tmp rfl) (out_tmp rfl) (out_tmp rfl)
-- weirbox/weirboxref03.Bits
def F63 (f1 : Int) : Option Int :=
  (F72 f1).bind fun x2 => some x2.2.2.1
theorem c63 (f1 : Int) (r : Int) (h : F63 f1 = some r) : PCon Try.prog 63 [rd (kint .i64) f1] (rd (kint .i64) r) := by
  refine PCon.of (Con.intro0 Try.func63 rfl Try.ntmps63 rfl fun w H => ?_)
  unfold F63 at h
  refine AW.seq ?_
  refine AW.region ?_
  refine AOps.cons (op_assign (A := rd (kint .i64) 0) rfl rfl (vk rfl)) rfl ?_
  refine AOps.nil ?_
  refine AW.seq ?_
  obtain ⟨x2, hx2, h⟩ := bsome h
  refine AW.region ?_
  refine AOps.cons (op_move (A := rd (kint .i64) f1) rfl rfl (vt rfl)) rfl ?_
  refine AOps.cons (op_call (xs := [.tmp 8]) (c72 _ _ hx2) (Ent.mk Try.func72 rfl rfl) rfl rfl ⟨vt rfl, trivial⟩) rfl ?_
  refine AOps.cons (op_move (A := tup4 (rd kstr x2.1) (rd (kint .i64) x2.2.1) (rd (kint .i64) x2.2.2.1) (rd kbool x2.2.2.2)) rfl rfl (vt rfl)) rfl ?_
  refine AOps.cons (op_ext4_0 rfl rfl (vt rfl)) rfl ?_
  refine AOps.cons (op_ext4_1 rfl rfl (vt rfl)) rfl ?_
  refine AOps.cons (op_ext4_2 rfl rfl (vt rfl)) rfl ?_
  refine AOps.cons (op_ext4_3 rfl rfl (vt rfl)) rfl ?_
  refine AOps.cons (op_assign (A := rd kstr x2.1) rfl rfl (vt rfl)) rfl ?_
  refine AOps.cons (op_assign (A := rd (kint .i64) x2.2.1) rfl rfl (vt rfl)) rfl ?_
  refine AOps.cons (op_assign (A := rd (kint .i64) x2.2.2.1) rfl rfl (vt rfl)) rfl ?_
  refine AOps.cons (op_assign (A := rd kbool x2.2.2.2) rfl rfl (vt rfl)) rfl ?_
  refine AOps.nil ?_
  refine AW.seq ?_
  refine AW.region ?_
  refine AOps.cons (op_move (A := rd (kint .i64) x2.2.2.1) rfl rfl (vt rfl)) rfl ?_
  refine AOps.cons (op_assign (A := rd (kint .i64) x2.2.2.1) rfl rfl (vt rfl)) rfl ?_
  refine AOps.nil ?_
  refine AW.ret ?_
  obtain rfl := Option.some.inj h
  exact ret1 Try.results63 rfl (out_tmp rfl)
-- weirbox/weirboxref02.Bit
def F48 (i1 : Int) : Option Wide :=
  (bif ((decide (i1 < 0)) || (decide (i1 > 127))) then some (⟨0, 0⟩ : Wide) else (bif (decide (i1 < 64)) then (oushl (1 : BitVec 64) ((BitVec.ofInt 64 i1).toNat : Int)).bind fun q3 => some (⟨0, q3⟩ : Wide) else (oushl (1 : BitVec 64) ((BitVec.ofInt 64 (IntKind.i64.wrap (i1 - 64))).toNat : Int)).bind fun q4 => some (⟨q4, 0⟩ : Wide)))
theorem c48 (i1 : Int) (r : Wide) (h : F48 i1 = some r) : PCon Try.prog 48 [rd (kint .i64) i1] (rd kWide r) := by
  refine PCon.of (Con.intro0 Try.func48 rfl Try.ntmps48 rfl fun w H => ?_)
  unfold F48 at h
  refine AW.seq ?_
  refine AW.region ?_
  refine AOps.consT rfl (op_alloc 3 rfl rfl zr25) ?_
  rintro _ ⟨g2, rfl⟩
  refine AOps.nil ?_
  refine AW.seq ?_
  refine AW.block ?_
  refine AW.seq ?_
  refine AW.region ?_
  refine AOps.cons (op_move (A := rd (kint .i64) i1) rfl rfl (vt rfl)) rfl ?_
  refine AOps.cons (op_lss rfl rfl (vt rfl) (vk rfl)) rfl ?_
  refine AOps.cons (op_move (A := rd kbool (decide (i1 < 0))) rfl rfl (vt rfl)) rfl ?_
  refine AOps.consG (OpG.guard rfl rfl rfl rfl rfl fun hq => op_move (A := rd (kint .i64) i1) rfl rfl (vt rfl)) ?_
  refine AOps.consG (OpG.guard rfl rfl rfl rfl rfl fun hq => op_gtr rfl rfl (vgt rfl hq) (vk rfl)) ?_
  refine AOps.cons (op_any rfl rfl (vt rfl) (vt rfl)) rfl ?_
  refine AOps.cons (op_assign (A := rd kbool ((decide (i1 < 0)) || (decide (i1 > 127)))) rfl rfl (vt rfl)) rfl ?_
  refine AOps.nil ?_
  refine AW.cond (vt rfl) (fun hc => ?_) (fun hc => ?_)
  · have h := cond_t hc h
    refine AW.seq ?_
    refine AW.region ?_
    refine AOps.cons (op_build (ps := []) (x := (⟨0, 0⟩ : Wide)) rfl rfl rfl (by kernel_rfl) zr25 rfl) rfl ?_
    refine AOps.cons (op_store rfl rfl ty25 (vt rfl) (i := 3) rfl (vt rfl)) rfl ?_
    refine AOps.nil ?_
    refine AW.ret ?_
    obtain rfl := Option.some.inj h
    exact ret1 Try.results48 rfl (out_cell rfl (i := 3) rfl ty25)
  · have h := cond_f hc h
    refine AW.seq ?_
    refine AW.region ?_
    refine AOps.cons (op_move (A := rd (kint .i64) i1) rfl rfl (vt rfl)) rfl ?_
    refine AOps.cons (op_lss rfl rfl (vt rfl) (vk rfl)) rfl ?_
    refine AOps.cons (op_assign (A := rd kbool (decide (i1 < 64))) rfl rfl (vt rfl)) rfl ?_
    refine AOps.nil ?_
    refine AW.cond (vt rfl) (fun hc => ?_) (fun hc => ?_)
    · have h := cond_t hc h
      refine AW.seq ?_
      obtain ⟨q3, hq3, h⟩ := bsome h
      refine AW.region ?_
      refine AOps.cons (op_move (A := rd (kint .i64) i1) rfl rfl (vt rfl)) rfl ?_
      refine AOps.cons (op_convu rfl rfl us3 un100 (vt rfl)) rfl ?_
      refine AOps.cons (op_ushl rfl rfl (vku (1 : BitVec 64) rfl) (vu64 (vt rfl)) hq3) rfl ?_
      refine AOps.cons (op_build (ps := [(1, .tmp 16)]) (x := (⟨0, q3⟩ : Wide)) rfl rfl rfl (by kernel_rfl) zr25 ⟨_, _, lWide_1, _, by kernel_rfl, (vt rfl), rfl⟩) rfl ?_
      refine AOps.cons (op_store rfl rfl ty25 (vt rfl) (i := 3) rfl (vt rfl)) rfl ?_
      refine AOps.nil ?_
      refine AW.ret ?_
      obtain rfl := Option.some.inj h
      exact ret1 Try.results48 rfl (out_cell rfl (i := 3) rfl ty25)
    · have h := cond_f hc h
      refine AW.skip ?_
      refine AW.seq ?_
      obtain ⟨q4, hq4, h⟩ := bsome h
      refine AW.region ?_
      refine AOps.cons (op_move (A := rd (kint .i64) i1) rfl rfl (vt rfl)) rfl ?_
      refine AOps.cons (op_sub rfl rfl (vt rfl) (vk rfl)) rfl ?_
      refine AOps.cons (op_convu rfl rfl us3 un100 (vt rfl)) rfl ?_
      refine AOps.cons (op_ushl rfl rfl (vku (1 : BitVec 64) rfl) (vu64 (vt rfl)) hq4) rfl ?_
      refine AOps.cons (op_build (ps := [(0, .tmp 21)]) (x := (⟨q4, 0⟩ : Wide)) rfl rfl rfl (by kernel_rfl) zr25 ⟨_, _, lWide_0, _, by kernel_rfl, (vt rfl), rfl⟩) rfl ?_
      refine AOps.cons (op_store rfl rfl ty25 (vt rfl) (i := 3) rfl (vt rfl)) rfl ?_
      refine AOps.nil ?_
      refine AW.ret ?_
      obtain rfl := Option.some.inj h
      exact ret1 Try.results48 rfl (out_cell rfl (i := 3) rfl ty25)
-- weirbox/weirboxref02.Or
def F43 (a1 : Wide) (b2 : Wide) : Option Wide :=
  some (⟨(a1.Hi ||| b2.Hi), (a1.Lo ||| b2.Lo)⟩ : Wide)
theorem c43 (a1 : Wide) (b2 : Wide) (r : Wide) (h : F43 a1 b2 = some r) : PCon Try.prog 43 [rd kWide a1, rd kWide b2] (rd kWide r) := by
  refine PCon.of (Con.intro0 Try.func43 rfl Try.ntmps43 rfl fun w H => ?_)
  unfold F43 at h
  refine AW.seq ?_
  refine AW.region ?_
  refine AOps.consT rfl (op_box 3 rfl rfl (vt rfl)) ?_
  rintro _ ⟨g3, rfl⟩
  refine AOps.consT rfl (op_box 4 rfl rfl (vt rfl)) ?_
  rintro _ ⟨g4, rfl⟩
  refine AOps.consT rfl (op_alloc 5 rfl rfl zr25) ?_
  rintro _ ⟨g5, rfl⟩
  refine AOps.nil ?_
  refine AW.seq ?_
  refine AW.region ?_
  refine AOps.cons (op_field lWide_0 rfl rfl fl25_0 (vt rfl)) rfl ?_
  refine AOps.cons (op_load rfl rfl ty23 (vt rfl) (i := 3) rfl) rfl ?_
  refine AOps.cons (op_field lWide_0 rfl rfl fl25_0 (vt rfl)) rfl ?_
  refine AOps.cons (op_load rfl rfl ty23 (vt rfl) (i := 4) rfl) rfl ?_
  refine AOps.cons (op_or rfl rfl (vt rfl) (vt rfl)) rfl ?_
  refine AOps.cons (op_field lWide_1 rfl rfl fl25_1 (vt rfl)) rfl ?_
  refine AOps.cons (op_load rfl rfl ty23 (vt rfl) (i := 3) rfl) rfl ?_
  refine AOps.cons (op_field lWide_1 rfl rfl fl25_1 (vt rfl)) rfl ?_
  refine AOps.cons (op_load rfl rfl ty23 (vt rfl) (i := 4) rfl) rfl ?_
  refine AOps.cons (op_or rfl rfl (vt rfl) (vt rfl)) rfl ?_
  refine AOps.cons (op_build (ps := [(0, .tmp 9), (1, .tmp 14)]) (x := (⟨(a1.Hi ||| b2.Hi), (a1.Lo ||| b2.Lo)⟩ : Wide)) rfl rfl rfl (by kernel_rfl) zr25 ⟨_, _, lWide_0, _, by kernel_rfl, (vt rfl), _, _, lWide_1, _, by kernel_rfl, (vt rfl), rfl⟩) rfl ?_
  refine AOps.cons (op_store rfl rfl ty25 (vt rfl) (i := 5) rfl (vt rfl)) rfl ?_
  refine AOps.nil ?_
  refine AW.ret ?_
  obtain rfl := Option.some.inj h
  exact ret1 Try.results43 rfl (out_cell rfl (i := 5) rfl ty25)
-- weirbox/weirboxref02.Low
def F49_l1 (n1 : Int) : Nat → Wide → Int → Option Wide
  | 0, _, _ => none
  | m8 + 1, b6, i7 => (bif ((decide (i7 < n1)) && (decide (i7 < 128))) then (F48 i7).bind fun x9 => (F43 b6 x9).bind fun x10 => (F49_l1 n1 m8) x10 (IntKind.i64.wrap (i7 + 1)) else some b6)
def F49 (n1 : Int) : Option Wide :=
  F49_l1 n1 fuel0 (⟨0, 0⟩ : Wide) 0
theorem c49 (n1 : Int) (r : Wide) (h : F49 n1 = some r) : PCon Try.prog 49 [rd (kint .i64) n1] (rd kWide r) := by
  refine PCon.of (Con.intro0 Try.func49 rfl Try.ntmps49 rfl fun w H => ?_)
  unfold F49 at h
  refine AW.seq ?_
  refine AW.region ?_
  refine AOps.consT rfl (op_alloc 3 rfl rfl zr25) ?_
  rintro _ ⟨g2, rfl⟩
  refine AOps.nil ?_
  refine AW.seq ?_
  refine AW.region ?_
  refine AOps.cons (op_build (ps := []) (x := (⟨0, 0⟩ : Wide)) rfl rfl rfl (by kernel_rfl) zr25 rfl) rfl ?_
  refine AOps.consT rfl (op_alloc 4 rfl rfl zr25) ?_
  rintro _ ⟨g3, rfl⟩
  refine AOps.cons (op_store rfl rfl ty25 (vt rfl) (i := 4) rfl (vt rfl)) rfl ?_
  refine AOps.nil ?_
  refine AW.seq ?_
  refine AW.seq ?_
  refine AW.region ?_
  refine AOps.cons (op_assign (A := rd (kint .i64) 0) rfl rfl (vk rfl)) rfl ?_
  refine AOps.nil ?_
  refine AW.block ?_
  refine AW.loopG (d := []) (ν := Nat × Wide × Int) (fun n => True ∧ F49_l1 n1 n.1 n.2.1 n.2.2 = some r) (fun n => n.1) (fun n => [(0, rd (kint .i64) n1), (2, ptrL g2 (Lens.id kWide)), (3, ptrL g3 (Lens.id kWide)), (4, rd (kint .i64) n.2.2)]) (fun n => [(3, Blk g2 25 kWide zWide), (4, Blk g3 25 kWide n.2.1)]) (fuel0, (⟨0, 0⟩ : Wide), 0) ⟨trivial, h⟩ ⟨rfl, ⟨rfl, rfl, rfl, rfl, trivial⟩, ⟨rfl, rfl, trivial⟩⟩ ?_
  rintro ⟨m8, b6, i7⟩ ⟨hsf1, h⟩
  change True at hsf1
  change F49_l1 n1 m8 b6 i7 = some r at h
  change AW _ _ _ ⟨slots [(0, rd (kint .i64) n1), (2, ptrL g2 (Lens.id kWide)), (3, ptrL g3 (Lens.id kWide)), (4, rd (kint .i64) i7)], ress [(3, Blk g2 25 kWide zWide), (4, Blk g3 25 kWide b6)], _⟩
  cases m8 with
  | zero => cases h
  | succ m8 =>
    unfold F49_l1 at h
    generalize hgo1 : F49_l1 n1 m8 = go1 at h
    refine AW.seq ?_
    refine AW.seq ?_
    refine AW.region ?_
    refine AOps.cons (op_move (A := rd (kint .i64) i7) rfl rfl (vt rfl)) rfl ?_
    refine AOps.cons (op_move (A := rd (kint .i64) n1) rfl rfl (vt rfl)) rfl ?_
    refine AOps.cons (op_lss rfl rfl (vt rfl) (vt rfl)) rfl ?_
    refine AOps.cons (op_move (A := rd kbool (decide (i7 < n1))) rfl rfl (vt rfl)) rfl ?_
    refine AOps.consG (OpG.guard rfl rfl rfl rfl rfl fun hq => op_move (A := rd (kint .i64) i7) rfl rfl (vt rfl)) ?_
    refine AOps.consG (OpG.guard rfl rfl rfl rfl rfl fun hq => op_lss rfl rfl (vgt rfl hq) (vk rfl)) ?_
    refine AOps.cons (op_all rfl rfl (vt rfl) (vt rfl)) rfl ?_
    refine AOps.nil ?_
    refine AW.cond (vt rfl) (fun hc => ?_) (fun hc => ?_)
    · have h := cond_t hc h
      refine AW.skip ?_
      refine AW.seq ?_
      refine AW.block ?_
      obtain ⟨x9, hx9, h⟩ := bsome h
      obtain ⟨x10, hx10, h⟩ := bsome h
      refine AW.regionAny [⟨[3], [15], [4], []⟩, ⟨[4], [16], [], []⟩, ⟨[16], [17], [], []⟩, ⟨[15, 17], [18], [], []⟩, ⟨[3, 18], [], [4], [4]⟩] mixed (by kernel_rfl) ?_
      refine SeqA.cons (loc [3] [4] rfl rfl fun S hs hr => op_load rfl rfl ty25 (vt ((hs 3 rfl).trans rfl)) (i := 4) ((hr 4 rfl).trans rfl)) ⟨rfl, rfl, rfl, rfl⟩ ?_
      refine SeqA.cons (loc [4] [] rfl rfl fun S hs hr => op_move (A := rd (kint .i64) i7) rfl rfl (vt ((hs 4 rfl).trans rfl))) ⟨rfl, rfl, rfl, rfl⟩ ?_
      refine SeqA.cons (loc [16] [] rfl rfl fun S hs hr => op_call (xs := [.tmp 16]) (c48 _ _ hx9) (Ent.mk Try.func48 rfl rfl) rfl rfl ⟨vt ((hs 16 rfl).trans rfl), trivial⟩) ⟨rfl, rfl, rfl, rfl⟩ ?_
      refine SeqA.cons (loc [15, 17] [] rfl rfl fun S hs hr => op_call (xs := [.tmp 15, .tmp 17]) (c43 _ _ _ hx10) (Ent.mk Try.func43 rfl rfl) rfl rfl ⟨vt ((hs 15 rfl).trans rfl), vt ((hs 17 rfl).trans rfl), trivial⟩) ⟨rfl, rfl, rfl, rfl⟩ ?_
      refine SeqA.cons (locr [3, 18] [4] rfl fun S hs hr => op_store rfl rfl ty25 (vt ((hs 3 rfl).trans rfl)) (i := 4) ((hr 4 rfl).trans rfl) (vt ((hs 18 rfl).trans rfl))) ⟨rfl, rfl, rfl, rfl⟩ ?_
      refine AW.region ?_
      refine AOps.cons (op_move (A := rd (kint .i64) i7) rfl rfl (vt rfl)) rfl ?_
      refine AOps.cons (op_add rfl rfl (vt rfl) (vk rfl)) rfl ?_
      refine AOps.cons (op_assign (A := rd (kint .i64) (IntKind.i64.wrap (i7 + 1))) rfl rfl (vt rfl)) rfl ?_
      refine AOps.nil ?_
      subst hgo1
      exact ⟨(m8, x10, (IntKind.i64.wrap (i7 + 1))), Nat.lt_succ_self _, ⟨trivial, h⟩, ⟨rfl, ⟨rfl, rfl, rfl, rfl, trivial⟩, ⟨rfl, rfl, trivial⟩⟩⟩
    · have h := cond_f hc h
      refine AW.exit ?_
      refine AW.seq ?_
      refine AW.region ?_
      refine AOps.cons (op_load rfl rfl ty25 (vt rfl) (i := 4) rfl) rfl ?_
      refine AOps.cons (op_store rfl rfl ty25 (vt rfl) (i := 3) rfl (vt rfl)) rfl ?_
      refine AOps.nil ?_
      refine AW.ret ?_
      obtain rfl := Option.some.inj h
      exact ret1 Try.results49 rfl (out_cell rfl (i := 3) rfl ty25)
-- weirbox/weirboxref10.Tern
def F45 (o1 : Oxm) : Option Tern :=
  (F62 o1.Field).bind fun x4 => (bif (!x4) then some (⟨zWide, zWide⟩ : Tern) else (bif o1.Masked then some (⟨o1.Value, o1.Mask⟩ : Tern) else (F63 o1.Field).bind fun x5 => (F49 x5).bind fun x6 => some (⟨o1.Value, x6⟩ : Tern)))
theorem c45 (o1 : Oxm) (r : Tern) (h : F45 o1 = some r) : PCon Try.prog 45 [rd kOxm o1] (rd kTern r) := by
  refine PCon.of (Con.intro0 Try.func45 rfl Try.ntmps45 rfl fun w H => ?_)
  unfold F45 at h
  refine AW.seq ?_
  refine AW.region ?_
  refine AOps.consT rfl (op_box 2 rfl rfl (vt rfl)) ?_
  rintro _ ⟨g2, rfl⟩
  refine AOps.consT rfl (op_alloc 3 rfl rfl zr27) ?_
  rintro _ ⟨g3, rfl⟩
  refine AOps.nil ?_
  refine AW.seq ?_
  refine AW.seq ?_
  obtain ⟨x4, hx4, h⟩ := bsome h
  refine AW.region ?_
  refine AOps.cons (op_field lOxm_0 rfl rfl fl54_0 (vt rfl)) rfl ?_
  refine AOps.cons (op_load rfl rfl ty3 (vt rfl) (i := 2) rfl) rfl ?_
  refine AOps.cons (op_call (xs := [.tmp 4]) (c62 _ _ hx4) (Ent.mk Try.func62 rfl rfl) rfl rfl ⟨vt rfl, trivial⟩) rfl ?_
  refine AOps.cons (op_not rfl rfl (vt rfl)) rfl ?_
  refine AOps.nil ?_
  refine AW.cond (vt rfl) (fun hc => ?_) (fun hc => ?_)
  · have h := cond_t hc h
    refine AW.seq ?_
    refine AW.region ?_
    refine AOps.cons (op_build (ps := []) (x := (⟨zWide, zWide⟩ : Tern)) rfl rfl rfl (by kernel_rfl) zr27 rfl) rfl ?_
    refine AOps.cons (op_store rfl rfl ty27 (vt rfl) (i := 3) rfl (vt rfl)) rfl ?_
    refine AOps.nil ?_
    refine AW.ret ?_
    obtain rfl := Option.some.inj h
    exact ret1 Try.results45 rfl (out_cell rfl (i := 3) rfl ty27)
  · have h := cond_f hc h
    refine AW.skip ?_
    refine AW.seq ?_
    refine AW.seq ?_
    refine AW.region ?_
    refine AOps.cons (op_field lOxm_1 rfl rfl fl54_1 (vt rfl)) rfl ?_
    refine AOps.cons (op_load rfl rfl ty4 (vt rfl) (i := 2) rfl) rfl ?_
    refine AOps.nil ?_
    refine AW.cond (vt rfl) (fun hc => ?_) (fun hc => ?_)
    · have h := cond_t hc h
      refine AW.seq ?_
      refine AW.region ?_
      refine AOps.cons (op_field lOxm_2 rfl rfl fl54_2 (vt rfl)) rfl ?_
      refine AOps.cons (op_load rfl rfl ty25 (vt rfl) (i := 2) rfl) rfl ?_
      refine AOps.cons (op_field lOxm_3 rfl rfl fl54_3 (vt rfl)) rfl ?_
      refine AOps.cons (op_load rfl rfl ty25 (vt rfl) (i := 2) rfl) rfl ?_
      refine AOps.cons (op_build (ps := [(0, .tmp 11), (1, .tmp 13)]) (x := (⟨o1.Value, o1.Mask⟩ : Tern)) rfl rfl rfl (by kernel_rfl) zr27 ⟨_, _, lTern_0, _, by kernel_rfl, (vt rfl), _, _, lTern_1, _, by kernel_rfl, (vt rfl), rfl⟩) rfl ?_
      refine AOps.cons (op_store rfl rfl ty27 (vt rfl) (i := 3) rfl (vt rfl)) rfl ?_
      refine AOps.nil ?_
      refine AW.ret ?_
      obtain rfl := Option.some.inj h
      exact ret1 Try.results45 rfl (out_cell rfl (i := 3) rfl ty27)
    · have h := cond_f hc h
      refine AW.skip ?_
      refine AW.seq ?_
      obtain ⟨x5, hx5, h⟩ := bsome h
      obtain ⟨x6, hx6, h⟩ := bsome h
      refine AW.regionAny [⟨[1], [15], [], []⟩, ⟨[15], [16], [2], []⟩, ⟨[1], [17], [], []⟩, ⟨[17], [18], [2], []⟩, ⟨[18], [19], [], []⟩, ⟨[19], [20], [], []⟩, ⟨[16, 20], [21], [], []⟩, ⟨[2, 21], [], [3], [3]⟩] mixed (by kernel_rfl) ?_
      refine SeqA.cons (loc [1] [] rfl rfl fun S hs hr => op_field lOxm_2 rfl rfl fl54_2 (vt ((hs 1 rfl).trans rfl))) ⟨rfl, rfl, rfl, rfl⟩ ?_
      refine SeqA.cons (loc [15] [2] rfl rfl fun S hs hr => op_load rfl rfl ty25 (vt ((hs 15 rfl).trans rfl)) (i := 2) ((hr 2 rfl).trans rfl)) ⟨rfl, rfl, rfl, rfl⟩ ?_
      refine SeqA.cons (loc [1] [] rfl rfl fun S hs hr => op_field lOxm_0 rfl rfl fl54_0 (vt ((hs 1 rfl).trans rfl))) ⟨rfl, rfl, rfl, rfl⟩ ?_
      refine SeqA.cons (loc [17] [2] rfl rfl fun S hs hr => op_load rfl rfl ty3 (vt ((hs 17 rfl).trans rfl)) (i := 2) ((hr 2 rfl).trans rfl)) ⟨rfl, rfl, rfl, rfl⟩ ?_
      refine SeqA.cons (loc [18] [] rfl rfl fun S hs hr => op_call (xs := [.tmp 18]) (c63 _ _ hx5) (Ent.mk Try.func63 rfl rfl) rfl rfl ⟨vt ((hs 18 rfl).trans rfl), trivial⟩) ⟨rfl, rfl, rfl, rfl⟩ ?_
      refine SeqA.cons (loc [19] [] rfl rfl fun S hs hr => op_call (xs := [.tmp 19]) (c49 _ _ hx6) (Ent.mk Try.func49 rfl rfl) rfl rfl ⟨vt ((hs 19 rfl).trans rfl), trivial⟩) ⟨rfl, rfl, rfl, rfl⟩ ?_
      refine SeqA.cons (loc [16, 20] [] rfl rfl fun S hs hr => op_build (ps := [(0, .tmp 16), (1, .tmp 20)]) (x := (⟨o1.Value, x6⟩ : Tern)) rfl rfl rfl (by kernel_rfl) zr27 ⟨_, _, lTern_0, _, by kernel_rfl, (vt ((hs 16 rfl).trans rfl)), _, _, lTern_1, _, by kernel_rfl, (vt ((hs 20 rfl).trans rfl)), rfl⟩) ⟨rfl, rfl, rfl, rfl⟩ ?_
      refine SeqA.cons (locr [2, 21] [3] rfl fun S hs hr => op_store rfl rfl ty27 (vt ((hs 2 rfl).trans rfl)) (i := 3) ((hr 3 rfl).trans rfl) (vt ((hs 21 rfl).trans rfl))) ⟨rfl, rfl, rfl, rfl⟩ ?_
      refine AW.ret ?_
      obtain rfl := Option.some.inj h
      exact ret1 Try.results45 rfl (out_cell rfl (i := 3) rfl ty27)
end Go.Proofs.Ytokmmcflinnfiab.W
