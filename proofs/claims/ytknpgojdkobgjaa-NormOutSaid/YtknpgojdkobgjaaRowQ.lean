/- Whatever the arguments: NormOut returns true and leaves its arguments as they were. No condition. -/
import Derived.Test.YtknpgojdkobgjaaRows
import Derived.Test.YtknpgojdkobgjaaP0
set_option linter.unusedVariables false
set_option linter.unusedSimpArgs false
namespace Go.Proofs.Ytknpgojdkobgjaa.W
open Go Go.Wb
open Go.ChangeShapes Go.WideShapes Go.ChangeAt Go.RowKit
theorem rdb3 : Rdb Try.prog 3 (kint .i64) := rdb_int (by kernel_rfl)
theorem rdb4 : Rdb Try.prog 4 kbool := rdb_bool (by kernel_rfl)
theorem rdb26 : Rdb Try.prog 26 ku64 := rdb_u64 (by kernel_rfl)
theorem rdb28 : Rdb Try.prog 28 kWide := rdb_st (fun y => ⟨y.1, y.2⟩) (by kernel_rfl) (by kernel_rfl) (fun _ => rfl) (frd_cons rdb26 (by kernel_rfl) (frd_one rdb26 (by kernel_rfl)))
theorem rdb93 : Rdb Try.prog 93 kOxm := rdb_st (fun y => ⟨y.1, y.2.1, y.2.2.1, y.2.2.2⟩) (by kernel_rfl) (by kernel_rfl) (fun _ => rfl) (frd_cons rdb3 (by kernel_rfl) (frd_cons rdb4 (by kernel_rfl) (frd_cons rdb28 (by kernel_rfl) (frd_one rdb28 (by kernel_rfl)))))
theorem rdb95 : Rdb Try.prog 95 kAction := rdb_st (fun y => ⟨y.1, y.2.1, y.2.2.1, y.2.2.2.1, y.2.2.2.2.1, y.2.2.2.2.2⟩) (by kernel_rfl) (by kernel_rfl) (fun _ => rfl) (frd_cons rdb3 (by kernel_rfl) (frd_cons rdb3 (by kernel_rfl) (frd_cons rdb3 (by kernel_rfl) (frd_cons rdb3 (by kernel_rfl) (frd_cons rdb3 (by kernel_rfl) (frd_one rdb93 (by kernel_rfl)))))))
theorem rdb66 : Rdb Try.prog 66 (ksl kAction) := rdb_sl (by kernel_rfl) (by kernel_rfl) rfl rdb95
theorem rdb68 : Rdb Try.prog 68 kBucket := rdb_st (fun y => ⟨y.1, y.2.1, y.2.2.1, y.2.2.2⟩) (by kernel_rfl) (by kernel_rfl) (fun _ => rfl) (frd_cons rdb3 (by kernel_rfl) (frd_cons rdb3 (by kernel_rfl) (frd_cons rdb3 (by kernel_rfl) (frd_one rdb66 (by kernel_rfl)))))
theorem rdb61 : Rdb Try.prog 61 (ksl kBucket) := rdb_sl (by kernel_rfl) (by kernel_rfl) rfl rdb68
theorem rdb63 : Rdb Try.prog 63 kGroup := rdb_st (fun y => ⟨y.1, y.2.1, y.2.2⟩) (by kernel_rfl) (by kernel_rfl) (fun _ => rfl) (frd_cons rdb3 (by kernel_rfl) (frd_cons rdb3 (by kernel_rfl) (frd_one rdb61 (by kernel_rfl))))
theorem rdb22 : Rdb Try.prog 22 (ksl kGroup) := rdb_sl (by kernel_rfl) (by kernel_rfl) rfl rdb63
theorem rdb23 : Rdb Try.prog 23 (ksl (kint .i64)) := rdb_sl (by kernel_rfl) (by kernel_rfl) rfl rdb3
theorem rdb25 : Rdb Try.prog 25 kEnv := rdb_st (fun y => ⟨y.1, y.2⟩) (by kernel_rfl) (by kernel_rfl) (fun _ => rfl) (frd_cons rdb3 (by kernel_rfl) (frd_one rdb23 (by kernel_rfl)))
theorem rdb49 : Rdb Try.prog 49 kTern := rdb_st (fun y => ⟨y.1, y.2⟩) (by kernel_rfl) (by kernel_rfl) (fun _ => rfl) (frd_cons rdb28 (by kernel_rfl) (frd_one rdb28 (by kernel_rfl)))
theorem rdb51 : Rdb Try.prog 51 (karr 24 kTern) := rdb_arr (by kernel_rfl) (by kernel_rfl) (by kernel_rfl) rdb49
theorem rdb53 : Rdb Try.prog 53 kAtom := rdb_st (fun y => ⟨y.1, y.2.1, y.2.2.1, y.2.2.2⟩) (by kernel_rfl) (by kernel_rfl) (fun _ => rfl) (frd_cons rdb51 (by kernel_rfl) (frd_cons rdb4 (by kernel_rfl) (frd_cons rdb3 (by kernel_rfl) (frd_one rdb3 (by kernel_rfl)))))
theorem rdb44 : Rdb Try.prog 44 (ksl kAtom) := rdb_sl (by kernel_rfl) (by kernel_rfl) rfl rdb53
theorem rdb30 : Rdb Try.prog 30 (karr 24 kWide) := rdb_arr (by kernel_rfl) (by kernel_rfl) (by kernel_rfl) rdb28
theorem normOut_own : ownKnob Try.prog.godebug = none := by kernel_rfl
theorem normOut_laid : laidOutB Try.prog = true := by kernel_rfl
set_option maxRecDepth 100000 in
theorem normOut_contract (H : Type) (enc : TypeId × Value → H) (W : World) (base : Nat) (args : Array Value) (ds gs : List (DataW H)) (before : List MemPlace)
    (hval : ∀ (j : Nat) t v, Try.f4.params[j]? = some t → args[j]? = some v → Value.okWide Try.prog W .any base t v)
    (hW : DataW.Whole enc Try.prog Try.f4.params.toList Rows.normOutSpec.vars false W args.toList ds gs before) :
    Calls Try.prog 4 args W fun e W' => ∃ v, e = .returned v ∧ Rows.normOutSpec.post enc Try.prog Try.f4 false true false false W args v W' := by
  have hW' := hW
  obtain ⟨p, q, hA0, hV, hps, hfz, hnd⟩ := hW
  have hA : DataW.TrodAll enc Try.prog W 0 (fun _ => true) true [22, 25, 44, 30] args.toList ds p := hA0
  obtain ⟨v0, vs0, d0, ds0, p0, q0, hargs, rfl, rfl, h0, r0⟩ := trodAll_cons hA
  obtain ⟨v1, vs1, d1, ds1, p1, q1, rfl, rfl, rfl, h1, r1⟩ := trodAll_cons r0
  obtain ⟨v2, vs2, d2, ds2, p2, q2, rfl, rfl, rfl, h2, r2⟩ := trodAll_cons r1
  obtain ⟨v3, vs3, d3, ds3, p3, q3, rfl, rfl, rfl, h3, r3⟩ := trodAll_cons r2
  obtain ⟨rfl, rfl, rfl⟩ := trodAll_nil r3
  obtain rfl : args = #[v0, v1, v2, v3] := by cases args; simp_all
  obtain ⟨rfl, rfl⟩ := trodVars_none hV
  rw [Try.params4] at hval
  obtain ⟨x0, hx0⟩ := rdb22.val ty22 (hval 0 22 v0 rfl rfl) h0
  obtain ⟨x1, hx1⟩ := rdb25.val ty25 (hval 1 25 v1 rfl rfl) h1
  obtain ⟨x2, hx2⟩ := rdb44.val ty44 (hval 2 44 v2 rfl rfl) h2
  obtain ⟨x3, hx3⟩ := rdb30.val ty30 (hval 3 30 v3 rfl rfl) h3
  have hlaw : F_l38_NormOut x0 x1 x2 x3 = some true := norm_out x0 x1 x2 x3
  refine (c_l38_NormOut x0 x1 x2 x3 true hlaw W none_ [v0, v1, v2, v3] (fun _ h => h.elim) ⟨hx0, hx1, hx2, hx3, trivial⟩).mono ?_
  rintro e W' ⟨v, rfl, hf, hB⟩
  have hv : v = .bool true := rd_bool hB
  subst hv
  exact ⟨_, rfl, law_post (tb := 4) normOut_laid (by kernel_rfl) rfl (by kernel_rfl) (by kernel_rfl) hW' rfl hf⟩
set_option maxRecDepth 100000 in
theorem normOut_lifted (os : Os) (started : os.Started) (H : Type) (enc : TypeId × Value → H) :
    ReturnsInHanded {} Try.checked os 4 .any (Rows.normOutSpec.pre6 enc Try.prog Try.f4 Rows.normOutRow.domain false) (Rows.normOutSpec.post enc Try.prog Try.f4 false true false false) := by
  refine returnsInHanded_of_change (C := Try.checked) normOut_own started (by kernel_rfl) Try.func4
    (ChangeSpec.witness6 (enc := enc) (C := Try.checked) false ⟨#[], #[Value.slice none 0 0, .agg #[(Value.int IntKind.i64 0), (Value.slice none 0 0)], Value.slice none 0 0, .agg #[(Value.int IntKind.u64 0), (Value.int IntKind.u64 0), (Value.int IntKind.u64 0), (Value.int IntKind.u64 0), (Value.int IntKind.u64 0), (Value.int IntKind.u64 0), (Value.int IntKind.u64 0), (Value.int IntKind.u64 0), (Value.int IntKind.u64 0), (Value.int IntKind.u64 0), (Value.int IntKind.u64 0), (Value.int IntKind.u64 0), (Value.int IntKind.u64 0), (Value.int IntKind.u64 0), (Value.int IntKind.u64 0), (Value.int IntKind.u64 0), (Value.int IntKind.u64 0), (Value.int IntKind.u64 0), (Value.int IntKind.u64 0), (Value.int IntKind.u64 0), (Value.int IntKind.u64 0), (Value.int IntKind.u64 0), (Value.int IntKind.u64 0), (Value.int IntKind.u64 0), (Value.int IntKind.u64 0), (Value.int IntKind.u64 0), (Value.int IntKind.u64 0), (Value.int IntKind.u64 0), (Value.int IntKind.u64 0), (Value.int IntKind.u64 0), (Value.int IntKind.u64 0), (Value.int IntKind.u64 0), (Value.int IntKind.u64 0), (Value.int IntKind.u64 0), (Value.int IntKind.u64 0), (Value.int IntKind.u64 0), (Value.int IntKind.u64 0), (Value.int IntKind.u64 0), (Value.int IntKind.u64 0), (Value.int IntKind.u64 0), (Value.int IntKind.u64 0), (Value.int IntKind.u64 0), (Value.int IntKind.u64 0), (Value.int IntKind.u64 0), (Value.int IntKind.u64 0), (Value.int IntKind.u64 0), (Value.int IntKind.u64 0), (Value.int IntKind.u64 0)]], []⟩ 64 (by kernel_rfl) (by kernel_rfl) (by kernel_rfl) (by kernel_rfl)) ?_
  intro W base args ds gs before hval hW _ _
  exact normOut_contract H enc W base args ds gs before hval hW
theorem normOut_holds : Rows.NormOutSaid :=
  OpenClaim.holds_of_wide 4 Try.f4 rfl rfl rfl rfl rfl rfl rfl ⟨rfl, rfl, rfl, rfl, rfl⟩ rfl rfl rfl rfl rfl (by kernel_rfl) Try.func4 (by kernel_rfl)
    (of_decide_eq_true (by kernel_rfl)) (by unfold Func.isWrapper; first | (rw [if_pos (by decide +kernel)]; kernel_rfl) | (rw [if_neg (by decide +kernel)]; exact ⟨rfl, rfl⟩))
    (fun os started H enc _ => normOut_lifted os started H enc)
end Go.Proofs.Ytknpgojdkobgjaa.W
