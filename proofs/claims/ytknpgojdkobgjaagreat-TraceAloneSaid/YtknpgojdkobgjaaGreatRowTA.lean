/- Whatever the arguments: TraceAlone returns true and leaves its arguments as they were. No condition. -/
import Derived.Test.YtknpgojdkobgjaaGreatRowTAF
import Derived.Test.YtknpgojdkobgjaaGreatRows
import Derived.Test.YtknpgojdkobgjaaGreatP0
set_option linter.unusedVariables false
set_option linter.unusedSimpArgs false
namespace Go.Proofs.YtknpgojdkobgjaaGreat.W
open Go Go.Wb
open Go.ChangeShapes Go.WideShapes Go.ChangeAt Go.RowKit
theorem rdb40 : Rdb Tryz.prog 40 ku64 := rdb_u64 (by kernel_rfl)
theorem rdb3 : Rdb Tryz.prog 3 (kint .i64) := rdb_int (by kernel_rfl)
theorem rdb4 : Rdb Tryz.prog 4 kbool := rdb_bool (by kernel_rfl)
theorem rdb42 : Rdb Tryz.prog 42 kWide := rdb_st (fun y => ⟨y.1, y.2⟩) (by kernel_rfl) (by kernel_rfl) (fun _ => rfl) (frd_cons rdb40 (by kernel_rfl) (frd_one rdb40 (by kernel_rfl)))
theorem rdb119 : Rdb Tryz.prog 119 kOxm := rdb_st (fun y => ⟨y.1, y.2.1, y.2.2.1, y.2.2.2⟩) (by kernel_rfl) (by kernel_rfl) (fun _ => rfl) (frd_cons rdb3 (by kernel_rfl) (frd_cons rdb4 (by kernel_rfl) (frd_cons rdb42 (by kernel_rfl) (frd_one rdb42 (by kernel_rfl)))))
theorem rdb58 : Rdb Tryz.prog 58 (ksl kOxm) := rdb_sl (by kernel_rfl) (by kernel_rfl) rfl rdb119
theorem rdb121 : Rdb Tryz.prog 121 kAction := rdb_st (fun y => ⟨y.1, y.2.1, y.2.2.1, y.2.2.2.1, y.2.2.2.2.1, y.2.2.2.2.2⟩) (by kernel_rfl) (by kernel_rfl) (fun _ => rfl) (frd_cons rdb3 (by kernel_rfl) (frd_cons rdb3 (by kernel_rfl) (frd_cons rdb3 (by kernel_rfl) (frd_cons rdb3 (by kernel_rfl) (frd_cons rdb3 (by kernel_rfl) (frd_one rdb119 (by kernel_rfl)))))))
theorem rdb122 : Rdb Tryz.prog 122 (ksl kAction) := rdb_sl (by kernel_rfl) (by kernel_rfl) rfl rdb121
theorem rdb124 : Rdb Tryz.prog 124 kInst := rdb_st (fun y => ⟨y.1, y.2.1, y.2.2.1, y.2.2.2.1, y.2.2.2.2⟩) (by kernel_rfl) (by kernel_rfl) (fun _ => rfl) (frd_cons rdb3 (by kernel_rfl) (frd_cons rdb3 (by kernel_rfl) (frd_cons rdb42 (by kernel_rfl) (frd_cons rdb42 (by kernel_rfl) (frd_one rdb122 (by kernel_rfl))))))
theorem rdb59 : Rdb Tryz.prog 59 (ksl kInst) := rdb_sl (by kernel_rfl) (by kernel_rfl) rfl rdb124
theorem rdb61 : Rdb Tryz.prog 61 kFlow := rdb_st (fun y => ⟨y.1, y.2.1, y.2.2.1, y.2.2.2.1, y.2.2.2.2.1, y.2.2.2.2.2.1, y.2.2.2.2.2.2⟩) (by kernel_rfl) (by kernel_rfl) (fun _ => rfl) (frd_cons rdb40 (by kernel_rfl) (frd_cons rdb3 (by kernel_rfl) (frd_cons rdb3 (by kernel_rfl) (frd_cons rdb3 (by kernel_rfl) (frd_cons rdb3 (by kernel_rfl) (frd_cons rdb58 (by kernel_rfl) (frd_one rdb59 (by kernel_rfl))))))))
theorem rdb22 : Rdb Tryz.prog 22 (ksl kFlow) := rdb_sl (by kernel_rfl) (by kernel_rfl) rfl rdb61
theorem rdb23 : Rdb Tryz.prog 23 (karr 4 (ksl kFlow)) := rdb_arr (by kernel_rfl) (by kernel_rfl) (by kernel_rfl) rdb22
theorem rdb226 : Rdb Tryz.prog 226 kBucket := rdb_st (fun y => ⟨y.1, y.2.1, y.2.2.1, y.2.2.2⟩) (by kernel_rfl) (by kernel_rfl) (fun _ => rfl) (frd_cons rdb3 (by kernel_rfl) (frd_cons rdb3 (by kernel_rfl) (frd_cons rdb3 (by kernel_rfl) (frd_one rdb122 (by kernel_rfl)))))
theorem rdb162 : Rdb Tryz.prog 162 (ksl kBucket) := rdb_sl (by kernel_rfl) (by kernel_rfl) rfl rdb226
theorem rdb164 : Rdb Tryz.prog 164 kGroup := rdb_st (fun y => ⟨y.1, y.2.1, y.2.2⟩) (by kernel_rfl) (by kernel_rfl) (fun _ => rfl) (frd_cons rdb3 (by kernel_rfl) (frd_cons rdb3 (by kernel_rfl) (frd_one rdb162 (by kernel_rfl))))
theorem rdb24 : Rdb Tryz.prog 24 (ksl kGroup) := rdb_sl (by kernel_rfl) (by kernel_rfl) rfl rdb164
theorem rdb26 : Rdb Tryz.prog 26 kSwitch := rdb_st (fun y => ⟨y.1, y.2⟩) (by kernel_rfl) (by kernel_rfl) (fun _ => rfl) (frd_cons rdb23 (by kernel_rfl) (frd_one rdb24 (by kernel_rfl)))
theorem rdb37 : Rdb Tryz.prog 37 (ksl (kint .i64)) := rdb_sl (by kernel_rfl) (by kernel_rfl) rfl rdb3
theorem rdb39 : Rdb Tryz.prog 39 kEnv := rdb_st (fun y => ⟨y.1, y.2⟩) (by kernel_rfl) (by kernel_rfl) (fun _ => rfl) (frd_cons rdb3 (by kernel_rfl) (frd_one rdb37 (by kernel_rfl)))
theorem rdb44 : Rdb Tryz.prog 44 (karr 24 kWide) := rdb_arr (by kernel_rfl) (by kernel_rfl) (by kernel_rfl) rdb42
theorem traceAlone_own : ownKnob Tryz.prog.godebug = none := by kernel_rfl
theorem traceAlone_laid : laidOutB Tryz.prog = true := by kernel_rfl
set_option maxRecDepth 100000 in
theorem traceAlone_contract (H : Type) (enc : TypeId × Value → H) (W : World) (base : Nat) (args : Array Value) (ds gs : List (DataW H)) (before : List MemPlace)
    (hval : ∀ (j : Nat) t v, Tryz.f7.params[j]? = some t → args[j]? = some v → Value.okWide Tryz.prog W .any base t v)
    (hW : DataW.Whole enc Tryz.prog Tryz.f7.params.toList Rows.traceAloneSpec.vars false W args.toList ds gs before) :
    Calls Tryz.prog 7 args W fun e W' => ∃ v, e = .returned v ∧ Rows.traceAloneSpec.post enc Tryz.prog Tryz.f7 false true false false W args v W' := by
  have hW' := hW
  obtain ⟨p, q, hA0, hV, hps, hfz, hnd⟩ := hW
  have hA : DataW.TrodAll enc Tryz.prog W 0 (fun _ => true) true [26, 39, 44] args.toList ds p := hA0
  obtain ⟨v0, vs0, d0, ds0, p0, q0, hargs, rfl, rfl, h0, r0⟩ := trodAll_cons hA
  obtain ⟨v1, vs1, d1, ds1, p1, q1, rfl, rfl, rfl, h1, r1⟩ := trodAll_cons r0
  obtain ⟨v2, vs2, d2, ds2, p2, q2, rfl, rfl, rfl, h2, r2⟩ := trodAll_cons r1
  obtain ⟨rfl, rfl, rfl⟩ := trodAll_nil r2
  obtain rfl : args = #[v0, v1, v2] := by cases args; simp_all
  obtain ⟨rfl, rfl⟩ := trodVars_none hV
  rw [Tryz.params7] at hval
  obtain ⟨x0, hx0⟩ := rdb26.val ty26 (hval 0 26 v0 rfl rfl) h0
  obtain ⟨x1, hx1⟩ := rdb39.val ty39 (hval 1 39 v1 rfl rfl) h1
  obtain ⟨x2, hx2⟩ := rdb44.val ty44 (hval 2 44 v2 rfl rfl) h2
  have hlaw : F_l48_TraceAlone x0 x1 x2 = some true := F_l48_TraceAlone_eq x0 x1 x2
  refine (c_l48_TraceAlone x0 x1 x2 true hlaw W none_ [v0, v1, v2] (fun _ h => h.elim) ⟨hx0, hx1, hx2, trivial⟩).mono ?_
  rintro e W' ⟨v, rfl, hf, hB⟩
  have hv : v = .bool true := rd_bool hB
  subst hv
  exact ⟨_, rfl, law_post (tb := 4) traceAlone_laid (by kernel_rfl) rfl (by kernel_rfl) (by kernel_rfl) hW' rfl hf⟩
set_option maxRecDepth 100000 in
theorem traceAlone_lifted (os : Os) (started : os.Started) (H : Type) (enc : TypeId × Value → H) :
    ReturnsInHanded {} Tryz.checked os 7 .any (Rows.traceAloneSpec.pre6 enc Tryz.prog Tryz.f7 Rows.traceAloneRow.domain false) (Rows.traceAloneSpec.post enc Tryz.prog Tryz.f7 false true false false) := by
  refine returnsInHanded_of_change (C := Tryz.checked) traceAlone_own started (by kernel_rfl) Tryz.func7
    (ChangeSpec.witness6 (enc := enc) (C := Tryz.checked) false ⟨#[], #[.agg #[(Value.slice none 0 0), (Value.slice none 0 0), (Value.slice none 0 0), (Value.slice none 0 0), (Value.slice none 0 0)], .agg #[(Value.int IntKind.i64 0), (Value.slice none 0 0)], .agg #[(Value.int IntKind.u64 0), (Value.int IntKind.u64 0), (Value.int IntKind.u64 0), (Value.int IntKind.u64 0), (Value.int IntKind.u64 0), (Value.int IntKind.u64 0), (Value.int IntKind.u64 0), (Value.int IntKind.u64 0), (Value.int IntKind.u64 0), (Value.int IntKind.u64 0), (Value.int IntKind.u64 0), (Value.int IntKind.u64 0), (Value.int IntKind.u64 0), (Value.int IntKind.u64 0), (Value.int IntKind.u64 0), (Value.int IntKind.u64 0), (Value.int IntKind.u64 0), (Value.int IntKind.u64 0), (Value.int IntKind.u64 0), (Value.int IntKind.u64 0), (Value.int IntKind.u64 0), (Value.int IntKind.u64 0), (Value.int IntKind.u64 0), (Value.int IntKind.u64 0), (Value.int IntKind.u64 0), (Value.int IntKind.u64 0), (Value.int IntKind.u64 0), (Value.int IntKind.u64 0), (Value.int IntKind.u64 0), (Value.int IntKind.u64 0), (Value.int IntKind.u64 0), (Value.int IntKind.u64 0), (Value.int IntKind.u64 0), (Value.int IntKind.u64 0), (Value.int IntKind.u64 0), (Value.int IntKind.u64 0), (Value.int IntKind.u64 0), (Value.int IntKind.u64 0), (Value.int IntKind.u64 0), (Value.int IntKind.u64 0), (Value.int IntKind.u64 0), (Value.int IntKind.u64 0), (Value.int IntKind.u64 0), (Value.int IntKind.u64 0), (Value.int IntKind.u64 0), (Value.int IntKind.u64 0), (Value.int IntKind.u64 0), (Value.int IntKind.u64 0)]], []⟩ 64 (by kernel_rfl) (by kernel_rfl) (by kernel_rfl) (by kernel_rfl)) ?_
  intro W base args ds gs before hval hW _ _
  exact traceAlone_contract H enc W base args ds gs before hval hW
theorem traceAlone_holds : Rows.TraceAloneSaid :=
  OpenClaim.holds_of_wide 7 Tryz.f7 rfl rfl rfl rfl rfl rfl rfl ⟨rfl, rfl, rfl, rfl, rfl⟩ rfl rfl rfl rfl rfl (by kernel_rfl) Tryz.func7 traceAlone_closed
    (of_decide_eq_true (by kernel_rfl)) (by unfold Func.isWrapper; first | (rw [if_pos (by decide +kernel)]; kernel_rfl) | (rw [if_neg (by decide +kernel)]; exact ⟨rfl, rfl⟩))
    (fun os started H enc _ => traceAlone_lifted os started H enc)
end Go.Proofs.YtknpgojdkobgjaaGreat.W
