/- Whatever the arguments: AtomExec returns true and leaves its arguments as they were. No condition. -/
import Derived.Test.YtokmmcflinnfiabRows
import Derived.Test.YtokmmcflinnfiabLawBH
import Derived.Test.YtokmmcflinnfiabWbY
set_option linter.unusedVariables false
set_option linter.unusedSimpArgs false
namespace Go.Proofs.Ytokmmcflinnfiab.W
open Go Go.Wb
open Go.ChangeShapes Go.WideShapes Go.ChangeAt Go.RowKit
theorem rdb3 : Rdb Try.prog 3 (kint .i64) := rdb_int (by kernel_rfl)
theorem rdb4 : Rdb Try.prog 4 kbool := rdb_bool (by kernel_rfl)
theorem rdb23 : Rdb Try.prog 23 ku64 := rdb_u64 (by kernel_rfl)
theorem rdb25 : Rdb Try.prog 25 kWide := rdb_st (fun y => ⟨y.1, y.2⟩) (by kernel_rfl) (by kernel_rfl) (fun _ => rfl) (frd_cons rdb23 (by kernel_rfl) (frd_one rdb23 (by kernel_rfl)))
theorem rdb54 : Rdb Try.prog 54 kOxm := rdb_st (fun y => ⟨y.1, y.2.1, y.2.2.1, y.2.2.2⟩) (by kernel_rfl) (by kernel_rfl) (fun _ => rfl) (frd_cons rdb3 (by kernel_rfl) (frd_cons rdb4 (by kernel_rfl) (frd_cons rdb25 (by kernel_rfl) (frd_one rdb25 (by kernel_rfl)))))
theorem rdb56 : Rdb Try.prog 56 kAction := rdb_st (fun y => ⟨y.1, y.2.1, y.2.2.1, y.2.2.2.1, y.2.2.2.2.1, y.2.2.2.2.2⟩) (by kernel_rfl) (by kernel_rfl) (fun _ => rfl) (frd_cons rdb3 (by kernel_rfl) (frd_cons rdb3 (by kernel_rfl) (frd_cons rdb3 (by kernel_rfl) (frd_cons rdb3 (by kernel_rfl) (frd_cons rdb3 (by kernel_rfl) (frd_one rdb54 (by kernel_rfl)))))))
theorem rdb22 : Rdb Try.prog 22 (ksl kAction) := rdb_sl (by kernel_rfl) (by kernel_rfl) rfl rdb56
theorem rdb93 : Rdb Try.prog 93 kBucket := rdb_st (fun y => ⟨y.1, y.2.1, y.2.2.1, y.2.2.2⟩) (by kernel_rfl) (by kernel_rfl) (fun _ => rfl) (frd_cons rdb3 (by kernel_rfl) (frd_cons rdb3 (by kernel_rfl) (frd_cons rdb3 (by kernel_rfl) (frd_one rdb22 (by kernel_rfl)))))
theorem rdb71 : Rdb Try.prog 71 (ksl kBucket) := rdb_sl (by kernel_rfl) (by kernel_rfl) rfl rdb93
theorem rdb73 : Rdb Try.prog 73 kGroup := rdb_st (fun y => ⟨y.1, y.2.1, y.2.2⟩) (by kernel_rfl) (by kernel_rfl) (fun _ => rfl) (frd_cons rdb3 (by kernel_rfl) (frd_cons rdb3 (by kernel_rfl) (frd_one rdb71 (by kernel_rfl))))
theorem rdb38 : Rdb Try.prog 38 (ksl kGroup) := rdb_sl (by kernel_rfl) (by kernel_rfl) rfl rdb73
theorem rdb39 : Rdb Try.prog 39 (ksl (kint .i64)) := rdb_sl (by kernel_rfl) (by kernel_rfl) rfl rdb3
theorem rdb41 : Rdb Try.prog 41 kEnv := rdb_st (fun y => ⟨y.1, y.2⟩) (by kernel_rfl) (by kernel_rfl) (fun _ => rfl) (frd_cons rdb3 (by kernel_rfl) (frd_one rdb39 (by kernel_rfl)))
theorem rdb27 : Rdb Try.prog 27 kTern := rdb_st (fun y => ⟨y.1, y.2⟩) (by kernel_rfl) (by kernel_rfl) (fun _ => rfl) (frd_cons rdb25 (by kernel_rfl) (frd_one rdb25 (by kernel_rfl)))
theorem rdb29 : Rdb Try.prog 29 (karr 24 kTern) := rdb_arr (by kernel_rfl) (by kernel_rfl) (by kernel_rfl) rdb27
theorem rdb43 : Rdb Try.prog 43 (karr 24 kWide) := rdb_arr (by kernel_rfl) (by kernel_rfl) (by kernel_rfl) rdb25
theorem atomExec_own : ownKnob Try.prog.godebug = none := by kernel_rfl
theorem atomExec_laid : laidOutB Try.prog = true := by kernel_rfl
set_option maxRecDepth 100000 in
theorem atomExec_contract (H : Type) (enc : TypeId × Value → H) (W : World) (base : Nat) (args : Array Value) (ds gs : List (DataW H)) (before : List MemPlace)
    (hval : ∀ (j : Nat) t v, Try.f4.params[j]? = some t → args[j]? = some v → Value.okWide Try.prog W .any base t v)
    (hW : DataW.Whole enc Try.prog Try.f4.params.toList Rows.atomExecSpec.vars false W args.toList ds gs before) :
    Calls Try.prog 4 args W fun e W' => ∃ v, e = .returned v ∧ Rows.atomExecSpec.post enc Try.prog Try.f4 false true false false W args v W' := by
  have hW' := hW
  obtain ⟨p, q, hA0, hV, hps, hfz, hnd⟩ := hW
  have hA : DataW.TrodAll enc Try.prog W 0 (fun _ => true) true [38, 41, 22, 29, 43] args.toList ds p := hA0
  obtain ⟨v0, vs0, d0, ds0, p0, q0, hargs, rfl, rfl, h0, r0⟩ := trodAll_cons hA
  obtain ⟨v1, vs1, d1, ds1, p1, q1, rfl, rfl, rfl, h1, r1⟩ := trodAll_cons r0
  obtain ⟨v2, vs2, d2, ds2, p2, q2, rfl, rfl, rfl, h2, r2⟩ := trodAll_cons r1
  obtain ⟨v3, vs3, d3, ds3, p3, q3, rfl, rfl, rfl, h3, r3⟩ := trodAll_cons r2
  obtain ⟨v4, vs4, d4, ds4, p4, q4, rfl, rfl, rfl, h4, r4⟩ := trodAll_cons r3
  obtain ⟨rfl, rfl, rfl⟩ := trodAll_nil r4
  obtain rfl : args = #[v0, v1, v2, v3, v4] := by cases args; simp_all
  obtain ⟨rfl, rfl⟩ := trodVars_none hV
  rw [Try.params4] at hval
  obtain ⟨x0, hx0⟩ := rdb38.val ty38 (hval 0 38 v0 rfl rfl) h0
  obtain ⟨x1, hx1⟩ := rdb41.val ty41 (hval 1 41 v1 rfl rfl) h1
  obtain ⟨x2, hx2⟩ := rdb22.val ty22 (hval 2 22 v2 rfl rfl) h2
  obtain ⟨x3, hx3⟩ := rdb29.val ty29 (hval 3 29 v3 rfl rfl) h3
  obtain ⟨x4, hx4⟩ := rdb43.val ty43 (hval 4 43 v4 rfl rfl) h4
  have hlaw : F4 x0 x1 x2 x3 x4 = some true := atom_exec x0 x1 x2 x3 x4
  refine (c4 x0 x1 x2 x3 x4 true hlaw W none_ [v0, v1, v2, v3, v4] (fun _ h => h.elim) ⟨hx0, hx1, hx2, hx3, hx4, trivial⟩).mono ?_
  rintro e W' ⟨v, rfl, hf, hB⟩
  have hv : v = .bool true := rd_bool hB
  subst hv
  exact ⟨_, rfl, law_post (tb := 4) atomExec_laid (by kernel_rfl) rfl (by kernel_rfl) (by kernel_rfl) hW' rfl hf⟩
set_option maxRecDepth 100000 in
theorem atomExec_lifted (os : Os) (started : os.Started) (H : Type) (enc : TypeId × Value → H) :
    ReturnsInHanded {} Try.checked os 4 .any (Rows.atomExecSpec.pre6 enc Try.prog Try.f4 Rows.atomExecRow.domain false) (Rows.atomExecSpec.post enc Try.prog Try.f4 false true false false) := by
  refine returnsInHanded_of_change (C := Try.checked) atomExec_own started (by kernel_rfl) Try.func4
    (ChangeSpec.witness6 (enc := enc) (C := Try.checked) false ⟨#[], #[Value.slice none 0 0, .agg #[(Value.int IntKind.i64 0), (Value.slice none 0 0)], Value.slice none 0 0, .agg #[(Value.int IntKind.u64 0), (Value.int IntKind.u64 0), (Value.int IntKind.u64 0), (Value.int IntKind.u64 0), (Value.int IntKind.u64 0), (Value.int IntKind.u64 0), (Value.int IntKind.u64 0), (Value.int IntKind.u64 0), (Value.int IntKind.u64 0), (Value.int IntKind.u64 0), (Value.int IntKind.u64 0), (Value.int IntKind.u64 0), (Value.int IntKind.u64 0), (Value.int IntKind.u64 0), (Value.int IntKind.u64 0), (Value.int IntKind.u64 0), (Value.int IntKind.u64 0), (Value.int IntKind.u64 0), (Value.int IntKind.u64 0), (Value.int IntKind.u64 0), (Value.int IntKind.u64 0), (Value.int IntKind.u64 0), (Value.int IntKind.u64 0), (Value.int IntKind.u64 0), (Value.int IntKind.u64 0), (Value.int IntKind.u64 0), (Value.int IntKind.u64 0), (Value.int IntKind.u64 0), (Value.int IntKind.u64 0), (Value.int IntKind.u64 0), (Value.int IntKind.u64 0), (Value.int IntKind.u64 0), (Value.int IntKind.u64 0), (Value.int IntKind.u64 0), (Value.int IntKind.u64 0), (Value.int IntKind.u64 0), (Value.int IntKind.u64 0), (Value.int IntKind.u64 0), (Value.int IntKind.u64 0), (Value.int IntKind.u64 0), (Value.int IntKind.u64 0), (Value.int IntKind.u64 0), (Value.int IntKind.u64 0), (Value.int IntKind.u64 0), (Value.int IntKind.u64 0), (Value.int IntKind.u64 0), (Value.int IntKind.u64 0), (Value.int IntKind.u64 0), (Value.int IntKind.u64 0), (Value.int IntKind.u64 0), (Value.int IntKind.u64 0), (Value.int IntKind.u64 0), (Value.int IntKind.u64 0), (Value.int IntKind.u64 0), (Value.int IntKind.u64 0), (Value.int IntKind.u64 0), (Value.int IntKind.u64 0), (Value.int IntKind.u64 0), (Value.int IntKind.u64 0), (Value.int IntKind.u64 0), (Value.int IntKind.u64 0), (Value.int IntKind.u64 0), (Value.int IntKind.u64 0), (Value.int IntKind.u64 0), (Value.int IntKind.u64 0), (Value.int IntKind.u64 0), (Value.int IntKind.u64 0), (Value.int IntKind.u64 0), (Value.int IntKind.u64 0), (Value.int IntKind.u64 0), (Value.int IntKind.u64 0), (Value.int IntKind.u64 0), (Value.int IntKind.u64 0), (Value.int IntKind.u64 0), (Value.int IntKind.u64 0), (Value.int IntKind.u64 0), (Value.int IntKind.u64 0), (Value.int IntKind.u64 0), (Value.int IntKind.u64 0), (Value.int IntKind.u64 0), (Value.int IntKind.u64 0), (Value.int IntKind.u64 0), (Value.int IntKind.u64 0), (Value.int IntKind.u64 0), (Value.int IntKind.u64 0), (Value.int IntKind.u64 0), (Value.int IntKind.u64 0), (Value.int IntKind.u64 0), (Value.int IntKind.u64 0), (Value.int IntKind.u64 0), (Value.int IntKind.u64 0), (Value.int IntKind.u64 0), (Value.int IntKind.u64 0), (Value.int IntKind.u64 0), (Value.int IntKind.u64 0), (Value.int IntKind.u64 0)], .agg #[(Value.int IntKind.u64 0), (Value.int IntKind.u64 0), (Value.int IntKind.u64 0), (Value.int IntKind.u64 0), (Value.int IntKind.u64 0), (Value.int IntKind.u64 0), (Value.int IntKind.u64 0), (Value.int IntKind.u64 0), (Value.int IntKind.u64 0), (Value.int IntKind.u64 0), (Value.int IntKind.u64 0), (Value.int IntKind.u64 0), (Value.int IntKind.u64 0), (Value.int IntKind.u64 0), (Value.int IntKind.u64 0), (Value.int IntKind.u64 0), (Value.int IntKind.u64 0), (Value.int IntKind.u64 0), (Value.int IntKind.u64 0), (Value.int IntKind.u64 0), (Value.int IntKind.u64 0), (Value.int IntKind.u64 0), (Value.int IntKind.u64 0), (Value.int IntKind.u64 0), (Value.int IntKind.u64 0), (Value.int IntKind.u64 0), (Value.int IntKind.u64 0), (Value.int IntKind.u64 0), (Value.int IntKind.u64 0), (Value.int IntKind.u64 0), (Value.int IntKind.u64 0), (Value.int IntKind.u64 0), (Value.int IntKind.u64 0), (Value.int IntKind.u64 0), (Value.int IntKind.u64 0), (Value.int IntKind.u64 0), (Value.int IntKind.u64 0), (Value.int IntKind.u64 0), (Value.int IntKind.u64 0), (Value.int IntKind.u64 0), (Value.int IntKind.u64 0), (Value.int IntKind.u64 0), (Value.int IntKind.u64 0), (Value.int IntKind.u64 0), (Value.int IntKind.u64 0), (Value.int IntKind.u64 0), (Value.int IntKind.u64 0), (Value.int IntKind.u64 0)]], []⟩ 64 (by kernel_rfl) (by kernel_rfl) (by kernel_rfl) (by kernel_rfl)) ?_
  intro W base args ds gs before hval hW _ _
  exact atomExec_contract H enc W base args ds gs before hval hW
theorem atomExec_holds : Rows.AtomExecSaid :=
  OpenClaim.holds_of_wide 4 Try.f4 rfl rfl rfl rfl rfl rfl rfl ⟨rfl, rfl, rfl, rfl, rfl⟩ rfl rfl rfl rfl rfl (by kernel_rfl) Try.func4 (by kernel_rfl)
    (of_decide_eq_true (by kernel_rfl)) (by unfold Func.isWrapper; first | (rw [if_pos (by decide +kernel)]; kernel_rfl) | (rw [if_neg (by decide +kernel)]; exact ⟨rfl, rfl⟩))
    (fun os started H enc _ => atomExec_lifted os started H enc)
end Go.Proofs.Ytokmmcflinnfiab.W
