/- Whatever groups, world and two lists of atoms: NormAgain returns true and leaves its arguments as they were. No condition. -/
import Derived.Test.YtokmmcflinnfiaaRows
import Derived.Test.YtokmmcflinnfiaaLawN
import Derived.Test.YtokmmcflinnfiaaWbY
set_option linter.unusedVariables false
set_option linter.unusedSimpArgs false
namespace Go.Proofs.Ytokmmcflinnfiaa.W
open Go Go.Wb
open Go.ChangeShapes Go.WideShapes Go.ChangeAt Go.RowKit
theorem rdb3 : Rdb Try.prog 3 (kint .i64) := rdb_int (by kernel_rfl)
theorem rdb4 : Rdb Try.prog 4 kbool := rdb_bool (by kernel_rfl)
theorem rdb50 : Rdb Try.prog 50 ku64 := rdb_u64 (by kernel_rfl)
theorem rdb52 : Rdb Try.prog 52 kWide := rdb_st (fun y => ⟨y.1, y.2⟩) (by kernel_rfl) (by kernel_rfl) (fun _ => rfl) (frd_cons rdb50 (by kernel_rfl) (frd_one rdb50 (by kernel_rfl)))
theorem rdb80 : Rdb Try.prog 80 kOxm := rdb_st (fun y => ⟨y.1, y.2.1, y.2.2.1, y.2.2.2⟩) (by kernel_rfl) (by kernel_rfl) (fun _ => rfl) (frd_cons rdb3 (by kernel_rfl) (frd_cons rdb4 (by kernel_rfl) (frd_cons rdb52 (by kernel_rfl) (frd_one rdb52 (by kernel_rfl)))))
theorem rdb82 : Rdb Try.prog 82 kAction := rdb_st (fun y => ⟨y.1, y.2.1, y.2.2.1, y.2.2.2.1, y.2.2.2.2.1, y.2.2.2.2.2⟩) (by kernel_rfl) (by kernel_rfl) (fun _ => rfl) (frd_cons rdb3 (by kernel_rfl) (frd_cons rdb3 (by kernel_rfl) (frd_cons rdb3 (by kernel_rfl) (frd_cons rdb3 (by kernel_rfl) (frd_cons rdb3 (by kernel_rfl) (frd_one rdb80 (by kernel_rfl)))))))
theorem rdb73 : Rdb Try.prog 73 (ksl kAction) := rdb_sl (by kernel_rfl) (by kernel_rfl) rfl rdb82
theorem rdb104 : Rdb Try.prog 104 kBucket := rdb_st (fun y => ⟨y.1, y.2.1, y.2.2.1, y.2.2.2⟩) (by kernel_rfl) (by kernel_rfl) (fun _ => rfl) (frd_cons rdb3 (by kernel_rfl) (frd_cons rdb3 (by kernel_rfl) (frd_cons rdb3 (by kernel_rfl) (frd_one rdb73 (by kernel_rfl)))))
theorem rdb38 : Rdb Try.prog 38 (ksl kBucket) := rdb_sl (by kernel_rfl) (by kernel_rfl) rfl rdb104
theorem rdb40 : Rdb Try.prog 40 kGroup := rdb_st (fun y => ⟨y.1, y.2.1, y.2.2⟩) (by kernel_rfl) (by kernel_rfl) (fun _ => rfl) (frd_cons rdb3 (by kernel_rfl) (frd_cons rdb3 (by kernel_rfl) (frd_one rdb38 (by kernel_rfl))))
theorem rdb22 : Rdb Try.prog 22 (ksl kGroup) := rdb_sl (by kernel_rfl) (by kernel_rfl) rfl rdb40
theorem rdb29 : Rdb Try.prog 29 (ksl (kint .i64)) := rdb_sl (by kernel_rfl) (by kernel_rfl) rfl rdb3
theorem rdb31 : Rdb Try.prog 31 kEnv := rdb_st (fun y => ⟨y.1, y.2⟩) (by kernel_rfl) (by kernel_rfl) (fun _ => rfl) (frd_cons rdb3 (by kernel_rfl) (frd_one rdb29 (by kernel_rfl)))
theorem rdb54 : Rdb Try.prog 54 kTern := rdb_st (fun y => ⟨y.1, y.2⟩) (by kernel_rfl) (by kernel_rfl) (fun _ => rfl) (frd_cons rdb52 (by kernel_rfl) (frd_one rdb52 (by kernel_rfl)))
theorem rdb95 : Rdb Try.prog 95 (karr 24 kTern) := rdb_arr (by kernel_rfl) (by kernel_rfl) (by kernel_rfl) rdb54
theorem rdb97 : Rdb Try.prog 97 kAtom := rdb_st (fun y => ⟨y.1, y.2.1, y.2.2.1, y.2.2.2⟩) (by kernel_rfl) (by kernel_rfl) (fun _ => rfl) (frd_cons rdb95 (by kernel_rfl) (frd_cons rdb4 (by kernel_rfl) (frd_cons rdb3 (by kernel_rfl) (frd_one rdb3 (by kernel_rfl)))))
theorem rdb57 : Rdb Try.prog 57 (ksl kAtom) := rdb_sl (by kernel_rfl) (by kernel_rfl) rfl rdb97
theorem rty57 : Ty Try.prog 57 (ksl kAtom) := ⟨by kernel_rfl, by kernel_rfl⟩
theorem normAgain_own : ownKnob Try.prog.godebug = none := by kernel_rfl
theorem normAgain_laid : laidOutB Try.prog = true := by kernel_rfl
set_option maxRecDepth 100000 in
theorem normAgain_contract (H : Type) (enc : TypeId × Value → H) (W : World) (base : Nat) (args : Array Value) (ds gs : List (DataW H)) (before : List MemPlace)
    (hval : ∀ (j : Nat) t v, Try.f10.params[j]? = some t → args[j]? = some v → Value.okWide Try.prog W .any base t v)
    (hW : DataW.Whole enc Try.prog Try.f10.params.toList Rows.normAgainSpec.vars false W args.toList ds gs before) :
    Calls Try.prog 10 args W fun e W' => ∃ v, e = .returned v ∧ Rows.normAgainSpec.post enc Try.prog Try.f10 false true false false W args v W' := by
  have hW' := hW
  obtain ⟨p, q, hA0, hV, hps, hfz, hnd⟩ := hW
  have hA : DataW.TrodAll enc Try.prog W 0 (fun _ => true) true [22, 31, 57, 57] args.toList ds p := hA0
  obtain ⟨v0, vs0, d0, ds0, p0, q0, hargs, rfl, rfl, h0, r0⟩ := trodAll_cons hA
  obtain ⟨v1, vs1, d1, ds1, p1, q1, rfl, rfl, rfl, h1, r1⟩ := trodAll_cons r0
  obtain ⟨v2, vs2, d2, ds2, p2, q2, rfl, rfl, rfl, h2, r2⟩ := trodAll_cons r1
  obtain ⟨v3, vs3, d3, ds3, p3, q3, rfl, rfl, rfl, h3, r3⟩ := trodAll_cons r2
  obtain ⟨rfl, rfl, rfl⟩ := trodAll_nil r3
  obtain rfl : args = #[v0, v1, v2, v3] := by cases args; simp_all
  obtain ⟨rfl, rfl⟩ := trodVars_none hV
  rw [Try.params10] at hval
  obtain ⟨x0, hx0⟩ := rdb22.val ty22 (hval 0 22 v0 rfl rfl) h0
  obtain ⟨x1, hx1⟩ := rdb31.val ty31 (hval 1 31 v1 rfl rfl) h1
  obtain ⟨x2, hx2⟩ := rdb57.val rty57 (hval 2 57 v2 rfl rfl) h2
  obtain ⟨x3, hx3⟩ := rdb57.val rty57 (hval 3 57 v3 rfl rfl) h3
  have hlaw : F10 x0 x1 x2 x3 = some true := norm_again x0 x1 x2 x3
  refine (c10 x0 x1 x2 x3 true hlaw W none_ [v0, v1, v2, v3] (fun _ h => h.elim) ⟨hx0, hx1, hx2, hx3, trivial⟩).mono ?_
  rintro e W' ⟨v, rfl, hf, hB⟩
  have hv : v = .bool true := rd_bool hB
  subst hv
  exact ⟨_, rfl, law_post (tb := 4) normAgain_laid (by kernel_rfl) rfl (by kernel_rfl) (by kernel_rfl) hW' rfl hf⟩
set_option maxRecDepth 100000 in
theorem normAgain_lifted (os : Os) (started : os.Started) (H : Type) (enc : TypeId × Value → H) :
    ReturnsInHanded {} Try.checked os 10 .any (Rows.normAgainSpec.pre6 enc Try.prog Try.f10 Rows.normAgainRow.domain false) (Rows.normAgainSpec.post enc Try.prog Try.f10 false true false false) := by
  refine returnsInHanded_of_change (C := Try.checked) normAgain_own started (by kernel_rfl) Try.func10
    (ChangeSpec.witness6 (enc := enc) (C := Try.checked) false ⟨#[], #[Value.slice none 0 0, .agg #[(Value.int IntKind.i64 0), (Value.slice none 0 0)], Value.slice none 0 0, Value.slice none 0 0], []⟩ 64 (by kernel_rfl) (by kernel_rfl) (by kernel_rfl) (by kernel_rfl)) ?_
  intro W base args ds gs before hval hW _ _
  exact normAgain_contract H enc W base args ds gs before hval hW
theorem normAgain_holds : Rows.NormAgainSaid :=
  OpenClaim.holds_of_wide 10 Try.f10 rfl rfl rfl rfl rfl rfl rfl ⟨rfl, rfl, rfl, rfl, rfl⟩ rfl rfl rfl rfl rfl (by kernel_rfl) Try.func10 (by kernel_rfl)
    (of_decide_eq_true (by kernel_rfl)) (by unfold Func.isWrapper; first | (rw [if_pos (by decide +kernel)]; kernel_rfl) | (rw [if_neg (by decide +kernel)]; exact ⟨rfl, rfl⟩))
    (fun os started H enc _ => normAgain_lifted os started H enc)
end Go.Proofs.Ytokmmcflinnfiaa.W
