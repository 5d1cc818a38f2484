/- Whatever the arguments: WalkMost returns true and leaves its arguments as they were. No condition. -/
import Derived.Test.YtokmmcflinnfiabGreatRows
import Derived.Test.YtokmmcflinnfiabGreatP0
set_option linter.unusedVariables false
set_option linter.unusedSimpArgs false
namespace Go.Proofs.YtokmmcflinnfiabGreat.W
open Go Go.Wb
open Go.ChangeShapes Go.WideShapes Go.ChangeAt Go.RowKit
theorem rdb32 : Rdb Tryz.prog 32 ku64 := rdb_u64 (by kernel_rfl)
theorem rdb3 : Rdb Tryz.prog 3 (kint .i64) := rdb_int (by kernel_rfl)
theorem rdb4 : Rdb Tryz.prog 4 kbool := rdb_bool (by kernel_rfl)
theorem rdb34 : Rdb Tryz.prog 34 kWide := rdb_st (fun y => ⟨y.1, y.2⟩) (by kernel_rfl) (by kernel_rfl) (fun _ => rfl) (frd_cons rdb32 (by kernel_rfl) (frd_one rdb32 (by kernel_rfl)))
theorem rdb45 : Rdb Tryz.prog 45 kOxm := rdb_st (fun y => ⟨y.1, y.2.1, y.2.2.1, y.2.2.2⟩) (by kernel_rfl) (by kernel_rfl) (fun _ => rfl) (frd_cons rdb3 (by kernel_rfl) (frd_cons rdb4 (by kernel_rfl) (frd_cons rdb34 (by kernel_rfl) (frd_one rdb34 (by kernel_rfl)))))
theorem rdb46 : Rdb Tryz.prog 46 (ksl kOxm) := rdb_sl (by kernel_rfl) (by kernel_rfl) rfl rdb45
theorem rdb48 : Rdb Tryz.prog 48 kAction := rdb_st (fun y => ⟨y.1, y.2.1, y.2.2.1, y.2.2.2.1, y.2.2.2.2.1, y.2.2.2.2.2⟩) (by kernel_rfl) (by kernel_rfl) (fun _ => rfl) (frd_cons rdb3 (by kernel_rfl) (frd_cons rdb3 (by kernel_rfl) (frd_cons rdb3 (by kernel_rfl) (frd_cons rdb3 (by kernel_rfl) (frd_cons rdb3 (by kernel_rfl) (frd_one rdb45 (by kernel_rfl)))))))
theorem rdb49 : Rdb Tryz.prog 49 (ksl kAction) := rdb_sl (by kernel_rfl) (by kernel_rfl) rfl rdb48
theorem rdb51 : Rdb Tryz.prog 51 kInst := rdb_st (fun y => ⟨y.1, y.2.1, y.2.2.1, y.2.2.2.1, y.2.2.2.2⟩) (by kernel_rfl) (by kernel_rfl) (fun _ => rfl) (frd_cons rdb3 (by kernel_rfl) (frd_cons rdb3 (by kernel_rfl) (frd_cons rdb34 (by kernel_rfl) (frd_cons rdb34 (by kernel_rfl) (frd_one rdb49 (by kernel_rfl))))))
theorem rdb52 : Rdb Tryz.prog 52 (ksl kInst) := rdb_sl (by kernel_rfl) (by kernel_rfl) rfl rdb51
theorem rdb54 : Rdb Tryz.prog 54 kFlow := rdb_st (fun y => ⟨y.1, y.2.1, y.2.2.1, y.2.2.2.1, y.2.2.2.2.1, y.2.2.2.2.2.1, y.2.2.2.2.2.2⟩) (by kernel_rfl) (by kernel_rfl) (fun _ => rfl) (frd_cons rdb32 (by kernel_rfl) (frd_cons rdb3 (by kernel_rfl) (frd_cons rdb3 (by kernel_rfl) (frd_cons rdb3 (by kernel_rfl) (frd_cons rdb3 (by kernel_rfl) (frd_cons rdb46 (by kernel_rfl) (frd_one rdb52 (by kernel_rfl))))))))
theorem rdb22 : Rdb Tryz.prog 22 (ksl kFlow) := rdb_sl (by kernel_rfl) (by kernel_rfl) rfl rdb54
theorem rdb23 : Rdb Tryz.prog 23 (karr 4 (ksl kFlow)) := rdb_arr (by kernel_rfl) (by kernel_rfl) (by kernel_rfl) rdb22
theorem rdb93 : Rdb Tryz.prog 93 kBucket := rdb_st (fun y => ⟨y.1, y.2.1, y.2.2.1, y.2.2.2⟩) (by kernel_rfl) (by kernel_rfl) (fun _ => rfl) (frd_cons rdb3 (by kernel_rfl) (frd_cons rdb3 (by kernel_rfl) (frd_cons rdb3 (by kernel_rfl) (frd_one rdb49 (by kernel_rfl)))))
theorem rdb75 : Rdb Tryz.prog 75 (ksl kBucket) := rdb_sl (by kernel_rfl) (by kernel_rfl) rfl rdb93
theorem rdb77 : Rdb Tryz.prog 77 kGroup := rdb_st (fun y => ⟨y.1, y.2.1, y.2.2⟩) (by kernel_rfl) (by kernel_rfl) (fun _ => rfl) (frd_cons rdb3 (by kernel_rfl) (frd_cons rdb3 (by kernel_rfl) (frd_one rdb75 (by kernel_rfl))))
theorem rdb24 : Rdb Tryz.prog 24 (ksl kGroup) := rdb_sl (by kernel_rfl) (by kernel_rfl) rfl rdb77
theorem rdb26 : Rdb Tryz.prog 26 kSwitch := rdb_st (fun y => ⟨y.1, y.2⟩) (by kernel_rfl) (by kernel_rfl) (fun _ => rfl) (frd_cons rdb23 (by kernel_rfl) (frd_one rdb24 (by kernel_rfl)))
theorem walkMost_own : ownKnob Tryz.prog.godebug = none := by kernel_rfl
theorem walkMost_laid : laidOutB Tryz.prog = true := by kernel_rfl
set_option maxRecDepth 100000 in
theorem walkMost_contract (H : Type) (enc : TypeId × Value → H) (W : World) (base : Nat) (args : Array Value) (ds gs : List (DataW H)) (before : List MemPlace)
    (hval : ∀ (j : Nat) t v, Tryz.f3.params[j]? = some t → args[j]? = some v → Value.okWide Tryz.prog W .any base t v)
    (hW : DataW.Whole enc Tryz.prog Tryz.f3.params.toList Rows.walkMostSpec.vars false W args.toList ds gs before) :
    Calls Tryz.prog 3 args W fun e W' => ∃ v, e = .returned v ∧ Rows.walkMostSpec.post enc Tryz.prog Tryz.f3 false true false false W args v W' := by
  have hW' := hW
  obtain ⟨p, q, hA0, hV, hps, hfz, hnd⟩ := hW
  have hA : DataW.TrodAll enc Tryz.prog W 0 (fun _ => true) true [26] args.toList ds p := hA0
  obtain ⟨v0, vs0, d0, ds0, p0, q0, hargs, rfl, rfl, h0, r0⟩ := trodAll_cons hA
  obtain ⟨rfl, rfl, rfl⟩ := trodAll_nil r0
  obtain rfl : args = #[v0] := by cases args; simp_all
  obtain ⟨rfl, rfl⟩ := trodVars_none hV
  rw [Tryz.params3] at hval
  obtain ⟨x0, hx0⟩ := rdb26.val ty26 (hval 0 26 v0 rfl rfl) h0
  have hlaw : F_l33_WalkMost x0 = some true := walk_most x0
  refine (c_l33_WalkMost x0 true hlaw W none_ [v0] (fun _ h => h.elim) ⟨hx0, trivial⟩).mono ?_
  rintro e W' ⟨v, rfl, hf, hB⟩
  have hv : v = .bool true := rd_bool hB
  subst hv
  exact ⟨_, rfl, law_post (tb := 4) walkMost_laid (by kernel_rfl) rfl (by kernel_rfl) (by kernel_rfl) hW' rfl hf⟩
set_option maxRecDepth 100000 in
theorem walkMost_lifted (os : Os) (started : os.Started) (H : Type) (enc : TypeId × Value → H) :
    ReturnsInHanded {} Tryz.checked os 3 .any (Rows.walkMostSpec.pre6 enc Tryz.prog Tryz.f3 Rows.walkMostRow.domain false) (Rows.walkMostSpec.post enc Tryz.prog Tryz.f3 false true false false) := by
  refine returnsInHanded_of_change (C := Tryz.checked) walkMost_own started (by kernel_rfl) Tryz.func3
    (ChangeSpec.witness6 (enc := enc) (C := Tryz.checked) false ⟨#[], #[.agg #[(Value.slice none 0 0), (Value.slice none 0 0), (Value.slice none 0 0), (Value.slice none 0 0), (Value.slice none 0 0)]], []⟩ 64 (by kernel_rfl) (by kernel_rfl) (by kernel_rfl) (by kernel_rfl)) ?_
  intro W base args ds gs before hval hW _ _
  exact walkMost_contract H enc W base args ds gs before hval hW
theorem walkMost_holds : Rows.WalkMostSaid :=
  OpenClaim.holds_of_wide 3 Tryz.f3 rfl rfl rfl rfl rfl rfl rfl ⟨rfl, rfl, rfl, rfl, rfl⟩ rfl rfl rfl rfl rfl (by kernel_rfl) Tryz.func3 (by kernel_rfl)
    (of_decide_eq_true (by kernel_rfl)) (by unfold Func.isWrapper; first | (rw [if_pos (by decide +kernel)]; kernel_rfl) | (rw [if_neg (by decide +kernel)]; exact ⟨rfl, rfl⟩))
    (fun os started H enc _ => walkMost_lifted os started H enc)
end Go.Proofs.YtokmmcflinnfiabGreat.W
