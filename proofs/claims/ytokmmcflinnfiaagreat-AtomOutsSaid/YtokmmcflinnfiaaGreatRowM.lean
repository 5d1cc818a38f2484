/- Whatever groups, world, atoms and header: AtomOuts returns true and leaves its arguments as they were. No condition. -/
import Derived.Test.YtokmmcflinnfiaaGreatRows
import Derived.Test.YtokmmcflinnfiaaGreatLawZX
import Derived.Test.YtokmmcflinnfiaaGreatWbY
set_option linter.unusedVariables false
set_option linter.unusedSimpArgs false
namespace Go.Proofs.YtokmmcflinnfiaaGreat.W
open Go Go.Wb
open Go.ChangeShapes Go.WideShapes Go.ChangeAt Go.RowKit
theorem rdb3 : Rdb Tryz.prog 3 (kint .i64) := rdb_int (by kernel_rfl)
theorem rdb4 : Rdb Tryz.prog 4 kbool := rdb_bool (by kernel_rfl)
theorem rdb27 : Rdb Tryz.prog 27 ku64 := rdb_u64 (by kernel_rfl)
theorem rdb29 : Rdb Tryz.prog 29 kWide := rdb_st (fun y => ⟨y.1, y.2⟩) (by kernel_rfl) (by kernel_rfl) (fun _ => rfl) (frd_cons rdb27 (by kernel_rfl) (frd_one rdb27 (by kernel_rfl)))
theorem rdb60 : Rdb Tryz.prog 60 kOxm := rdb_st (fun y => ⟨y.1, y.2.1, y.2.2.1, y.2.2.2⟩) (by kernel_rfl) (by kernel_rfl) (fun _ => rfl) (frd_cons rdb3 (by kernel_rfl) (frd_cons rdb4 (by kernel_rfl) (frd_cons rdb29 (by kernel_rfl) (frd_one rdb29 (by kernel_rfl)))))
theorem rdb62 : Rdb Tryz.prog 62 kAction := rdb_st (fun y => ⟨y.1, y.2.1, y.2.2.1, y.2.2.2.1, y.2.2.2.2.1, y.2.2.2.2.2⟩) (by kernel_rfl) (by kernel_rfl) (fun _ => rfl) (frd_cons rdb3 (by kernel_rfl) (frd_cons rdb3 (by kernel_rfl) (frd_cons rdb3 (by kernel_rfl) (frd_cons rdb3 (by kernel_rfl) (frd_cons rdb3 (by kernel_rfl) (frd_one rdb60 (by kernel_rfl)))))))
theorem rdb26 : Rdb Tryz.prog 26 (ksl kAction) := rdb_sl (by kernel_rfl) (by kernel_rfl) rfl rdb62
theorem rdb64 : Rdb Tryz.prog 64 kBucket := rdb_st (fun y => ⟨y.1, y.2.1, y.2.2.1, y.2.2.2⟩) (by kernel_rfl) (by kernel_rfl) (fun _ => rfl) (frd_cons rdb3 (by kernel_rfl) (frd_cons rdb3 (by kernel_rfl) (frd_cons rdb3 (by kernel_rfl) (frd_one rdb26 (by kernel_rfl)))))
theorem rdb65 : Rdb Tryz.prog 65 (ksl kBucket) := rdb_sl (by kernel_rfl) (by kernel_rfl) rfl rdb64
theorem rdb67 : Rdb Tryz.prog 67 kGroup := rdb_st (fun y => ⟨y.1, y.2.1, y.2.2⟩) (by kernel_rfl) (by kernel_rfl) (fun _ => rfl) (frd_cons rdb3 (by kernel_rfl) (frd_cons rdb3 (by kernel_rfl) (frd_one rdb65 (by kernel_rfl))))
theorem rdb22 : Rdb Tryz.prog 22 (ksl kGroup) := rdb_sl (by kernel_rfl) (by kernel_rfl) rfl rdb67
theorem rdb23 : Rdb Tryz.prog 23 (ksl (kint .i64)) := rdb_sl (by kernel_rfl) (by kernel_rfl) rfl rdb3
theorem rdb25 : Rdb Tryz.prog 25 kEnv := rdb_st (fun y => ⟨y.1, y.2⟩) (by kernel_rfl) (by kernel_rfl) (fun _ => rfl) (frd_cons rdb3 (by kernel_rfl) (frd_one rdb23 (by kernel_rfl)))
theorem rdb42 : Rdb Tryz.prog 42 kTern := rdb_st (fun y => ⟨y.1, y.2⟩) (by kernel_rfl) (by kernel_rfl) (fun _ => rfl) (frd_cons rdb29 (by kernel_rfl) (frd_one rdb29 (by kernel_rfl)))
theorem rdb44 : Rdb Tryz.prog 44 (karr 24 kTern) := rdb_arr (by kernel_rfl) (by kernel_rfl) (by kernel_rfl) rdb42
theorem rdb48 : Rdb Tryz.prog 48 kAtom := rdb_st (fun y => ⟨y.1, y.2.1, y.2.2.1, y.2.2.2⟩) (by kernel_rfl) (by kernel_rfl) (fun _ => rfl) (frd_cons rdb44 (by kernel_rfl) (frd_cons rdb4 (by kernel_rfl) (frd_cons rdb3 (by kernel_rfl) (frd_one rdb3 (by kernel_rfl)))))
theorem rdb40 : Rdb Tryz.prog 40 (ksl kAtom) := rdb_sl (by kernel_rfl) (by kernel_rfl) rfl rdb48
theorem rdb31 : Rdb Tryz.prog 31 (karr 24 kWide) := rdb_arr (by kernel_rfl) (by kernel_rfl) (by kernel_rfl) rdb29
theorem rty40 : Ty Tryz.prog 40 (ksl kAtom) := ⟨by kernel_rfl, by kernel_rfl⟩
theorem atomOuts_own : ownKnob Tryz.prog.godebug = none := by kernel_rfl
theorem atomOuts_laid : laidOutB Tryz.prog = true := by kernel_rfl
set_option maxRecDepth 100000 in
theorem atomOuts_contract (H : Type) (enc : TypeId × Value → H) (W : World) (base : Nat) (args : Array Value) (ds gs : List (DataW H)) (before : List MemPlace)
    (hval : ∀ (j : Nat) t v, Tryz.f5.params[j]? = some t → args[j]? = some v → Value.okWide Tryz.prog W .any base t v)
    (hW : DataW.Whole enc Tryz.prog Tryz.f5.params.toList Rows.atomOutsSpec.vars false W args.toList ds gs before) :
    Calls Tryz.prog 5 args W fun e W' => ∃ v, e = .returned v ∧ Rows.atomOutsSpec.post enc Tryz.prog Tryz.f5 false true false false W args v W' := by
  have hW' := hW
  obtain ⟨p, q, hA0, hV, hps, hfz, hnd⟩ := hW
  have hA : DataW.TrodAll enc Tryz.prog W 0 (fun _ => true) true [22, 25, 40, 31] args.toList ds p := hA0
  obtain ⟨v0, vs0, d0, ds0, p0, q0, hargs, rfl, rfl, h0, r0⟩ := trodAll_cons hA
  obtain ⟨v1, vs1, d1, ds1, p1, q1, rfl, rfl, rfl, h1, r1⟩ := trodAll_cons r0
  obtain ⟨v2, vs2, d2, ds2, p2, q2, rfl, rfl, rfl, h2, r2⟩ := trodAll_cons r1
  obtain ⟨v3, vs3, d3, ds3, p3, q3, rfl, rfl, rfl, h3, r3⟩ := trodAll_cons r2
  obtain ⟨rfl, rfl, rfl⟩ := trodAll_nil r3
  obtain rfl : args = #[v0, v1, v2, v3] := by cases args; simp_all
  obtain ⟨rfl, rfl⟩ := trodVars_none hV
  rw [Tryz.params5] at hval
  obtain ⟨x0, hx0⟩ := rdb22.val ty22 (hval 0 22 v0 rfl rfl) h0
  obtain ⟨x1, hx1⟩ := rdb25.val ty25 (hval 1 25 v1 rfl rfl) h1
  obtain ⟨x2, hx2⟩ := rdb40.val rty40 (hval 2 40 v2 rfl rfl) h2
  obtain ⟨x3, hx3⟩ := rdb31.val ty31 (hval 3 31 v3 rfl rfl) h3
  have hlaw : F5 x0 x1 x2 x3 = some true := atom_outs x0 x1 x2 x3
  refine (c5 x0 x1 x2 x3 true hlaw W none_ [v0, v1, v2, v3] (fun _ h => h.elim) ⟨hx0, hx1, hx2, hx3, trivial⟩).mono ?_
  rintro e W' ⟨v, rfl, hf, hB⟩
  have hv : v = .bool true := rd_bool hB
  subst hv
  exact ⟨_, rfl, law_post (tb := 4) atomOuts_laid (by kernel_rfl) rfl (by kernel_rfl) (by kernel_rfl) hW' rfl hf⟩
set_option maxRecDepth 100000 in
theorem atomOuts_lifted (os : Os) (started : os.Started) (H : Type) (enc : TypeId × Value → H) :
    ReturnsInHanded {} Tryz.checked os 5 .any (Rows.atomOutsSpec.pre6 enc Tryz.prog Tryz.f5 Rows.atomOutsRow.domain false) (Rows.atomOutsSpec.post enc Tryz.prog Tryz.f5 false true false false) := by
  refine returnsInHanded_of_change (C := Tryz.checked) atomOuts_own started (by kernel_rfl) Tryz.func5
    (ChangeSpec.witness6 (enc := enc) (C := Tryz.checked) false ⟨#[], #[Value.slice none 0 0, .agg #[(Value.int IntKind.i64 0), (Value.slice none 0 0)], Value.slice none 0 0, .agg #[(Value.int IntKind.u64 0), (Value.int IntKind.u64 0), (Value.int IntKind.u64 0), (Value.int IntKind.u64 0), (Value.int IntKind.u64 0), (Value.int IntKind.u64 0), (Value.int IntKind.u64 0), (Value.int IntKind.u64 0), (Value.int IntKind.u64 0), (Value.int IntKind.u64 0), (Value.int IntKind.u64 0), (Value.int IntKind.u64 0), (Value.int IntKind.u64 0), (Value.int IntKind.u64 0), (Value.int IntKind.u64 0), (Value.int IntKind.u64 0), (Value.int IntKind.u64 0), (Value.int IntKind.u64 0), (Value.int IntKind.u64 0), (Value.int IntKind.u64 0), (Value.int IntKind.u64 0), (Value.int IntKind.u64 0), (Value.int IntKind.u64 0), (Value.int IntKind.u64 0), (Value.int IntKind.u64 0), (Value.int IntKind.u64 0), (Value.int IntKind.u64 0), (Value.int IntKind.u64 0), (Value.int IntKind.u64 0), (Value.int IntKind.u64 0), (Value.int IntKind.u64 0), (Value.int IntKind.u64 0), (Value.int IntKind.u64 0), (Value.int IntKind.u64 0), (Value.int IntKind.u64 0), (Value.int IntKind.u64 0), (Value.int IntKind.u64 0), (Value.int IntKind.u64 0), (Value.int IntKind.u64 0), (Value.int IntKind.u64 0), (Value.int IntKind.u64 0), (Value.int IntKind.u64 0), (Value.int IntKind.u64 0), (Value.int IntKind.u64 0), (Value.int IntKind.u64 0), (Value.int IntKind.u64 0), (Value.int IntKind.u64 0), (Value.int IntKind.u64 0)]], []⟩ 64 (by kernel_rfl) (by kernel_rfl) (by kernel_rfl) (by kernel_rfl)) ?_
  intro W base args ds gs before hval hW _ _
  exact atomOuts_contract H enc W base args ds gs before hval hW
theorem atomOuts_holds : Rows.AtomOutsSaid :=
  OpenClaim.holds_of_wide 5 Tryz.f5 rfl rfl rfl rfl rfl rfl rfl ⟨rfl, rfl, rfl, rfl, rfl⟩ rfl rfl rfl rfl rfl (by kernel_rfl) Tryz.func5 (by kernel_rfl)
    (of_decide_eq_true (by kernel_rfl)) (by unfold Func.isWrapper; first | (rw [if_pos (by decide +kernel)]; kernel_rfl) | (rw [if_neg (by decide +kernel)]; exact ⟨rfl, rfl⟩))
    (fun os started H enc _ => atomOuts_lifted os started H enc)
end Go.Proofs.YtokmmcflinnfiaaGreat.W
