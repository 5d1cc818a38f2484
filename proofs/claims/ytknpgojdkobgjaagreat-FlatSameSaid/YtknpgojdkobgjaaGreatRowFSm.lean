/- Whatever the arguments: FlatSame returns true and leaves its arguments as they were. No condition. -/
import Derived.Test.YtknpgojdkobgjaaGreatRowFSmF
import Derived.Test.YtknpgojdkobgjaaGreatRows
import Derived.Test.YtknpgojdkobgjaaGreatP0
set_option linter.unusedVariables false
set_option linter.unusedSimpArgs false
namespace Go.Proofs.YtknpgojdkobgjaaGreat.W
open Go Go.Wb
open Go.ChangeShapes Go.WideShapes Go.ChangeAt Go.RowKit
theorem Zn6 : Rdb Tryz.prog 40 Z0b := Zwv (by kernel_rfl)
theorem Zet : Rdb Tryz.prog 42 Zo := Z4j (fun y => ⟨y.1, y.2⟩) (by kernel_rfl) (by kernel_rfl) (fun _ => rfl) (Z2a Zn6 (by kernel_rfl) (Z50 Zn6 (by kernel_rfl)))
theorem Zlw : Rdb Tryz.prog 85 Z4 := Z4j (fun y => ⟨y.1, y.2⟩) (by kernel_rfl) (by kernel_rfl) (fun _ => rfl) (Z2a Zet (by kernel_rfl) (Z50 Zet (by kernel_rfl)))
theorem Y1r : Rdb Tryz.prog 87 (Z2 24 Z4) := Zn7 (by kernel_rfl) (by kernel_rfl) (by kernel_rfl) Zlw
theorem Y14 : Rdb Tryz.prog 101 (Z2 24 Z4) := Zn7 (by kernel_rfl) (by kernel_rfl) (by kernel_rfl) Zlw
theorem Zo6 : Rdb Tryz.prog 4 Z6 := Zsu (by kernel_rfl)
theorem Z3f : Rdb Tryz.prog 3 (Z0 .i64) := Zlc (by kernel_rfl)
theorem Zzl : Rdb Tryz.prog 126 Z03 := Z4j (fun y => ⟨y.1, y.2.1, y.2.2.1, y.2.2.2⟩) (by kernel_rfl) (by kernel_rfl) (fun _ => rfl) (Z2a Y14 (by kernel_rfl) (Z2a Zo6 (by kernel_rfl) (Z2a Z3f (by kernel_rfl) (Z50 Z3f (by kernel_rfl)))))
theorem Zv6 : Rdb Tryz.prog 88 (Z1 Z03) := Zas (by kernel_rfl) (by kernel_rfl) rfl Zzl
theorem Zz5 : Rdb Tryz.prog 90 Zv := Z4j (fun y => ⟨y.1, y.2⟩) (by kernel_rfl) (by kernel_rfl) (fun _ => rfl) (Z2a Y1r (by kernel_rfl) (Z50 Zv6 (by kernel_rfl)))
theorem Y0m : Rdb Tryz.prog 32 (Z1 Zv) := Zas (by kernel_rfl) (by kernel_rfl) rfl Zz5
theorem Zym : Rdb Tryz.prog 119 Z12 := Z4j (fun y => ⟨y.1, y.2.1, y.2.2.1, y.2.2.2⟩) (by kernel_rfl) (by kernel_rfl) (fun _ => rfl) (Z2a Z3f (by kernel_rfl) (Z2a Zo6 (by kernel_rfl) (Z2a Zet (by kernel_rfl) (Z50 Zet (by kernel_rfl)))))
theorem Zwj : Rdb Tryz.prog 121 Z8 := Z4j (fun y => ⟨y.1, y.2.1, y.2.2.1, y.2.2.2.1, y.2.2.2.2.1, y.2.2.2.2.2⟩) (by kernel_rfl) (by kernel_rfl) (fun _ => rfl) (Z2a Z3f (by kernel_rfl) (Z2a Z3f (by kernel_rfl) (Z2a Z3f (by kernel_rfl) (Z2a Z3f (by kernel_rfl) (Z2a Z3f (by kernel_rfl) (Z50 Zym (by kernel_rfl)))))))
theorem Zvk : Rdb Tryz.prog 122 (Z1 Z8) := Zas (by kernel_rfl) (by kernel_rfl) rfl Zwj
theorem Zxi : Rdb Tryz.prog 226 Z0c := Z4j (fun y => ⟨y.1, y.2.1, y.2.2.1, y.2.2.2⟩) (by kernel_rfl) (by kernel_rfl) (fun _ => rfl) (Z2a Z3f (by kernel_rfl) (Z2a Z3f (by kernel_rfl) (Z2a Z3f (by kernel_rfl) (Z50 Zvk (by kernel_rfl)))))
theorem Zr9 : Rdb Tryz.prog 162 (Z1 Z0c) := Zas (by kernel_rfl) (by kernel_rfl) rfl Zxi
theorem Zqy : Rdb Tryz.prog 164 Zz := Z4j (fun y => ⟨y.1, y.2.1, y.2.2⟩) (by kernel_rfl) (by kernel_rfl) (fun _ => rfl) (Z2a Z3f (by kernel_rfl) (Z2a Z3f (by kernel_rfl) (Z50 Zr9 (by kernel_rfl))))
theorem Zpu : Rdb Tryz.prog 24 (Z1 Zz) := Zas (by kernel_rfl) (by kernel_rfl) rfl Zqy
theorem rdb73 : Rdb Tryz.prog 73 Z2o := Z4j (fun y => ⟨y.1, y.2⟩) (by kernel_rfl) (by kernel_rfl) (fun _ => rfl) (Z2a Y0m (by kernel_rfl) (Z50 Zpu (by kernel_rfl)))
theorem Y0d : ownKnob Tryz.prog.godebug = none := by kernel_rfl
theorem Zyf : laidOutB Tryz.prog = true := by kernel_rfl
set_option maxRecDepth 100000 in
theorem Zys (H : Type) (enc : TypeId × Value → H) (W : World) (base : Nat) (args : Array Value) (ds gs : List (DataW H)) (before : List MemPlace)
  (hval : ∀ (j : Nat) t v, Tryz.f12.params[j]? = some t → args[j]? = some v → Value.okWide Tryz.prog W .any base t v)
  (hW : DataW.Whole enc Tryz.prog Tryz.f12.params.toList Rows.flatSameSpec.vars false W args.toList ds gs before) :
  Calls Tryz.prog 12 args W fun e W' => ∃ v, e = .returned v ∧ Rows.flatSameSpec.post enc Tryz.prog Tryz.f12 false true false false W args v W' := by
 have hW' := hW
 obtain ⟨p, q, hA0, hV, hps, hfz, hnd⟩ := hW
 have hA : DataW.TrodAll enc Tryz.prog W 0 (fun _ => true) true [73, 73] args.toList ds p := hA0
 obtain ⟨v0, vs0, d0, ds0, p0, q0, hargs, rfl, rfl, h0, r0⟩ := trodAll_cons hA
 obtain ⟨v1, vs1, d1, ds1, p1, q1, rfl, rfl, rfl, h1, r1⟩ := trodAll_cons r0
 obtain ⟨rfl, rfl, rfl⟩ := trodAll_nil r1
 obtain rfl : args = #[v0, v1] := by cases args; simp_all
 obtain ⟨rfl, rfl⟩ := trodVars_none hV
 rw [Tryz.params12] at hval
 obtain ⟨x0, hx0⟩ := rdb73.val Z2p (hval 0 73 v0 rfl rfl) h0
 obtain ⟨x1, hx1⟩ := rdb73.val Z2p (hval 1 73 v1 rfl rfl) h1
 have hlaw : Zap x0 x1 = some true := Zxw x0 x1
 refine (Zvo x0 x1 true hlaw W Za [v0, v1] (fun _ h => h.elim) ⟨hx0, hx1, trivial⟩).mono ?_
 rintro e W' ⟨v, rfl, hf, hB⟩
 have hv : v = .bool true := Z40 hB
 subst hv
 exact ⟨_, rfl, Zrk (tb := 4) Zyf (by kernel_rfl) rfl (by kernel_rfl) (by kernel_rfl) hW' rfl hf⟩
set_option maxRecDepth 100000 in
theorem Zs1 (os : Os) (started : os.Started) (H : Type) (enc : TypeId × Value → H) :
  ReturnsInHanded {} Tryz.checked os 12 .any (Rows.flatSameSpec.pre6 enc Tryz.prog Tryz.f12 Rows.flatSameRow.domain false) (Rows.flatSameSpec.post enc Tryz.prog Tryz.f12 false true false false) := by
 refine returnsInHanded_of_change (C := Tryz.checked) Y0d started (by kernel_rfl) Tryz.func12
  (ChangeSpec.witness6 (enc := enc) (C := Tryz.checked) false ⟨#[], #[.agg #[(Value.slice none 0 0), (Value.slice none 0 0)], .agg #[(Value.slice none 0 0), (Value.slice none 0 0)]], []⟩ 64 (by kernel_rfl) (by kernel_rfl) (by kernel_rfl) (by kernel_rfl)) ?_
 intro W base args ds gs before hval hW _ _
 exact Zys H enc W base args ds gs before hval hW
theorem flatSame_holds : Rows.FlatSameSaid :=
 OpenClaim.holds_of_wide 12 Tryz.f12 rfl rfl rfl rfl rfl rfl rfl ⟨rfl, rfl, rfl, rfl, rfl⟩ rfl rfl rfl rfl rfl (by kernel_rfl) Tryz.func12 Y0j
  (of_decide_eq_true (by kernel_rfl)) (by unfold Func.isWrapper; first | (rw [if_pos (by decide +kernel)]; kernel_rfl) | (rw [if_neg (by decide +kernel)]; exact ⟨rfl, rfl⟩))
  (fun os started H enc _ => Zs1 os started H enc)
end Go.Proofs.YtknpgojdkobgjaaGreat.W
