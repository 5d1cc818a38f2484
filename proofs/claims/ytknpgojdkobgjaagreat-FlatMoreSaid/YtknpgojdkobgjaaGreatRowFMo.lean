/- Whatever the arguments: FlatMore returns true and leaves its arguments as they were. No condition. -/
import Derived.Test.YtknpgojdkobgjaaGreatRowFMoF
import Derived.Test.YtknpgojdkobgjaaGreatRows
import Derived.Test.YtknpgojdkobgjaaGreatP1
set_option linter.unusedVariables false
set_option linter.unusedSimpArgs false
namespace Go.Proofs.YtknpgojdkobgjaaGreat.W
open Go Go.Wb
open Go.ChangeShapes Go.WideShapes Go.ChangeAt Go.RowKit
theorem Zql : Rdb Tryz.prog 40 Z0o := Y73 (by kernel_rfl)
theorem Z3x : Rdb Tryz.prog 3 (Z0 .i64) := Zng (by kernel_rfl)
theorem Yf1 : Rdb Tryz.prog 4 Z8 := Y5b (by kernel_rfl)
theorem Zmw : Rdb Tryz.prog 42 Zn := Z9v (fun y => ⟨y.1, y.2⟩) (by kernel_rfl) (by kernel_rfl) (fun _ => rfl) (Z2k Zql (by kernel_rfl) (Zay Zql (by kernel_rfl)))
theorem Zvs : Rdb Tryz.prog 119 Z1v := Z9v (fun y => ⟨y.1, y.2.1, y.2.2.1, y.2.2.2⟩) (by kernel_rfl) (by kernel_rfl) (fun _ => rfl) (Z2k Z3x (by kernel_rfl) (Z2k Yf1 (by kernel_rfl) (Z2k Zmw (by kernel_rfl) (Zay Zmw (by kernel_rfl)))))
theorem Ye8 : Rdb Tryz.prog 58 (Z4 Z1v) := Zfa (by kernel_rfl) (by kernel_rfl) rfl Zvs
theorem Yff : Rdb Tryz.prog 121 Z5 := Z9v (fun y => ⟨y.1, y.2.1, y.2.2.1, y.2.2.2.1, y.2.2.2.2.1, y.2.2.2.2.2⟩) (by kernel_rfl) (by kernel_rfl) (fun _ => rfl) (Z2k Z3x (by kernel_rfl) (Z2k Z3x (by kernel_rfl) (Z2k Z3x (by kernel_rfl) (Z2k Z3x (by kernel_rfl) (Z2k Z3x (by kernel_rfl) (Zay Zvs (by kernel_rfl)))))))
theorem Zwf : Rdb Tryz.prog 122 (Z4 Z5) := Zfa (by kernel_rfl) (by kernel_rfl) rfl Yff
theorem Y2r : Rdb Tryz.prog 124 Z0u := Z9v (fun y => ⟨y.1, y.2.1, y.2.2.1, y.2.2.2.1, y.2.2.2.2⟩) (by kernel_rfl) (by kernel_rfl) (fun _ => rfl) (Z2k Z3x (by kernel_rfl) (Z2k Z3x (by kernel_rfl) (Z2k Zmw (by kernel_rfl) (Z2k Zmw (by kernel_rfl) (Zay Zwf (by kernel_rfl))))))
theorem Y8b : Rdb Tryz.prog 59 (Z4 Z0u) := Zfa (by kernel_rfl) (by kernel_rfl) rfl Y2r
theorem Y48 : Rdb Tryz.prog 61 Z0d := Z9v (fun y => ⟨y.1, y.2.1, y.2.2.1, y.2.2.2.1, y.2.2.2.2.1, y.2.2.2.2.2.1, y.2.2.2.2.2.2⟩) (by kernel_rfl) (by kernel_rfl) (fun _ => rfl) (Z2k Zql (by kernel_rfl) (Z2k Z3x (by kernel_rfl) (Z2k Z3x (by kernel_rfl) (Z2k Z3x (by kernel_rfl) (Z2k Z3x (by kernel_rfl) (Z2k Ye8 (by kernel_rfl) (Zay Y8b (by kernel_rfl))))))))
theorem Yea : Rdb Tryz.prog 22 (Z4 Z0d) := Zfa (by kernel_rfl) (by kernel_rfl) rfl Y48
theorem Y6h : Rdb Tryz.prog 23 (Z2 4 (Z4 Z0d)) := Y6a (by kernel_rfl) (by kernel_rfl) (by kernel_rfl) Yea
theorem Ybe : Rdb Tryz.prog 226 Z0t := Z9v (fun y => ⟨y.1, y.2.1, y.2.2.1, y.2.2.2⟩) (by kernel_rfl) (by kernel_rfl) (fun _ => rfl) (Z2k Z3x (by kernel_rfl) (Z2k Z3x (by kernel_rfl) (Z2k Z3x (by kernel_rfl) (Zay Zwf (by kernel_rfl)))))
theorem Y98 : Rdb Tryz.prog 162 (Z4 Z0t) := Zfa (by kernel_rfl) (by kernel_rfl) rfl Ybe
theorem Ydh : Rdb Tryz.prog 164 Z0e := Z9v (fun y => ⟨y.1, y.2.1, y.2.2⟩) (by kernel_rfl) (by kernel_rfl) (fun _ => rfl) (Z2k Z3x (by kernel_rfl) (Z2k Z3x (by kernel_rfl) (Zay Y98 (by kernel_rfl))))
theorem Y1v : Rdb Tryz.prog 24 (Z4 Z0e) := Zfa (by kernel_rfl) (by kernel_rfl) rfl Ydh
theorem rdb26 : Rdb Tryz.prog 26 Z0h := Z9v (fun y => ⟨y.1, y.2⟩) (by kernel_rfl) (by kernel_rfl) (fun _ => rfl) (Z2k Y6h (by kernel_rfl) (Zay Y1v (by kernel_rfl)))
theorem rdb98 : Rdb Tryz.prog 98 (Z0 .u16) := Zng (by kernel_rfl)
theorem Zs7 : Ty Tryz.prog 98 (Z0 .u16) := ⟨by kernel_rfl, by kernel_rfl⟩
theorem Y4n : ownKnob Tryz.prog.godebug = none := by kernel_rfl
theorem Ybd : laidOutB Tryz.prog = true := by kernel_rfl
set_option maxRecDepth 100000 in
theorem Y7y (H : Type) (enc : TypeId × Value → H) (W : World) (base : Nat) (args : Array Value) (ds gs : List (DataW H)) (before : List MemPlace)
  (hval : ∀ (j : Nat) t v, Tryz.f13.params[j]? = some t → args[j]? = some v → Value.okWide Tryz.prog W .any base t v)
  (hW : DataW.Whole enc Tryz.prog Tryz.f13.params.toList Rows.flatMoreSpec.vars false W args.toList ds gs before) :
  Calls Tryz.prog 13 args W fun e W' => ∃ v, e = .returned v ∧ Rows.flatMoreSpec.post enc Tryz.prog Tryz.f13 false true false false W args v W' := by
 have hW' := hW
 obtain ⟨p, q, hA0, hV, hps, hfz, hnd⟩ := hW
 have hA : DataW.TrodAll enc Tryz.prog W 0 (fun _ => true) true [26, 98, 98] args.toList ds p := hA0
 obtain ⟨v0, vs0, d0, ds0, p0, q0, hargs, rfl, rfl, h0, r0⟩ := trodAll_cons hA
 obtain ⟨v1, vs1, d1, ds1, p1, q1, rfl, rfl, rfl, h1, r1⟩ := trodAll_cons r0
 obtain ⟨v2, vs2, d2, ds2, p2, q2, rfl, rfl, rfl, h2, r2⟩ := trodAll_cons r1
 obtain ⟨rfl, rfl, rfl⟩ := trodAll_nil r2
 obtain rfl : args = #[v0, v1, v2] := by cases args; simp_all
 obtain ⟨rfl, rfl⟩ := trodVars_none hV
 rw [Tryz.params13] at hval
 obtain ⟨x0, hx0⟩ := rdb26.val Z3m (hval 0 26 v0 rfl rfl) h0
 obtain ⟨x1, hx1⟩ := rdb98.val Zs7 (hval 1 98 v1 rfl rfl) h1
 obtain ⟨x2, hx2⟩ := rdb98.val Zs7 (hval 2 98 v2 rfl rfl) h2
 have hlaw : Zei x0 x1 x2 = some true := Y5d x0 x1 x2 hx1 hx2
 refine (Yde x0 x1 x2 true hlaw W Zi [v0, v1, v2] (fun _ h => h.elim) ⟨hx0, hx1, hx2, trivial⟩).mono ?_
 rintro e W' ⟨v, rfl, hf, hB⟩
 have hv : v = .bool true := Zc2 hB
 subst hv
 exact ⟨_, rfl, Yd7 (tb := 4) Ybd (by kernel_rfl) rfl (by kernel_rfl) (by kernel_rfl) hW' rfl hf⟩
set_option maxRecDepth 100000 in
theorem Y3o (os : Os) (started : os.Started) (H : Type) (enc : TypeId × Value → H) :
  ReturnsInHanded {} Tryz.checked os 13 .any (Rows.flatMoreSpec.pre6 enc Tryz.prog Tryz.f13 Rows.flatMoreRow.domain false) (Rows.flatMoreSpec.post enc Tryz.prog Tryz.f13 false true false false) := by
 refine returnsInHanded_of_change (C := Tryz.checked) Y4n started (by kernel_rfl) Tryz.func13
  (ChangeSpec.witness6 (enc := enc) (C := Tryz.checked) false ⟨#[], #[.agg #[(Value.slice none 0 0), (Value.slice none 0 0), (Value.slice none 0 0), (Value.slice none 0 0), (Value.slice none 0 0)], Value.int IntKind.u16 0, Value.int IntKind.u16 0], []⟩ 64 (by kernel_rfl) (by kernel_rfl) (by kernel_rfl) (by kernel_rfl)) ?_
 intro W base args ds gs before hval hW _ _
 exact Y7y H enc W base args ds gs before hval hW
theorem flatMore_holds : Rows.FlatMoreSaid :=
 OpenClaim.holds_of_wide 13 Tryz.f13 rfl rfl rfl rfl rfl rfl rfl ⟨rfl, rfl, rfl, rfl, rfl⟩ rfl rfl rfl rfl rfl (by kernel_rfl) Tryz.func13 Ye4
  (of_decide_eq_true (by kernel_rfl)) (by unfold Func.isWrapper; first | (rw [if_pos (by decide +kernel)]; kernel_rfl) | (rw [if_neg (by decide +kernel)]; exact ⟨rfl, rfl⟩))
  (fun os started H enc _ => Y3o os started H enc)
end Go.Proofs.YtknpgojdkobgjaaGreat.W
