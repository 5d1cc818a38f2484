/- Whatever the arguments: FlatEnough returns true and leaves its arguments as they were. No condition. -/
import Derived.Test.YtknpgojdkobgjaaGreatRowFEnF
import Derived.Test.YtknpgojdkobgjaaGreatRows
import Derived.Test.YtknpgojdkobgjaaGreatP0
set_option linter.unusedVariables false
set_option linter.unusedSimpArgs false
namespace Go.Proofs.YtknpgojdkobgjaaGreat.W
open Go Go.Wb
open Go.ChangeShapes Go.WideShapes Go.ChangeAt Go.RowKit
theorem Zkr : Rdb Tryz.prog 40 Z0b := Y8y (by kernel_rfl)
theorem Z35 : Rdb Tryz.prog 3 (Z0 .i64) := Zli (by kernel_rfl)
theorem Y8e : Rdb Tryz.prog 4 Z6 := Zxh (by kernel_rfl)
theorem Zhk : Rdb Tryz.prog 42 Zn := Z8m (fun y => ⟨y.1, y.2⟩) (by kernel_rfl) (by kernel_rfl) (fun _ => rfl) (Z1x Zkr (by kernel_rfl) (Z8c Zkr (by kernel_rfl)))
theorem Ztt : Rdb Tryz.prog 119 Z1f := Z8m (fun y => ⟨y.1, y.2.1, y.2.2.1, y.2.2.2⟩) (by kernel_rfl) (by kernel_rfl) (fun _ => rfl) (Z1x Z35 (by kernel_rfl) (Z1x Y8e (by kernel_rfl) (Z1x Zhk (by kernel_rfl) (Z8c Zhk (by kernel_rfl)))))
theorem Y7s : Rdb Tryz.prog 58 (Z2 Z1f) := Zc8 (by kernel_rfl) (by kernel_rfl) rfl Ztt
theorem Y4g : Rdb Tryz.prog 121 Z5 := Z8m (fun y => ⟨y.1, y.2.1, y.2.2.1, y.2.2.2.1, y.2.2.2.2.1, y.2.2.2.2.2⟩) (by kernel_rfl) (by kernel_rfl) (fun _ => rfl) (Z1x Z35 (by kernel_rfl) (Z1x Z35 (by kernel_rfl) (Z1x Z35 (by kernel_rfl) (Z1x Z35 (by kernel_rfl) (Z1x Z35 (by kernel_rfl) (Z8c Ztt (by kernel_rfl)))))))
theorem Zoo : Rdb Tryz.prog 122 (Z2 Z5) := Zc8 (by kernel_rfl) (by kernel_rfl) rfl Y4g
theorem Zvb : Rdb Tryz.prog 124 Z0s := Z8m (fun y => ⟨y.1, y.2.1, y.2.2.1, y.2.2.2.1, y.2.2.2.2⟩) (by kernel_rfl) (by kernel_rfl) (fun _ => rfl) (Z1x Z35 (by kernel_rfl) (Z1x Z35 (by kernel_rfl) (Z1x Zhk (by kernel_rfl) (Z1x Zhk (by kernel_rfl) (Z8c Zoo (by kernel_rfl))))))
theorem Y4a : Rdb Tryz.prog 59 (Z2 Z0s) := Zc8 (by kernel_rfl) (by kernel_rfl) rfl Zvb
theorem Zyp : Rdb Tryz.prog 61 Z0o := Z8m (fun y => ⟨y.1, y.2.1, y.2.2.1, y.2.2.2.1, y.2.2.2.2.1, y.2.2.2.2.2.1, y.2.2.2.2.2.2⟩) (by kernel_rfl) (by kernel_rfl) (fun _ => rfl) (Z1x Zkr (by kernel_rfl) (Z1x Z35 (by kernel_rfl) (Z1x Z35 (by kernel_rfl) (Z1x Z35 (by kernel_rfl) (Z1x Z35 (by kernel_rfl) (Z1x Y7s (by kernel_rfl) (Z8c Y4a (by kernel_rfl))))))))
theorem Y10 : Rdb Tryz.prog 22 (Z2 Z0o) := Zc8 (by kernel_rfl) (by kernel_rfl) rfl Zyp
theorem Zz1 : Rdb Tryz.prog 23 (Z3 4 (Z2 Z0o)) := Y66 (by kernel_rfl) (by kernel_rfl) (by kernel_rfl) Y10
theorem Y29 : Rdb Tryz.prog 226 Z0f := Z8m (fun y => ⟨y.1, y.2.1, y.2.2.1, y.2.2.2⟩) (by kernel_rfl) (by kernel_rfl) (fun _ => rfl) (Z1x Z35 (by kernel_rfl) (Z1x Z35 (by kernel_rfl) (Z1x Z35 (by kernel_rfl) (Z8c Zoo (by kernel_rfl)))))
theorem Zyu : Rdb Tryz.prog 162 (Z2 Z0f) := Zc8 (by kernel_rfl) (by kernel_rfl) rfl Y29
theorem Zw5 : Rdb Tryz.prog 164 Z02 := Z8m (fun y => ⟨y.1, y.2.1, y.2.2⟩) (by kernel_rfl) (by kernel_rfl) (fun _ => rfl) (Z1x Z35 (by kernel_rfl) (Z1x Z35 (by kernel_rfl) (Z8c Zyu (by kernel_rfl))))
theorem Y1k : Rdb Tryz.prog 24 (Z2 Z02) := Zc8 (by kernel_rfl) (by kernel_rfl) rfl Zw5
theorem rdb26 : Rdb Tryz.prog 26 Z0v := Z8m (fun y => ⟨y.1, y.2⟩) (by kernel_rfl) (by kernel_rfl) (fun _ => rfl) (Z1x Zz1 (by kernel_rfl) (Z8c Y1k (by kernel_rfl)))
theorem rdb98 : Rdb Tryz.prog 98 (Z0 .u16) := Zli (by kernel_rfl)
theorem Y1n : Ty Tryz.prog 98 (Z0 .u16) := ⟨by kernel_rfl, by kernel_rfl⟩
theorem Zxk : ownKnob Tryz.prog.godebug = none := by kernel_rfl
theorem Y5t : laidOutB Tryz.prog = true := by kernel_rfl
set_option maxRecDepth 100000 in
theorem Y45 (H : Type) (enc : TypeId × Value → H) (W : World) (base : Nat) (args : Array Value) (ds gs : List (DataW H)) (before : List MemPlace)
  (hval : ∀ (j : Nat) t v, Tryz.f14.params[j]? = some t → args[j]? = some v → Value.okWide Tryz.prog W .any base t v)
  (hW : DataW.Whole enc Tryz.prog Tryz.f14.params.toList Rows.flatEnoughSpec.vars false W args.toList ds gs before) :
  Calls Tryz.prog 14 args W fun e W' => ∃ v, e = .returned v ∧ Rows.flatEnoughSpec.post enc Tryz.prog Tryz.f14 false true false false W args v W' := by
 have hW' := hW
 obtain ⟨p, q, hA0, hV, hps, hfz, hnd⟩ := hW
 have hA : DataW.TrodAll enc Tryz.prog W 0 (fun _ => true) true [26, 98] args.toList ds p := hA0
 obtain ⟨v0, vs0, d0, ds0, p0, q0, hargs, rfl, rfl, h0, r0⟩ := trodAll_cons hA
 obtain ⟨v1, vs1, d1, ds1, p1, q1, rfl, rfl, rfl, h1, r1⟩ := trodAll_cons r0
 obtain ⟨rfl, rfl, rfl⟩ := trodAll_nil r1
 obtain rfl : args = #[v0, v1] := by cases args; simp_all
 obtain ⟨rfl, rfl⟩ := trodVars_none hV
 rw [Tryz.params14] at hval
 obtain ⟨x0, hx0⟩ := rdb26.val Z48 (hval 0 26 v0 rfl rfl) h0
 obtain ⟨x1, hx1⟩ := rdb98.val Y1n (hval 1 98 v1 rfl rfl) h1
 have hlaw : Zbk x0 x1 = some true := Y06 x0 x1 hx1
 refine (Y75 x0 x1 true hlaw W Zc [v0, v1] (fun _ h => h.elim) ⟨hx0, hx1, trivial⟩).mono ?_
 rintro e W' ⟨v, rfl, hf, hB⟩
 have hv : v = .bool true := Zac hB
 subst hv
 exact ⟨_, rfl, Zxx (tb := 4) Y5t (by kernel_rfl) rfl (by kernel_rfl) (by kernel_rfl) hW' rfl hf⟩
set_option maxRecDepth 100000 in
theorem Y72 (os : Os) (started : os.Started) (H : Type) (enc : TypeId × Value → H) :
  ReturnsInHanded {} Tryz.checked os 14 .any (Rows.flatEnoughSpec.pre6 enc Tryz.prog Tryz.f14 Rows.flatEnoughRow.domain false) (Rows.flatEnoughSpec.post enc Tryz.prog Tryz.f14 false true false false) := by
 refine returnsInHanded_of_change (C := Tryz.checked) Zxk started (by kernel_rfl) Tryz.func14
  (ChangeSpec.witness6 (enc := enc) (C := Tryz.checked) false ⟨#[], #[.agg #[(Value.slice none 0 0), (Value.slice none 0 0), (Value.slice none 0 0), (Value.slice none 0 0), (Value.slice none 0 0)], Value.int IntKind.u16 0], []⟩ 64 (by kernel_rfl) (by kernel_rfl) (by kernel_rfl) (by kernel_rfl)) ?_
 intro W base args ds gs before hval hW _ _
 exact Y45 H enc W base args ds gs before hval hW
theorem flatEnough_holds : Rows.FlatEnoughSaid :=
 OpenClaim.holds_of_wide 14 Tryz.f14 rfl rfl rfl rfl rfl rfl rfl ⟨rfl, rfl, rfl, rfl, rfl⟩ rfl rfl rfl rfl rfl (by kernel_rfl) Tryz.func14 Y68
  (of_decide_eq_true (by kernel_rfl)) (by unfold Func.isWrapper; first | (rw [if_pos (by decide +kernel)]; kernel_rfl) | (rw [if_neg (by decide +kernel)]; exact ⟨rfl, rfl⟩))
  (fun os started H enc _ => Y72 os started H enc)
end Go.Proofs.YtknpgojdkobgjaaGreat.W
