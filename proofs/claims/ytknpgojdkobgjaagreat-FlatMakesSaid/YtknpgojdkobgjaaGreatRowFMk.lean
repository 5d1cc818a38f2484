/- Whatever the arguments: FlatMakes returns true and leaves its arguments as they were. No condition. -/
import Derived.Test.YtknpgojdkobgjaaGreatRowFMkF
import Derived.Test.YtknpgojdkobgjaaGreatRows
import Derived.Test.YtknpgojdkobgjaaGreatP1
set_option linter.unusedVariables false
set_option linter.unusedSimpArgs false
namespace Go.Proofs.YtknpgojdkobgjaaGreat.W
open Go Go.Wb
open Go.ChangeShapes Go.WideShapes Go.ChangeAt Go.RowKit
theorem Zr9 : Rdb Tryz.prog 40 Z0j := Y2t (by kernel_rfl)
theorem rdb3 : Rdb Tryz.prog 3 (Z0 .i64) := Y1i (by kernel_rfl)
theorem Y4e : Rdb Tryz.prog 4 Z7 := Y5w (by kernel_rfl)
theorem Zlz : Rdb Tryz.prog 42 Zp := Za8 (fun y => ⟨y.1, y.2⟩) (by kernel_rfl) (by kernel_rfl) (fun _ => rfl) (Z2p Zr9 (by kernel_rfl) (Z9e Zr9 (by kernel_rfl)))
theorem Zwq : Rdb Tryz.prog 119 Z1w := Za8 (fun y => ⟨y.1, y.2.1, y.2.2.1, y.2.2.2⟩) (by kernel_rfl) (by kernel_rfl) (fun _ => rfl) (Z2p rdb3 (by kernel_rfl) (Z2p Y4e (by kernel_rfl) (Z2p Zlz (by kernel_rfl) (Z9e Zlz (by kernel_rfl)))))
theorem Y4x : Rdb Tryz.prog 58 (Z3 Z1w) := Zf7 (by kernel_rfl) (by kernel_rfl) rfl Zwq
theorem Yjo : Rdb Tryz.prog 121 Z8 := Za8 (fun y => ⟨y.1, y.2.1, y.2.2.1, y.2.2.2.1, y.2.2.2.2.1, y.2.2.2.2.2⟩) (by kernel_rfl) (by kernel_rfl) (fun _ => rfl) (Z2p rdb3 (by kernel_rfl) (Z2p rdb3 (by kernel_rfl) (Z2p rdb3 (by kernel_rfl) (Z2p rdb3 (by kernel_rfl) (Z2p rdb3 (by kernel_rfl) (Z9e Zwq (by kernel_rfl)))))))
theorem Zve : Rdb Tryz.prog 122 (Z3 Z8) := Zf7 (by kernel_rfl) (by kernel_rfl) rfl Yjo
theorem Y4w : Rdb Tryz.prog 124 Z1a := Za8 (fun y => ⟨y.1, y.2.1, y.2.2.1, y.2.2.2.1, y.2.2.2.2⟩) (by kernel_rfl) (by kernel_rfl) (fun _ => rfl) (Z2p rdb3 (by kernel_rfl) (Z2p rdb3 (by kernel_rfl) (Z2p Zlz (by kernel_rfl) (Z2p Zlz (by kernel_rfl) (Z9e Zve (by kernel_rfl))))))
theorem Ycj : Rdb Tryz.prog 59 (Z3 Z1a) := Zf7 (by kernel_rfl) (by kernel_rfl) rfl Y4w
theorem Ye4 : Rdb Tryz.prog 61 Z0k := Za8 (fun y => ⟨y.1, y.2.1, y.2.2.1, y.2.2.2.1, y.2.2.2.2.1, y.2.2.2.2.2.1, y.2.2.2.2.2.2⟩) (by kernel_rfl) (by kernel_rfl) (fun _ => rfl) (Z2p Zr9 (by kernel_rfl) (Z2p rdb3 (by kernel_rfl) (Z2p rdb3 (by kernel_rfl) (Z2p rdb3 (by kernel_rfl) (Z2p rdb3 (by kernel_rfl) (Z2p Y4x (by kernel_rfl) (Z9e Ycj (by kernel_rfl))))))))
theorem Yga : Rdb Tryz.prog 22 (Z3 Z0k) := Zf7 (by kernel_rfl) (by kernel_rfl) rfl Ye4
theorem Yf3 : Rdb Tryz.prog 23 (Z1 4 (Z3 Z0k)) := Y2y (by kernel_rfl) (by kernel_rfl) (by kernel_rfl) Yga
theorem Y51 : Rdb Tryz.prog 226 Z0l := Za8 (fun y => ⟨y.1, y.2.1, y.2.2.1, y.2.2.2⟩) (by kernel_rfl) (by kernel_rfl) (fun _ => rfl) (Z2p rdb3 (by kernel_rfl) (Z2p rdb3 (by kernel_rfl) (Z2p rdb3 (by kernel_rfl) (Z9e Zve (by kernel_rfl)))))
theorem Y4t : Rdb Tryz.prog 162 (Z3 Z0l) := Zf7 (by kernel_rfl) (by kernel_rfl) rfl Y51
theorem Y5m : Rdb Tryz.prog 164 Z0d := Za8 (fun y => ⟨y.1, y.2.1, y.2.2⟩) (by kernel_rfl) (by kernel_rfl) (fun _ => rfl) (Z2p rdb3 (by kernel_rfl) (Z2p rdb3 (by kernel_rfl) (Z9e Y4t (by kernel_rfl))))
theorem Yhc : Rdb Tryz.prog 24 (Z3 Z0d) := Zf7 (by kernel_rfl) (by kernel_rfl) rfl Y5m
theorem rdb26 : Rdb Tryz.prog 26 Z0p := Za8 (fun y => ⟨y.1, y.2⟩) (by kernel_rfl) (by kernel_rfl) (fun _ => rfl) (Z2p Yf3 (by kernel_rfl) (Z9e Yhc (by kernel_rfl)))
theorem Y3g : ownKnob Tryz.prog.godebug = none := by kernel_rfl
theorem Ygg : laidOutB Tryz.prog = true := by kernel_rfl
set_option maxRecDepth 100000 in
theorem Yfd (H : Type) (enc : TypeId × Value → H) (W : World) (base : Nat) (args : Array Value) (ds gs : List (DataW H)) (before : List MemPlace)
  (hval : ∀ (j : Nat) t v, Tryz.f11.params[j]? = some t → args[j]? = some v → Value.okWide Tryz.prog W .any base t v)
  (hW : DataW.Whole enc Tryz.prog Tryz.f11.params.toList Rows.flatMakesSpec.vars false W args.toList ds gs before) :
  Calls Tryz.prog 11 args W fun e W' => ∃ v, e = .returned v ∧ Rows.flatMakesSpec.post enc Tryz.prog Tryz.f11 false true false false W args v W' := by
 have hW' := hW
 obtain ⟨p, q, hA0, hV, hps, hfz, hnd⟩ := hW
 have hA : DataW.TrodAll enc Tryz.prog W 0 (fun _ => true) true [26, 3] args.toList ds p := hA0
 obtain ⟨v0, vs0, d0, ds0, p0, q0, hargs, rfl, rfl, h0, r0⟩ := trodAll_cons hA
 obtain ⟨v1, vs1, d1, ds1, p1, q1, rfl, rfl, rfl, h1, r1⟩ := trodAll_cons r0
 obtain ⟨rfl, rfl, rfl⟩ := trodAll_nil r1
 obtain rfl : args = #[v0, v1] := by cases args; simp_all
 obtain ⟨rfl, rfl⟩ := trodVars_none hV
 rw [Tryz.params11] at hval
 obtain ⟨x0, hx0⟩ := rdb26.val Z3e (hval 0 26 v0 rfl rfl) h0
 obtain ⟨x1, hx1⟩ := rdb3.val Zq (hval 1 3 v1 rfl rfl) h1
 have hlaw : Zen x0 x1 = some true := Y8p x0 x1 hx1
 refine (Yeb x0 x1 true hlaw W Zi [v0, v1] (fun _ h => h.elim) ⟨hx0, hx1, trivial⟩).mono ?_
 rintro e W' ⟨v, rfl, hf, hB⟩
 have hv : v = .bool true := Z6q hB
 subst hv
 exact ⟨_, rfl, Y5d (tb := 4) Ygg (by kernel_rfl) rfl (by kernel_rfl) (by kernel_rfl) hW' rfl hf⟩
set_option maxRecDepth 100000 in
theorem Ye2 (os : Os) (started : os.Started) (H : Type) (enc : TypeId × Value → H) :
  ReturnsInHanded {} Tryz.checked os 11 .any (Rows.flatMakesSpec.pre6 enc Tryz.prog Tryz.f11 Rows.flatMakesRow.domain false) (Rows.flatMakesSpec.post enc Tryz.prog Tryz.f11 false true false false) := by
 refine returnsInHanded_of_change (C := Tryz.checked) Y3g started (by kernel_rfl) Tryz.func11
  (ChangeSpec.witness6 (enc := enc) (C := Tryz.checked) false ⟨#[], #[.agg #[(Value.slice none 0 0), (Value.slice none 0 0), (Value.slice none 0 0), (Value.slice none 0 0), (Value.slice none 0 0)], Value.int IntKind.i64 0], []⟩ 64 (by kernel_rfl) (by kernel_rfl) (by kernel_rfl) (by kernel_rfl)) ?_
 intro W base args ds gs before hval hW _ _
 exact Yfd H enc W base args ds gs before hval hW
theorem flatMakes_holds : Rows.FlatMakesSaid :=
 OpenClaim.holds_of_wide 11 Tryz.f11 rfl rfl rfl rfl rfl rfl rfl ⟨rfl, rfl, rfl, rfl, rfl⟩ rfl rfl rfl rfl rfl (by kernel_rfl) Tryz.func11 Ya1
  (of_decide_eq_true (by kernel_rfl)) (by unfold Func.isWrapper; first | (rw [if_pos (by decide +kernel)]; kernel_rfl) | (rw [if_neg (by decide +kernel)]; exact ⟨rfl, rfl⟩))
  (fun os started H enc _ => Ye2 os started H enc)
end Go.Proofs.YtknpgojdkobgjaaGreat.W
