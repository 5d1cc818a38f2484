/- Whatever the arguments: FindHit returns true and leaves its arguments as they were. No condition. -/
import Derived.Test.YtknpgojdkobgjaaGreatRowFHiF
import Derived.Test.YtknpgojdkobgjaaGreatRows
import Derived.Test.YtknpgojdkobgjaaGreatP1
set_option linter.unusedVariables false
set_option linter.unusedSimpArgs false
namespace Go.Proofs.YtknpgojdkobgjaaGreat.W
open Go Go.Wb
open Go.ChangeShapes Go.WideShapes Go.ChangeAt Go.RowKit
theorem Zrc : Rdb Tryz.prog 40 Z0q := Ygl (by kernel_rfl)
theorem rdb3 : Rdb Tryz.prog 3 (Z0 .i64) := Zzt (by kernel_rfl)
theorem Y9p : Rdb Tryz.prog 4 Zc := Ybt (by kernel_rfl)
theorem Zlw : Rdb Tryz.prog 42 Zh := Zah (fun y => ⟨y.1, y.2⟩) (by kernel_rfl) (by kernel_rfl) (fun _ => rfl) (Z2s Zrc (by kernel_rfl) (Zb7 Zrc (by kernel_rfl)))
theorem Ztb : Rdb Tryz.prog 119 Z23 := Zah (fun y => ⟨y.1, y.2.1, y.2.2.1, y.2.2.2⟩) (by kernel_rfl) (by kernel_rfl) (fun _ => rfl) (Z2s rdb3 (by kernel_rfl) (Z2s Y9p (by kernel_rfl) (Z2s Zlw (by kernel_rfl) (Zb7 Zlw (by kernel_rfl)))))
theorem Y5q : Rdb Tryz.prog 58 (Z4 Z23) := Zey (by kernel_rfl) (by kernel_rfl) rfl Ztb
theorem Ybu : Rdb Tryz.prog 121 Z6 := Zah (fun y => ⟨y.1, y.2.1, y.2.2.1, y.2.2.2.1, y.2.2.2.2.1, y.2.2.2.2.2⟩) (by kernel_rfl) (by kernel_rfl) (fun _ => rfl) (Z2s rdb3 (by kernel_rfl) (Z2s rdb3 (by kernel_rfl) (Z2s rdb3 (by kernel_rfl) (Z2s rdb3 (by kernel_rfl) (Z2s rdb3 (by kernel_rfl) (Zb7 Ztb (by kernel_rfl)))))))
theorem Zut : Rdb Tryz.prog 122 (Z4 Z6) := Zey (by kernel_rfl) (by kernel_rfl) rfl Ybu
theorem Y6l : Rdb Tryz.prog 124 Z10 := Zah (fun y => ⟨y.1, y.2.1, y.2.2.1, y.2.2.2.1, y.2.2.2.2⟩) (by kernel_rfl) (by kernel_rfl) (fun _ => rfl) (Z2s rdb3 (by kernel_rfl) (Z2s rdb3 (by kernel_rfl) (Z2s Zlw (by kernel_rfl) (Z2s Zlw (by kernel_rfl) (Zb7 Zut (by kernel_rfl))))))
theorem Yg2 : Rdb Tryz.prog 59 (Z4 Z10) := Zey (by kernel_rfl) (by kernel_rfl) rfl Y6l
theorem Y4z : Rdb Tryz.prog 61 Z0f := Zah (fun y => ⟨y.1, y.2.1, y.2.2.1, y.2.2.2.1, y.2.2.2.2.1, y.2.2.2.2.2.1, y.2.2.2.2.2.2⟩) (by kernel_rfl) (by kernel_rfl) (fun _ => rfl) (Z2s Zrc (by kernel_rfl) (Z2s rdb3 (by kernel_rfl) (Z2s rdb3 (by kernel_rfl) (Z2s rdb3 (by kernel_rfl) (Z2s rdb3 (by kernel_rfl) (Z2s Y5q (by kernel_rfl) (Zb7 Yg2 (by kernel_rfl))))))))
theorem Ygg : Rdb Tryz.prog 22 (Z4 Z0f) := Zey (by kernel_rfl) (by kernel_rfl) rfl Y4z
theorem Y3r : Rdb Tryz.prog 23 (Z2 4 (Z4 Z0f)) := Y7q (by kernel_rfl) (by kernel_rfl) (by kernel_rfl) Ygg
theorem Y9a : Rdb Tryz.prog 226 Z1o := Zah (fun y => ⟨y.1, y.2.1, y.2.2.1, y.2.2.2⟩) (by kernel_rfl) (by kernel_rfl) (fun _ => rfl) (Z2s rdb3 (by kernel_rfl) (Z2s rdb3 (by kernel_rfl) (Z2s rdb3 (by kernel_rfl) (Zb7 Zut (by kernel_rfl)))))
theorem Yft : Rdb Tryz.prog 162 (Z4 Z1o) := Zey (by kernel_rfl) (by kernel_rfl) rfl Y9a
theorem Yfq : Rdb Tryz.prog 164 Z0d := Zah (fun y => ⟨y.1, y.2.1, y.2.2⟩) (by kernel_rfl) (by kernel_rfl) (fun _ => rfl) (Z2s rdb3 (by kernel_rfl) (Z2s rdb3 (by kernel_rfl) (Zb7 Yft (by kernel_rfl))))
theorem Y2d : Rdb Tryz.prog 24 (Z4 Z0d) := Zey (by kernel_rfl) (by kernel_rfl) rfl Yfq
theorem rdb26 : Rdb Tryz.prog 26 Z0h := Zah (fun y => ⟨y.1, y.2⟩) (by kernel_rfl) (by kernel_rfl) (fun _ => rfl) (Z2s Y3r (by kernel_rfl) (Zb7 Y2d (by kernel_rfl)))
theorem Y4e : ownKnob Tryz.prog.godebug = none := by kernel_rfl
theorem Yc9 : laidOutB Tryz.prog = true := by kernel_rfl
set_option maxRecDepth 100000 in
theorem Yer (H : Type) (enc : TypeId × Value → H) (W : World) (base : Nat) (args : Array Value) (ds gs : List (DataW H)) (before : List MemPlace)
  (hval : ∀ (j : Nat) t v, Tryz.f15.params[j]? = some t → args[j]? = some v → Value.okWide Tryz.prog W .any base t v)
  (hW : DataW.Whole enc Tryz.prog Tryz.f15.params.toList Rows.findHitSpec.vars false W args.toList ds gs before) :
  Calls Tryz.prog 15 args W fun e W' => ∃ v, e = .returned v ∧ Rows.findHitSpec.post enc Tryz.prog Tryz.f15 false true false false W args v W' := by
 have hW' := hW
 obtain ⟨p, q, hA0, hV, hps, hfz, hnd⟩ := hW
 have hA : DataW.TrodAll enc Tryz.prog W 0 (fun _ => true) true [26, 3] args.toList ds p := hA0
 obtain ⟨v0, vs0, d0, ds0, p0, q0, hargs, rfl, rfl, h0, r0⟩ := trodAll_cons hA
 obtain ⟨v1, vs1, d1, ds1, p1, q1, rfl, rfl, rfl, h1, r1⟩ := trodAll_cons r0
 obtain ⟨rfl, rfl, rfl⟩ := trodAll_nil r1
 obtain rfl : args = #[v0, v1] := by cases args; simp_all
 obtain ⟨rfl, rfl⟩ := trodVars_none hV
 rw [Tryz.params15] at hval
 obtain ⟨x0, hx0⟩ := rdb26.val Z5z (hval 0 26 v0 rfl rfl) h0
 obtain ⟨x1, hx1⟩ := rdb3.val ty3 (hval 1 3 v1 rfl rfl) h1
 have hlaw : Zeh x0 x1 = some true := Y4v x0 x1 hx1
 refine (Y42 x0 x1 true hlaw W Zk [v0, v1] (fun _ h => h.elim) ⟨hx0, hx1, trivial⟩).mono ?_
 rintro e W' ⟨v, rfl, hf, hB⟩
 have hv : v = .bool true := Zcv hB
 subst hv
 exact ⟨_, rfl, Y5u (tb := 4) Yc9 (by kernel_rfl) rfl (by kernel_rfl) (by kernel_rfl) hW' rfl hf⟩
set_option maxRecDepth 100000 in
theorem Y3d (os : Os) (started : os.Started) (H : Type) (enc : TypeId × Value → H) :
  ReturnsInHanded {} Tryz.checked os 15 .any (Rows.findHitSpec.pre6 enc Tryz.prog Tryz.f15 Rows.findHitRow.domain false) (Rows.findHitSpec.post enc Tryz.prog Tryz.f15 false true false false) := by
 refine returnsInHanded_of_change (C := Tryz.checked) Y4e started (by kernel_rfl) Tryz.func15
  (ChangeSpec.witness6 (enc := enc) (C := Tryz.checked) false ⟨#[], #[.agg #[(Value.slice none 0 0), (Value.slice none 0 0), (Value.slice none 0 0), (Value.slice none 0 0), (Value.slice none 0 0)], Value.int IntKind.i64 0], []⟩ 64 (by kernel_rfl) (by kernel_rfl) (by kernel_rfl) (by kernel_rfl)) ?_
 intro W base args ds gs before hval hW _ _
 exact Yer H enc W base args ds gs before hval hW
theorem findHit_holds : Rows.FindHitSaid :=
 OpenClaim.holds_of_wide 15 Tryz.f15 rfl rfl rfl rfl rfl rfl rfl ⟨rfl, rfl, rfl, rfl, rfl⟩ rfl rfl rfl rfl rfl (by kernel_rfl) Tryz.func15 Ycx
  (of_decide_eq_true (by kernel_rfl)) (by unfold Func.isWrapper; first | (rw [if_pos (by decide +kernel)]; kernel_rfl) | (rw [if_neg (by decide +kernel)]; exact ⟨rfl, rfl⟩))
  (fun os started H enc _ => Y3d os started H enc)
end Go.Proofs.YtknpgojdkobgjaaGreat.W
