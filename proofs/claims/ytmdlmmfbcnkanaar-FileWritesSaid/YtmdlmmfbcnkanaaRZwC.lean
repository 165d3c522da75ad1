/- FileWrites answers true whatever its arguments are: whether a series is valid, and its file, are as the document says. No condition. -/
import Derived.Test.YtmdlmmfbcnkanaaRRows
import Derived.Test.YtmdlmmfbcnkanaaRW1
import Derived.Test.YtmdlmmfbcnkanaaRA4
import Derived.WalkKit
import Derived.ProofKit
import Derived.OpenShut
import Derived.ChangeSame
namespace Go.Proofs.YtmdlmmfbcnkanaaR
open Go.ChangeShapes Go.WideShapes Go.ChangeAt Go.RowKit
theorem own_knob : ownKnob Try.prog.godebug = none := by kernel_rfl

set_option maxRecDepth 100000 in
theorem writes_lifted (os : Os) (started : os.Started) (H : Type) (enc : TypeId × Value → H) :
    ReturnsInHanded {} Try.checked os 3 .any (Rows.fileWritesSpec.pre6 enc Try.prog Try.f3 Rows.fileWritesRow.domain false) (Rows.fileWritesSpec.post enc Try.prog Try.f3 false true false false) := by
  refine returnsInHanded_of_change (C := Try.checked) own_knob started (by kernel_rfl) Try.func3
    (ChangeSpec.witness6 (enc := enc) (C := Try.checked) false ⟨#[], #[.agg #[.int .i64 0, .int .i64 0, .slice none 0 0]], []⟩ 8 (by kernel_rfl) (by kernel_rfl) (by kernel_rfl) (by kernel_rfl)) ?_
  intro W base args ds gs before hval0 hW hcnd _
  have hval : ∀ (j : Nat) t v, Try.f3.params[j]? = some t → args[j]? = some v → Value.okWide Try.prog W .any base t v := hval0
  have hW' := hW
  obtain ⟨p, q, hA0, hV, rfl, hfz_, hdup_⟩ := hW
  have hA : DataW.TrodAll enc Try.prog W 0 (fun _ => true) true Try.f3.params.toList args.toList ds p := hA0
  rw [Try.params3] at hA hval
  have hlt := hA.lt
  obtain ⟨v0, vs0, d0, ds0, p0, q0, e0, rfl, rfl, t0, hA1⟩ := trodAll_cons hA
  obtain ⟨rfl, rfl, rfl⟩ := trodAll_nil hA1
  obtain rfl : args = #[v0] := by apply Array.ext'; rw [e0]
  obtain ⟨rfl, rfl⟩ := trodVars_none hV
  obtain ⟨s, A, c, rfl, hs⟩ := open_series (hval 0 _ _ rfl rfl) t0
  refine (writes_law s A c W hs).mono fun e W' ⟨he, hb⟩ => ?_
  subst he
  have k0 := carry_trod r24 s24 hb t0 (fun y hy => hlt y (by simp [hy]))
  refine ⟨_, rfl, _, _, _, [], p0 ++ [], [], hW', trodAll_cons_mk (shut_bool Try.underlying4 _) trodAll_mk0, ?_, rfl, hb.frame _, fun h => by cases h⟩
  rw [Try.params3]
  exact trodAll_cons_mk k0 trodAll_mk0

theorem writes_over : Rows.fileWritesRow.holds Try.pinned (OpenSpec.ofChange Rows.fileWritesSpec) :=
  OpenClaim.holds_of_wide 3 Try.f3 rfl rfl rfl rfl rfl rfl rfl ⟨rfl, rfl, rfl, rfl, rfl⟩ rfl rfl rfl rfl rfl (by kernel_rfl) Try.func3 (by kernel_rfl)
    (of_decide_eq_true (by kernel_rfl)) (by unfold Func.isWrapper; first | (rw [if_pos (by decide +kernel)]; kernel_rfl) | (rw [if_neg (by decide +kernel)]; exact ⟨rfl, rfl⟩))
    (fun os started H enc _ => writes_lifted os started H enc)

theorem writes_holds : Rows.FileWritesSaid := writes_over
#print axioms writes_holds
end Go.Proofs.YtmdlmmfbcnkanaaR
