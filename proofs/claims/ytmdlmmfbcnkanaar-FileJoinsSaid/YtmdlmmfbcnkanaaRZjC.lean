/- FileJoins answers true whatever its arguments are: what any two lists of bytes are together, is as the document says, or the error is. No condition. -/
import Derived.Test.YtmdlmmfbcnkanaaRRows
import Derived.Test.YtmdlmmfbcnkanaaRJ2
import Derived.Test.YtmdlmmfbcnkanaaRA4
import Derived.WalkKit
import Derived.ProofKit
import Derived.OpenShut
import Derived.ChangeSame
namespace Go.Proofs.YtmdlmmfbcnkanaaR
open Go.ChangeShapes Go.WideShapes Go.ChangeAt Go.RowKit
theorem own_knob : ownKnob Try.prog.godebug = none := by kernel_rfl

set_option maxRecDepth 100000 in
theorem joins_lifted (os : Os) (started : os.Started) (H : Type) (enc : TypeId × Value → H) :
    ReturnsInHanded {} Try.checked os 11 .any (Rows.fileJoinsSpec.pre6 enc Try.prog Try.f11 Rows.fileJoinsRow.domain false) (Rows.fileJoinsSpec.post enc Try.prog Try.f11 false true false false) := by
  refine returnsInHanded_of_change (C := Try.checked) own_knob started (by kernel_rfl) Try.func11
    (ChangeSpec.witness6 (enc := enc) (C := Try.checked) false ⟨#[], #[.string ⟨#[]⟩, .string ⟨#[]⟩], []⟩ 8 (by kernel_rfl) (by kernel_rfl) (by kernel_rfl) (by kernel_rfl)) ?_
  intro W base args ds gs before hval0 hW hcnd _
  have hval : ∀ (j : Nat) t v, Try.f11.params[j]? = some t → args[j]? = some v → Value.okWide Try.prog W .any base t v := hval0
  have hW' := hW
  obtain ⟨p, q, hA0, hV, rfl, hfz_, hdup_⟩ := hW
  have hA : DataW.TrodAll enc Try.prog W 0 (fun _ => true) true Try.f11.params.toList args.toList ds p := hA0
  rw [Try.params11] at hA hval
  have hlt := hA.lt
  obtain ⟨v0, vs0, d0, ds0, p0, q0, e0, rfl, rfl, t0, hA1⟩ := trodAll_cons hA
  obtain ⟨v1, vs1, d1, ds1, p1, q1, rfl, rfl, rfl, t1, hA2⟩ := trodAll_cons hA1
  obtain ⟨rfl, rfl, rfl⟩ := trodAll_nil hA2
  obtain rfl : args = #[v0, v1] := by apply Array.ext'; rw [e0]
  obtain ⟨rfl, rfl⟩ := trodVars_none hV
  obtain ⟨sb0, rfl, rfl, rfl, hsb0⟩ := Go.ChangeMaps.open_string Try.underlying9 (hval 0 _ _ rfl rfl) t0
  obtain ⟨l, hl0⟩ : ∃ l : List UInt8, sb0 = ⟨l.toArray⟩ := ⟨sb0.data.toList, by simp⟩
  subst hl0
  obtain ⟨sb1, rfl, rfl, rfl, hsb1⟩ := Go.ChangeMaps.open_string Try.underlying9 (hval 1 _ _ rfl rfl) t1
  obtain ⟨l', hl1⟩ : ∃ l : List UInt8, sb1 = ⟨l.toArray⟩ := ⟨sb1.data.toList, by simp⟩
  subst hl1
  refine (joins_wp l l' W).mono fun e W' ⟨he, hb⟩ => ?_
  subst he
  have k0 := Go.ChangeMaps.shut_string (enc := enc) (w := W') (base := 0) (sp := fun b => decide (b < W.heap.size)) (held := true) Try.underlying9 hsb0
  have k1 := Go.ChangeMaps.shut_string (enc := enc) (w := W') (base := 0) (sp := fun b => decide (b < W.heap.size)) (held := true) Try.underlying9 hsb1
  refine ⟨_, rfl, _, _, _, [], [] ++ ([] ++ []), [], hW', trodAll_cons_mk (shut_bool Try.underlying4 _) trodAll_mk0, ?_, rfl, hb.frame _, fun h => by cases h⟩
  rw [Try.params11]
  exact trodAll_cons_mk k0 (trodAll_cons_mk k1 trodAll_mk0)

theorem joins_over : Rows.fileJoinsRow.holds Try.pinned (OpenSpec.ofChange Rows.fileJoinsSpec) :=
  OpenClaim.holds_of_wide 11 Try.f11 rfl rfl rfl rfl rfl rfl rfl ⟨rfl, rfl, rfl, rfl, rfl⟩ rfl rfl rfl rfl rfl (by kernel_rfl) Try.func11 (by kernel_rfl)
    (of_decide_eq_true (by kernel_rfl)) (by unfold Func.isWrapper; first | (rw [if_pos (by decide +kernel)]; kernel_rfl) | (rw [if_neg (by decide +kernel)]; exact ⟨rfl, rfl⟩))
    (fun os started H enc _ => joins_lifted os started H enc)

theorem joins_holds : Rows.FileJoinsSaid := joins_over
#print axioms joins_holds
end Go.Proofs.YtmdlmmfbcnkanaaR
