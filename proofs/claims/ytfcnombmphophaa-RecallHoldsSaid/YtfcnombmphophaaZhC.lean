/- RecallHolds answers true whatever its arguments are: what an owner of any batch can have on any evening, and whom a letter reaches, is as the document says, or the error is. No condition. -/
import Derived.Test.YtfcnombmphophaaRows
import Derived.Test.YtfcnombmphophaaHS1
import Derived.Test.YtfcnombmphophaaK5
import Derived.WalkKit
import Derived.ProofKit
import Derived.OpenShut
import Derived.ChangeSame
namespace Go.Proofs.Ytfcnombmphophaa
open Go.ChangeShapes Go.WideShapes Go.ChangeAt Go.RowKit
theorem own_knob : ownKnob Try.prog.godebug = none := by kernel_rfl

set_option maxRecDepth 100000 in
theorem holdson_lifted (os : Os) (started : os.Started) (H : Type) (enc : TypeId × Value → H) :
    ReturnsInHanded {} Try.checked os 6 .any (Rows.recallHoldsSpec.pre6 enc Try.prog Try.f6 Rows.recallHoldsRow.domain false) (Rows.recallHoldsSpec.post enc Try.prog Try.f6 false true false false) := by
  refine returnsInHanded_of_change (C := Try.checked) own_knob started (by kernel_rfl) Try.func6
    (ChangeSpec.witness6 (enc := enc) (C := Try.checked) false ⟨#[], #[.agg #[.int .i64 0, .int .i64 0, .slice none 0 0], .int .i64 0, .int .i64 0], []⟩ 8 (by kernel_rfl) (by kernel_rfl) (by kernel_rfl) (by kernel_rfl)) ?_
  intro W base args ds gs before hval0 hW hcnd _
  have hval : ∀ (j : Nat) t v, Try.f6.params[j]? = some t → args[j]? = some v → Value.okWide Try.prog W .any base t v := hval0
  have hW' := hW
  obtain ⟨p, q, hA0, hV, rfl, hfz_, hdup_⟩ := hW
  have hA : DataW.TrodAll enc Try.prog W 0 (fun _ => true) true Try.f6.params.toList args.toList ds p := hA0
  rw [Try.params6] at hA hval
  have hlt := hA.lt
  obtain ⟨v0, vs0, d0, ds0, p0, q0, e0, rfl, rfl, t0, hA1⟩ := trodAll_cons hA
  obtain ⟨v1, vs1, d1, ds1, p1, q1, rfl, rfl, rfl, t1, hA2⟩ := trodAll_cons hA1
  obtain ⟨v2, vs2, d2, ds2, p2, q2, rfl, rfl, rfl, t2, hA3⟩ := trodAll_cons hA2
  obtain ⟨rfl, rfl, rfl⟩ := trodAll_nil hA3
  obtain rfl : args = #[v0, v1, v2] := by apply Array.ext'; rw [e0]
  obtain ⟨rfl, rfl⟩ := trodVars_none hV
  obtain ⟨o, t, A, l, c, rfl, hs⟩ := open_batch (hval 0 _ _ rfl rfl) t0
  obtain ⟨ow, rfl, rfl, rfl, wo⟩ := open_int Try.underlying3 (hval 1 _ _ rfl rfl) t1
  obtain ⟨on, rfl, rfl, rfl, wn⟩ := open_int Try.underlying3 (hval 2 _ _ rfl rfl) t2
  refine (holds_all o t A l c ow on W hs).mono fun e W' ⟨he, hb⟩ => ?_
  subst he
  have k0 := carry_trod r24 s24 hb t0 (fun y hy => hlt y (by simp [hy]))
  have k1 : DataW.Trod enc Try.prog W' 0 (fun b => decide (b < W.heap.size)) true 3 (.int .i64 ow) (.lit (.int .i64 ow)) [] := ⟨1, trod_int_mk 0 Try.underlying3 wo⟩
  have k2 : DataW.Trod enc Try.prog W' 0 (fun b => decide (b < W.heap.size)) true 3 (.int .i64 on) (.lit (.int .i64 on)) [] := ⟨1, trod_int_mk 0 Try.underlying3 wn⟩
  refine ⟨_, rfl, _, _, _, [], p0 ++ ([] ++ ([] ++ [])), [], hW', trodAll_cons_mk (shut_bool Try.underlying4 _) trodAll_mk0, ?_, rfl, hb.frame _, fun h => by cases h⟩
  rw [Try.params6]
  exact trodAll_cons_mk k0 (trodAll_cons_mk k1 (trodAll_cons_mk k2 trodAll_mk0))

theorem holdson_over : Rows.recallHoldsRow.holds Try.pinned (OpenSpec.ofChange Rows.recallHoldsSpec) :=
  OpenClaim.holds_of_wide 6 Try.f6 rfl rfl rfl rfl rfl rfl rfl ⟨rfl, rfl, rfl, rfl, rfl⟩ rfl rfl rfl rfl rfl (by kernel_rfl) Try.func6 (by kernel_rfl)
    (of_decide_eq_true (by kernel_rfl)) (by unfold Func.isWrapper; first | (rw [if_pos (by decide +kernel)]; kernel_rfl) | (rw [if_neg (by decide +kernel)]; exact ⟨rfl, rfl⟩))
    (fun os started H enc _ => holdson_lifted os started H enc)

theorem holdson_holds : Rows.RecallHoldsSaid := holdson_over
#print axioms holdson_holds
end Go.Proofs.Ytfcnombmphophaa
