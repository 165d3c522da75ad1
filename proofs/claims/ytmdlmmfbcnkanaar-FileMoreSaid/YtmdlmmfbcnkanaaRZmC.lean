/- FileMore answers true whatever its arguments are: with one more record no range is wider. No condition. -/
import Derived.Test.YtmdlmmfbcnkanaaRRows
import Derived.Test.YtmdlmmfbcnkanaaRM1
import Derived.Test.YtmdlmmfbcnkanaaRA4
import Derived.WalkKit
import Derived.ProofKit
import Derived.OpenShut
import Derived.ChangeSame
namespace Go.Proofs.YtmdlmmfbcnkanaaR
open Go.ChangeShapes Go.WideShapes Go.ChangeAt Go.RowKit
theorem own_knob : ownKnob Try.prog.godebug = none := by kernel_rfl

set_option maxRecDepth 100000 in
theorem more_lifted (os : Os) (started : os.Started) (H : Type) (enc : TypeId × Value → H) :
    ReturnsInHanded {} Try.checked os 6 .any (Rows.fileMoreSpec.pre6 enc Try.prog Try.f6 Rows.fileMoreRow.domain false) (Rows.fileMoreSpec.post enc Try.prog Try.f6 false true false false) := by
  refine returnsInHanded_of_change (C := Try.checked) own_knob started (by kernel_rfl) Try.func6
    (ChangeSpec.witness6 (enc := enc) (C := Try.checked) false ⟨#[], #[.agg #[.int .i64 0, .int .i64 0, .slice none 0 0], .slice none 0 0, .int .u8 0, .bool false, .int .u8 0, .int .u8 0], []⟩ 8 (by kernel_rfl) (by kernel_rfl) (by kernel_rfl) (by kernel_rfl)) ?_
  intro W base args ds gs before hval0 hW hcnd _
  have hval : ∀ (j : Nat) t v, Try.f6.params[j]? = some t → args[j]? = some v → Value.okWide Try.prog W .any base t v := hval0
  have hW' := hW
  obtain ⟨p, q, hA0, hV, rfl, hfz_, hdup_⟩ := hW
  have hA : DataW.TrodAll enc Try.prog W 0 (fun _ => true) true Try.f6.params.toList args.toList ds p := hA0
  rw [Try.params6] at hA hval
  have hlt := hA.lt
  obtain ⟨v0, vs0, d0, ds0, p0, q0, e0, rfl, rfl, t0, hA1⟩ := trodAll_cons hA
  obtain ⟨v1, vs1, d1, ds1, p1, q1, rfl, rfl, rfl, t1, hA2⟩ := trodAll_cons hA1
  obtain ⟨v2, vs2, d2, ds2, p2, q2, rfl, rfl, rfl, t2, hA3⟩ := trodAll_cons hA2
  obtain ⟨v3, vs3, d3, ds3, p3, q3, rfl, rfl, rfl, t3, hA4⟩ := trodAll_cons hA3
  obtain ⟨v4, vs4, d4, ds4, p4, q4, rfl, rfl, rfl, t4, hA5⟩ := trodAll_cons hA4
  obtain ⟨v5, vs5, d5, ds5, p5, q5, rfl, rfl, rfl, t5, hA6⟩ := trodAll_cons hA5
  obtain ⟨rfl, rfl, rfl⟩ := trodAll_nil hA6
  obtain rfl : args = #[v0, v1, v2, v3, v4, v5] := by apply Array.ext'; rw [e0]
  obtain ⟨rfl, rfl⟩ := trodVars_none hV
  obtain ⟨s, A, c, rfl, hs⟩ := open_series (hval 0 _ _ rfl rfl) t0
  obtain ⟨Aw, lw, cw, rfl, hcw, hw⟩ := open_words (hval 1 _ _ rfl rfl) t1
  obtain ⟨z2, rfl, rfl, rfl, wz2⟩ := open_int Try.underlying5 (hval 2 _ _ rfl rfl) t2
  have bz2 := bounds_u8 wz2
  obtain ⟨by_, hz2⟩ : ∃ n : Nat, z2 = n := ⟨z2.toNat, by omega⟩
  subst hz2
  have hby : by_ < 256 := by omega
  obtain ⟨kind, rfl, rfl, rfl⟩ := open_bool Try.underlying4 (hval 3 _ _ rfl rfl) t3
  obtain ⟨z4, rfl, rfl, rfl, wz4⟩ := open_int Try.underlying5 (hval 4 _ _ rfl rfl) t4
  have bz4 := bounds_u8 wz4
  obtain ⟨num, hz4⟩ : ∃ n : Nat, z4 = n := ⟨z4.toNat, by omega⟩
  subst hz4
  have hnum : num < 256 := by omega
  obtain ⟨z5, rfl, rfl, rfl, wz5⟩ := open_int Try.underlying5 (hval 5 _ _ rfl rfl) t5
  have bz5 := bounds_u8 wz5
  obtain ⟨val, hz5⟩ : ∃ n : Nat, z5 = n := ⟨z5.toNat, by omega⟩
  subst hz5
  have hval_ : val < 256 := by omega
  refine (more_wp s A Aw c cw by_ num val kind lw W hby hnum hval_ hs hw).mono fun e W' ⟨he, hb⟩ => ?_
  subst he
  have k0 := carry_trod r24 s24 hb t0 (fun y hy => hlt y (by simp [hy]))
  have k1 := carry_trod r38 s38 hb t1 (fun y hy => hlt y (by simp [hy]))
  have k2 : DataW.Trod enc Try.prog W' 0 (fun b => decide (b < W.heap.size)) true 5 (.int .u8 by_) (.lit (.int .u8 by_)) [] := ⟨1, trod_int_mk 0 Try.underlying5 wz2⟩
  have k3 := shut_bool (enc := enc) (w := W') (base := 0) (spare := fun b => decide (b < W.heap.size)) (held := true) Try.underlying4 kind
  have k4 : DataW.Trod enc Try.prog W' 0 (fun b => decide (b < W.heap.size)) true 5 (.int .u8 num) (.lit (.int .u8 num)) [] := ⟨1, trod_int_mk 0 Try.underlying5 wz4⟩
  have k5 : DataW.Trod enc Try.prog W' 0 (fun b => decide (b < W.heap.size)) true 5 (.int .u8 val) (.lit (.int .u8 val)) [] := ⟨1, trod_int_mk 0 Try.underlying5 wz5⟩
  refine ⟨_, rfl, _, _, _, [], p0 ++ (p1 ++ ([] ++ ([] ++ ([] ++ ([] ++ []))))), [], hW', trodAll_cons_mk (shut_bool Try.underlying4 _) trodAll_mk0, ?_, rfl, hb.frame _, fun h => by cases h⟩
  rw [Try.params6]
  exact trodAll_cons_mk k0 (trodAll_cons_mk k1 (trodAll_cons_mk k2 (trodAll_cons_mk k3 (trodAll_cons_mk k4 (trodAll_cons_mk k5 trodAll_mk0)))))

theorem more_over : Rows.fileMoreRow.holds Try.pinned (OpenSpec.ofChange Rows.fileMoreSpec) :=
  OpenClaim.holds_of_wide 6 Try.f6 rfl rfl rfl rfl rfl rfl rfl ⟨rfl, rfl, rfl, rfl, rfl⟩ rfl rfl rfl rfl rfl (by kernel_rfl) Try.func6 (by kernel_rfl)
    (of_decide_eq_true (by kernel_rfl)) (by unfold Func.isWrapper; first | (rw [if_pos (by decide +kernel)]; kernel_rfl) | (rw [if_neg (by decide +kernel)]; exact ⟨rfl, rfl⟩))
    (fun os started H enc _ => more_lifted os started H enc)

theorem more_holds : Rows.FileMoreSaid := more_over
#print axioms more_holds
end Go.Proofs.YtmdlmmfbcnkanaaR
