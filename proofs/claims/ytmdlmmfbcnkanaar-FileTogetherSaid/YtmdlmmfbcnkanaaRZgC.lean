/- FileTogether answers true whatever its arguments are: Mend of what Join makes of two files of the same series has each range in those of both. No condition. -/
import Derived.Test.YtmdlmmfbcnkanaaRRows
import Derived.Test.YtmdlmmfbcnkanaaRG1
import Derived.Test.YtmdlmmfbcnkanaaRG2
import Derived.Test.YtmdlmmfbcnkanaaRA4
import Derived.WalkKit
import Derived.ProofKit
import Derived.OpenShut
import Derived.ChangeSame
namespace Go.Proofs.YtmdlmmfbcnkanaaR
open Go.ChangeShapes Go.WideShapes Go.ChangeAt Go.RowKit
theorem own_knob : ownKnob Try.prog.godebug = none := by kernel_rfl

set_option maxRecDepth 100000 in
theorem together_lifted (os : Os) (started : os.Started) (H : Type) (enc : TypeId × Value → H) :
    ReturnsInHanded {} Try.checked os 13 .any (Rows.fileTogetherSpec.pre6 enc Try.prog Try.f13 Rows.fileTogetherRow.domain false) (Rows.fileTogetherSpec.post enc Try.prog Try.f13 false true false false) := by
  refine returnsInHanded_of_change (C := Try.checked) own_knob started (by kernel_rfl) Try.func13
    (ChangeSpec.witness6 (enc := enc) (C := Try.checked) false ⟨#[], #[.agg #[.int .i64 0, .int .i64 0, .slice none 0 0], .slice none 0 0, .slice none 0 0, .int .u8 0], []⟩ 8 (by kernel_rfl) (by kernel_rfl) (by kernel_rfl) (by kernel_rfl)) ?_
  intro W base args ds gs before hval0 hW hcnd _
  have hval : ∀ (j : Nat) t v, Try.f13.params[j]? = some t → args[j]? = some v → Value.okWide Try.prog W .any base t v := hval0
  have hW' := hW
  obtain ⟨p, q, hA0, hV, rfl, hfz_, hdup_⟩ := hW
  have hA : DataW.TrodAll enc Try.prog W 0 (fun _ => true) true Try.f13.params.toList args.toList ds p := hA0
  rw [Try.params13] at hA hval
  have hlt := hA.lt
  obtain ⟨v0, vs0, d0, ds0, p0, q0, e0, rfl, rfl, t0, hA1⟩ := trodAll_cons hA
  obtain ⟨v1, vs1, d1, ds1, p1, q1, rfl, rfl, rfl, t1, hA2⟩ := trodAll_cons hA1
  obtain ⟨v2, vs2, d2, ds2, p2, q2, rfl, rfl, rfl, t2, hA3⟩ := trodAll_cons hA2
  obtain ⟨v3, vs3, d3, ds3, p3, q3, rfl, rfl, rfl, t3, hA4⟩ := trodAll_cons hA3
  obtain ⟨rfl, rfl, rfl⟩ := trodAll_nil hA4
  obtain rfl : args = #[v0, v1, v2, v3] := by apply Array.ext'; rw [e0]
  obtain ⟨rfl, rfl⟩ := trodVars_none hV
  obtain ⟨s, A, c, rfl, hs⟩ := open_series (hval 0 _ _ rfl rfl) t0
  obtain ⟨Aw, lw, cw, rfl, hcw, hw⟩ := open_words (hval 1 _ _ rfl rfl) t1
  obtain ⟨Ao, lo, co, rfl, hco, ho⟩ := open_words (hval 2 _ _ rfl rfl) t2
  obtain ⟨z3, rfl, rfl, rfl, wz3⟩ := open_int Try.underlying5 (hval 3 _ _ rfl rfl) t3
  have bz3 := bounds_u8 wz3
  obtain ⟨by_, hz3⟩ : ∃ n : Nat, z3 = n := ⟨z3.toNat, by omega⟩
  subst hz3
  have hby : by_ < 256 := by omega
  refine (together_wp s A Aw Ao c cw co by_ lw lo W hby hs hw ho).mono fun e W' ⟨he, hb⟩ => ?_
  subst he
  have k0 := carry_trod r24 s24 hb t0 (fun y hy => hlt y (by simp [hy]))
  have k1 := carry_trod r38 s38 hb t1 (fun y hy => hlt y (by simp [hy]))
  have k2 := carry_trod r38 s38 hb t2 (fun y hy => hlt y (by simp [hy]))
  have k3 : DataW.Trod enc Try.prog W' 0 (fun b => decide (b < W.heap.size)) true 5 (.int .u8 by_) (.lit (.int .u8 by_)) [] := ⟨1, trod_int_mk 0 Try.underlying5 wz3⟩
  refine ⟨_, rfl, _, _, _, [], p0 ++ (p1 ++ (p2 ++ ([] ++ []))), [], hW', trodAll_cons_mk (shut_bool Try.underlying4 _) trodAll_mk0, ?_, rfl, hb.frame _, fun h => by cases h⟩
  rw [Try.params13]
  exact trodAll_cons_mk k0 (trodAll_cons_mk k1 (trodAll_cons_mk k2 (trodAll_cons_mk k3 trodAll_mk0)))

theorem together_over : Rows.fileTogetherRow.holds Try.pinned (OpenSpec.ofChange Rows.fileTogetherSpec) :=
  OpenClaim.holds_of_wide 13 Try.f13 rfl rfl rfl rfl rfl rfl rfl ⟨rfl, rfl, rfl, rfl, rfl⟩ rfl rfl rfl rfl rfl (by kernel_rfl) Try.func13 (by kernel_rfl)
    (of_decide_eq_true (by kernel_rfl)) (by unfold Func.isWrapper; first | (rw [if_pos (by decide +kernel)]; kernel_rfl) | (rw [if_neg (by decide +kernel)]; exact ⟨rfl, rfl⟩))
    (fun os started H enc _ => together_lifted os started H enc)

theorem together_holds : Rows.FileTogetherSaid := together_over
#print axioms together_holds
end Go.Proofs.YtmdlmmfbcnkanaaR
