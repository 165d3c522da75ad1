/- FileBack answers true whatever its arguments are: all readings of a file are known, and Join of a file with itself, or with a part of it, has the same records. No condition. -/
import Derived.Test.YtmdlmmfbcnkanaaRRows
import Derived.Test.YtmdlmmfbcnkanaaRB1
import Derived.Test.YtmdlmmfbcnkanaaRB2
import Derived.Test.YtmdlmmfbcnkanaaRA4
import Derived.WalkKit
import Derived.ProofKit
import Derived.OpenShut
import Derived.ChangeSame
namespace Go.Proofs.YtmdlmmfbcnkanaaR
open Go.ChangeShapes Go.WideShapes Go.ChangeAt Go.RowKit
theorem own_knob : ownKnob Try.prog.godebug = none := by kernel_rfl

set_option maxRecDepth 100000 in
theorem back_lifted (os : Os) (started : os.Started) (H : Type) (enc : TypeId × Value → H) :
    ReturnsInHanded {} Try.checked os 12 .any (Rows.fileBackSpec.pre6 enc Try.prog Try.f12 Rows.fileBackRow.domain false) (Rows.fileBackSpec.post enc Try.prog Try.f12 false true false false) := by
  refine returnsInHanded_of_change (C := Try.checked) own_knob started (by kernel_rfl) Try.func12
    (ChangeSpec.witness6 (enc := enc) (C := Try.checked) false ⟨#[], #[.agg #[.int .i64 0, .int .i64 0, .slice none 0 0], .slice none 0 0, .int .u8 0], []⟩ 8 (by kernel_rfl) (by kernel_rfl) (by kernel_rfl) (by kernel_rfl)) ?_
  intro W base args ds gs before hval0 hW hcnd _
  have hval : ∀ (j : Nat) t v, Try.f12.params[j]? = some t → args[j]? = some v → Value.okWide Try.prog W .any base t v := hval0
  have hW' := hW
  obtain ⟨p, q, hA0, hV, rfl, hfz_, hdup_⟩ := hW
  have hA : DataW.TrodAll enc Try.prog W 0 (fun _ => true) true Try.f12.params.toList args.toList ds p := hA0
  rw [Try.params12] at hA hval
  have hlt := hA.lt
  obtain ⟨v0, vs0, d0, ds0, p0, q0, e0, rfl, rfl, t0, hA1⟩ := trodAll_cons hA
  obtain ⟨v1, vs1, d1, ds1, p1, q1, rfl, rfl, rfl, t1, hA2⟩ := trodAll_cons hA1
  obtain ⟨v2, vs2, d2, ds2, p2, q2, rfl, rfl, rfl, t2, hA3⟩ := trodAll_cons hA2
  obtain ⟨rfl, rfl, rfl⟩ := trodAll_nil hA3
  obtain rfl : args = #[v0, v1, v2] := by apply Array.ext'; rw [e0]
  obtain ⟨rfl, rfl⟩ := trodVars_none hV
  obtain ⟨s, A, c, rfl, hs⟩ := open_series (hval 0 _ _ rfl rfl) t0
  obtain ⟨Aw, lw, cw, rfl, hcw, hw⟩ := open_words (hval 1 _ _ rfl rfl) t1
  obtain ⟨z2, rfl, rfl, rfl, wz2⟩ := open_int Try.underlying5 (hval 2 _ _ rfl rfl) t2
  have bz2 := bounds_u8 wz2
  obtain ⟨by_, hz2⟩ : ∃ n : Nat, z2 = n := ⟨z2.toNat, by omega⟩
  subst hz2
  have hby : by_ < 256 := by omega
  refine (back_wp s A Aw c cw by_ lw W hby hs hw).mono fun e W' ⟨he, hb⟩ => ?_
  subst he
  have k0 := carry_trod r24 s24 hb t0 (fun y hy => hlt y (by simp [hy]))
  have k1 := carry_trod r38 s38 hb t1 (fun y hy => hlt y (by simp [hy]))
  have k2 : DataW.Trod enc Try.prog W' 0 (fun b => decide (b < W.heap.size)) true 5 (.int .u8 by_) (.lit (.int .u8 by_)) [] := ⟨1, trod_int_mk 0 Try.underlying5 wz2⟩
  refine ⟨_, rfl, _, _, _, [], p0 ++ (p1 ++ ([] ++ [])), [], hW', trodAll_cons_mk (shut_bool Try.underlying4 _) trodAll_mk0, ?_, rfl, hb.frame _, fun h => by cases h⟩
  rw [Try.params12]
  exact trodAll_cons_mk k0 (trodAll_cons_mk k1 (trodAll_cons_mk k2 trodAll_mk0))

theorem back_over : Rows.fileBackRow.holds Try.pinned (OpenSpec.ofChange Rows.fileBackSpec) :=
  OpenClaim.holds_of_wide 12 Try.f12 rfl rfl rfl rfl rfl rfl rfl ⟨rfl, rfl, rfl, rfl, rfl⟩ rfl rfl rfl rfl rfl (by kernel_rfl) Try.func12 (by kernel_rfl)
    (of_decide_eq_true (by kernel_rfl)) (by unfold Func.isWrapper; first | (rw [if_pos (by decide +kernel)]; kernel_rfl) | (rw [if_neg (by decide +kernel)]; exact ⟨rfl, rfl⟩))
    (fun os started H enc _ => back_lifted os started H enc)

theorem back_holds : Rows.FileBackSaid := back_over
#print axioms back_holds
end Go.Proofs.YtmdlmmfbcnkanaaR
