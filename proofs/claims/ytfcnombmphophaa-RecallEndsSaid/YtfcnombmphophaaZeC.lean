/- RecallEnds answers true whatever its arguments are: each end of the range that When gives is a truth, one below and one above is none. No condition. -/
import Derived.Test.YtfcnombmphophaaRows
import Derived.Test.YtfcnombmphophaaE1
import Derived.Test.YtfcnombmphophaaH6
import Derived.WalkKit
import Derived.ProofKit
import Derived.OpenShut
import Derived.ChangeSame
namespace Go.Proofs.Ytfcnombmphophaa
open Go.ChangeShapes Go.WideShapes Go.ChangeAt Go.RowKit
theorem own_knob : ownKnob Try.prog.godebug = none := by kernel_rfl

set_option maxRecDepth 100000 in
theorem endson_lifted (os : Os) (started : os.Started) (H : Type) (enc : TypeId × Value → H) :
    ReturnsInHanded {} Try.checked os 9 .any (Rows.recallEndsSpec.pre6 enc Try.prog Try.f9 Rows.recallEndsRow.domain false) (Rows.recallEndsSpec.post enc Try.prog Try.f9 false true false false) := by
  refine returnsInHanded_of_change (C := Try.checked) own_knob started (by kernel_rfl) Try.func9
    (ChangeSpec.witness6 (enc := enc) (C := Try.checked) false ⟨#[], #[.int .u8 0, .int .u16 0, .slice none 0 0, .int .u8 0], []⟩ 8 (by kernel_rfl) (by kernel_rfl) (by kernel_rfl) (by kernel_rfl)) ?_
  intro W base args ds gs before hval0 hW hcnd _
  have hval : ∀ (j : Nat) t v, Try.f9.params[j]? = some t → args[j]? = some v → Value.okWide Try.prog W .any base t v := hval0
  have hW' := hW
  obtain ⟨p, q, hA0, hV, rfl, hfz_, hdup_⟩ := hW
  have hA : DataW.TrodAll enc Try.prog W 0 (fun _ => true) true Try.f9.params.toList args.toList ds p := hA0
  rw [Try.params9] at hA hval
  have hlt := hA.lt
  obtain ⟨v0, vs0, d0, ds0, p0, q0, e0, rfl, rfl, t0, hA1⟩ := trodAll_cons hA
  obtain ⟨v1, vs1, d1, ds1, p1, q1, rfl, rfl, rfl, t1, hA2⟩ := trodAll_cons hA1
  obtain ⟨v2, vs2, d2, ds2, p2, q2, rfl, rfl, rfl, t2, hA3⟩ := trodAll_cons hA2
  obtain ⟨v3, vs3, d3, ds3, p3, q3, rfl, rfl, rfl, t3, hA4⟩ := trodAll_cons hA3
  obtain ⟨rfl, rfl, rfl⟩ := trodAll_nil hA4
  obtain rfl : args = #[v0, v1, v2, v3] := by apply Array.ext'; rw [e0]
  obtain ⟨rfl, rfl⟩ := trodVars_none hV
  obtain ⟨z0, rfl, rfl, rfl, wz0⟩ := open_int Try.underlying5 (hval 0 _ _ rfl rfl) t0
  have bz0 := bounds_u8 wz0
  obtain ⟨no, hz0⟩ : ∃ n : Nat, z0 = n := ⟨z0.toNat, by omega⟩
  subst hz0
  have hno : no < 256 := by omega
  obtain ⟨z1, rfl, rfl, rfl, wz1⟩ := open_int Try.underlying63 (hval 1 _ _ rfl rfl) t1
  have bz1 := bounds_u16 wz1
  obtain ⟨nt, hz1⟩ : ∃ n : Nat, z1 = n := ⟨z1.toNat, by omega⟩
  subst hz1
  have hnt : nt < 65536 := by omega
  obtain ⟨A1, ws, c1, rfl, hc1, h1⟩ := open_words (hval 2 _ _ rfl rfl) t2
  obtain ⟨z3, rfl, rfl, rfl, wz3⟩ := open_int Try.underlying5 (hval 3 _ _ rfl rfl) t3
  have bz3 := bounds_u8 wz3
  obtain ⟨nd, hz3⟩ : ∃ n : Nat, z3 = n := ⟨z3.toNat, by omega⟩
  subst hz3
  have hnd : nd < 256 := by omega
  refine (ends_any no nt nd A1 ws c1 W hno hnt hnd h1).mono fun e W' ⟨he, hb⟩ => ?_
  subst he
  have k0 : DataW.Trod enc Try.prog W' 0 (fun b => decide (b < W.heap.size)) true 5 (.int .u8 no) (.lit (.int .u8 no)) [] := ⟨1, trod_int_mk 0 Try.underlying5 wz0⟩
  have k1 : DataW.Trod enc Try.prog W' 0 (fun b => decide (b < W.heap.size)) true 63 (.int .u16 nt) (.lit (.int .u16 nt)) [] := ⟨1, trod_int_mk 0 Try.underlying63 wz1⟩
  have k2 := carry_trod r64 s64 hb t2 (fun y hy => hlt y (by simp [hy]))
  have k3 : DataW.Trod enc Try.prog W' 0 (fun b => decide (b < W.heap.size)) true 5 (.int .u8 nd) (.lit (.int .u8 nd)) [] := ⟨1, trod_int_mk 0 Try.underlying5 wz3⟩
  refine ⟨_, rfl, _, _, _, [], [] ++ ([] ++ (p2 ++ ([] ++ []))), [], hW', trodAll_cons_mk (shut_bool Try.underlying4 _) trodAll_mk0, ?_, rfl, hb.frame _, fun h => by cases h⟩
  rw [Try.params9]
  exact trodAll_cons_mk k0 (trodAll_cons_mk k1 (trodAll_cons_mk k2 (trodAll_cons_mk k3 trodAll_mk0)))

theorem endson_over : Rows.recallEndsRow.holds Try.pinned (OpenSpec.ofChange Rows.recallEndsSpec) :=
  OpenClaim.holds_of_wide 9 Try.f9 rfl rfl rfl rfl rfl rfl rfl ⟨rfl, rfl, rfl, rfl, rfl⟩ rfl rfl rfl rfl rfl (by kernel_rfl) Try.func9 (by kernel_rfl)
    (of_decide_eq_true (by kernel_rfl)) (by unfold Func.isWrapper; first | (rw [if_pos (by decide +kernel)]; kernel_rfl) | (rw [if_neg (by decide +kernel)]; exact ⟨rfl, rfl⟩))
    (fun os started H enc _ => endson_lifted os started H enc)

theorem endson_holds : Rows.RecallEndsSaid := endson_over
#print axioms endson_holds
end Go.Proofs.Ytfcnombmphophaa
