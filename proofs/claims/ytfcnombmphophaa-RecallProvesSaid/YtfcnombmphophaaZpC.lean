/- RecallProves answers true whatever the batch, the order and the days: CheckBatch gives the document's error, and ProveTruth says whether they are a truth. No condition. -/
import Derived.Test.YtfcnombmphophaaRows
import Derived.Test.YtfcnombmphophaaN6
import Derived.WalkKit
import Derived.ProofKit
import Derived.OpenShut
import Derived.ChangeSame
namespace Go.Proofs.Ytfcnombmphophaa
open Go.ChangeShapes Go.WideShapes Go.ChangeAt Go.RowKit
theorem own_knob : ownKnob Try.prog.godebug = none := by kernel_rfl

set_option maxRecDepth 100000 in
theorem proves_lifted (os : Os) (started : os.Started) (H : Type) (enc : TypeId × Value → H) :
    ReturnsInHanded {} Try.checked os 3 .any (Rows.recallProvesSpec.pre6 enc Try.prog Try.f3 Rows.recallProvesRow.domain false) (Rows.recallProvesSpec.post enc Try.prog Try.f3 false true false false) := by
  refine returnsInHanded_of_change (C := Try.checked) own_knob started (by kernel_rfl) Try.func3
    (ChangeSpec.witness6 (enc := enc) (C := Try.checked) false ⟨#[], #[.agg #[.int .i64 0, .int .i64 0, .slice none 0 0], .slice none 0 0, .slice none 0 0], []⟩ 8 (by kernel_rfl) (by kernel_rfl) (by kernel_rfl) (by kernel_rfl)) ?_
  intro W base args ds gs before hval0 hW hcnd _
  have hval : ∀ (j : Nat) t v, Try.f3.params[j]? = some t → args[j]? = some v → Value.okWide Try.prog W .any base t v := hval0
  have hW' := hW
  obtain ⟨p, q, hA0, hV, rfl, hfz, hnd⟩ := hW
  have hA : DataW.TrodAll enc Try.prog W 0 (fun _ => true) true Try.f3.params.toList args.toList ds p := hA0
  rw [Try.params3] at hA hval
  have hlt := hA.lt
  obtain ⟨v0, vs0, d0, ds0, p0, q0, e0, rfl, rfl, t0, hA1⟩ := trodAll_cons hA
  obtain ⟨v1, vs1, d1, ds1, p1, q1, rfl, rfl, rfl, t1, hA2⟩ := trodAll_cons hA1
  obtain ⟨v2, vs2, d2, ds2, p2, q2, rfl, rfl, rfl, t2, hA3⟩ := trodAll_cons hA2
  obtain ⟨rfl, rfl, rfl⟩ := trodAll_nil hA3
  obtain rfl : args = #[v0, v1, v2] := by apply Array.ext'; rw [e0]
  obtain ⟨rfl, rfl⟩ := trodVars_none hV
  obtain ⟨o, t, A, l, c, rfl, hs⟩ := open_batch (hval 0 _ _ rfl rfl) t0
  obtain ⟨A1, ord, c1, rfl, hc1, h1⟩ := open_nums (hval 1 _ _ rfl rfl) t1
  obtain ⟨A2, dys, c2, rfl, hc2, h2⟩ := open_nums (hval 2 _ _ rfl rfl) t2
  refine (proves_any o t A A1 A2 l ord dys c c1 c2 W hc1 hs h1 h2).mono fun e W' ⟨he, hb⟩ => ?_
  subst he
  have k0 := carry_trod r24 s24 hb t0 (fun y hy => hlt y (by simp [hy]))
  have k1 := carry_trod r25 s25 hb t1 (fun y hy => hlt y (by simp [hy]))
  have k2 := carry_trod r25 s25 hb t2 (fun y hy => hlt y (by simp [hy]))
  refine ⟨_, rfl, _, _, _, [], p0 ++ (p1 ++ (p2 ++ [])), [], hW', trodAll_cons_mk (shut_bool Try.underlying4 _) trodAll_mk0, ?_, rfl, hb.frame _, fun h => by cases h⟩
  rw [Try.params3]
  exact trodAll_cons_mk k0 (trodAll_cons_mk k1 (trodAll_cons_mk k2 trodAll_mk0))

theorem proves_over : Rows.recallProvesRow.holds Try.pinned (OpenSpec.ofChange Rows.recallProvesSpec) :=
  OpenClaim.holds_of_wide 3 Try.f3 rfl rfl rfl rfl rfl rfl rfl ⟨rfl, rfl, rfl, rfl, rfl⟩ rfl rfl rfl rfl rfl (by kernel_rfl) Try.func3 (by kernel_rfl)
    (of_decide_eq_true (by kernel_rfl)) (by unfold Func.isWrapper; first | (rw [if_pos (by decide +kernel)]; kernel_rfl) | (rw [if_neg (by decide +kernel)]; exact ⟨rfl, rfl⟩))
    (fun os started H enc _ => proves_lifted os started H enc)

theorem proves_holds : Rows.RecallProvesSaid := proves_over
#print axioms proves_holds
end Go.Proofs.Ytfcnombmphophaa
