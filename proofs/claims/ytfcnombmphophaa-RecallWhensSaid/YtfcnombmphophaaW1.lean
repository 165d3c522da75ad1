/- Texts for a law of package recall, behind the shared ones, part 1: the law's own contracts and plain words. -/
import Derived.Test.YtfcnombmphophaaJ5

set_option linter.unusedVariables false
set_option maxRecDepth 10000

namespace Go.Proofs.Ytfcnombmphophaa
open Go.RowKit Go.Shelf
theorem min3 (m n : Int) (ty : TypeId) (w : World) : (builtin .min #[3, 3] ty #[false, false] #[.int .i64 m, .int .i64 n]).run Try.prog w = .ok (.value (.int .i64 (min m n))) w := by
  go_simp
  split <;> omega
section
variable {P : Program} {ops : Array Oper} {K : Act → World → Prop} {Kp : Nat → World → World → Prop} {fuel : Nat} {listed : Array Bool} {a : Act} {w : World} {i d : Nat} {ty : TypeId} {pos : String} {aft : Array Edge} {gd : Option (Nat × Bool)} {u u2 v : Value} {y z : Nat} {tys : Array TypeId} {bi : Builtin}
theorem AnyK.bi2t {R : World → Prop} {T : Nat → Bool} (m : May ops Kp listed R T i ⟨some d, .call { callee := .builtin bi, args := #[.tmp y, .tmp z], argTypes := tys }, ty, pos, aft, gd⟩)
    (hy : a.eval (.tmp y) = u) (hz : a.eval (.tmp z) = u2) (hv : ∀ w, (builtin bi tys ty #[false, false] #[u, u2]).run P w = .ok (.value v) w) (hS : R w)
    (h : AnyK P ops K Kp fuel (listed.setIfInBounds i true) (a.put (some d) v) w) (hw : Region.wanted ⟨some d, .call { callee := .builtin bi, args := #[.tmp y, .tmp z], argTypes := tys }, ty, pos, aft, gd⟩ (yielded ops a.tmps) = true := by rfl) : AnyK P ops K Kp (fuel + 1) listed a w :=
  AnyK.take m (.inl ⟨hw, fun w' _ => by
    have := hv w'
    simp [execOp, resolve, invoke, hy, hz, this]⟩) hS h
end
theorem ix49 {b n c : Nat} {i : Nat} (h : i < n) (w : World) : (Instr.indexAt 49 (.slice (some ⟨b, 0, none⟩) n c) (.int .i64 i)).run Try.prog w = .ok (.pointer (some ⟨b, i, none⟩)) w := by
  go_simp
/-- How a list of lists reads. -/
theorem LL.at {W0 W : World} {v : Value} {xs : List (List Int)} (h : LL W0 v xs W) {i : Nat} {x : List Int} (hx : xs[i]? = some x) : ∃ g c A ca, v = .slice (some ⟨g, 0, none⟩) xs.length c ∧ W.cell? ⟨g, i, none⟩ = some (.slice A x.length ca) ∧ IntsAt W W.heap.size A x := by
  obtain ⟨hlow, vs, h1, h2, h3⟩ := h
  have hi : i < xs.length := (List.getElem?_eq_some_iff.1 hx).1
  obtain ⟨g, c, rfl, _, _⟩ := h2.form (by omega)
  have hvi : vs[i]? = some (vs[i]'(by omega)) := List.getElem?_eq_getElem _
  have hr := h3 i _ x hvi hx
  obtain ⟨A, ca, e, _, hA⟩ := (OL.mk hlow hr : OL W0 _ x W).ints
  refine ⟨g, c, A, ca, rfl, ?_, hA⟩
  have := h2.cells (g := g) rfl i _ hvi
  rw [e] at this
  simp only [Addr.add] at this
  split at this
  · rename_i h0
    subst h0
    simpa using this
  · simpa using this
noncomputable def opsWs7 : Array Oper := (Try.f5.body.bind (regionOf 7)).getD #[]
noncomputable def opsWs14 : Array Oper := (Try.f5.body.bind (regionOf 14)).getD #[]
section
attribute [local irreducible] AnyK StepK
set_option maxHeartbeats 2000000 in
theorem regionWs7 {F : Fence} {nF : Nat} (hF : WideF F Try.prog) {Q : Exit → Act → World → Prop} {a : Act} {w : World} {b3 c : Nat} {o t k : Int} {A : Option Addr} {l : List Sale} (hsz : a.tmps.size = 87)
    (t1 : a.eval (.tmp 1) = .int .i64 k) (t2 : a.eval (.tmp 2) = .pointer (some ⟨b3, 0, none⟩)) (hR : RCn b3 o t A l.length c w) (hl : l.length ≤ 12)
    (htr : ∀ W, Below w.heap.size w W → Calls Try.prog 30 #[.agg #[.int .i64 o, .int .i64 t, .slice A l.length c], .bool (inR k 0 (l.length - 1))] W (TxP W t l (inR k 0 (l.length - 1))))
    (hK : ∀ a' W' v, LL w v (if truthsE t l (inR k 0 (l.length - 1)) = 0 then allL t l else []) W' → a'.tmps.size = 87 → a'.defers = a.defers → a'.eval (.tmp 8) = v → a'.eval (.tmp 7) = .int .i64 (truthsE t l (inR k 0 (l.length - 1))) → (∀ e : Nat, e < 27 → e ≠ 7 → e ≠ 8 → a'.eval (.tmp e) = a.eval (.tmp e)) → Q .normal a' W') :
    (Code.region 7 opsWs7 true).wpIn F nF Try.prog Q a w := by
  have hB : Below w.heap.size w w.drew := (Below.refl _ _).drew
  refine region_K (KpR (RCn b3 o t A l.length c) (fun _ => false)) hF (by kernel_rfl) Try.mixed ?_
  change AnyK _ _ _ _ 13 (Array.replicate 13 false) _ _
  have hR1 : RCn b3 o t A l.length c w.drew := hR
  have htr1 := htr w.drew hB
  obtain ⟨rr, hrr⟩ : ∃ rr, inR k 0 (l.length - 1) = rr := ⟨_, rfl⟩
  have hin := in_any k 0 (l.length - 1) w.drew
  rw [hrr] at htr1 hK hin
  have hLb : ∀ W v ys, LL w.drew v ys W → LL w v ys W := fun W v ys h => h.base hB
  clear htr hR
  generalize w.drew = W1 at *
  refine AnyK.load (i := 0) may_o (p := ⟨b3, 0, none⟩) (v := .agg #[.int .i64 o, .int .i64 t, .slice A l.length c]) (by simp [t2]) (fun w hw => ld24 hw) hR1 ?_
  refine AnyK.move (i := 1) may_o (v := .int .i64 k) (by simp [t1]) hR1 ?_
  refine AnyK.field (i := 2) may_o (u := .pointer (some ⟨b3, 0, none⟩)) (v := .pointer (some ⟨b3, 2, none⟩)) (by simp [t2]) (fun w => fa24_2 w) hR1 ?_
  refine AnyK.load (i := 3) may_o (p := ⟨b3, 2, none⟩) (v := .slice A l.length c) (by simp [hsz]) (fun w hw => ld22 hw.2.2) hR1 ?_
  refine AnyK.len (i := 4) may_o (u := .slice A l.length c) (v := .int .i64 l.length) (by simp [hsz]) (ln22 _ _ _ _) rfl hR1 ?_
  refine AnyK.bin (i := 5) may_o (u := .int .i64 l.length) (u' := .int .i64 1) (v := .int .i64 (l.length - 1)) (by simp [hsz]) (by simp) (fun w => sub3 (by omega) (by omega) w) hR1 ?_
  refine AnyK.pick1 (i := 6) (by kernel_rfl) ?_
  refine StepK.call (i := 6) (f := 31) (vs := #[.int .i64 k, .int .i64 0, .int .i64 (l.length - 1)]) rfl (enters_of Try.func31 (by kernel_rfl) rfl) (by simp) (by simp [hsz]) (hin.mono ?_)
  rintro _ _ ⟨rfl, rfl⟩
  refine ⟨_, rfl, fun _ hr => hr, ?_⟩
  refine AnyK.pick1 (i := 7) (by kernel_rfl) ?_
  refine StepK.call (i := 7) (f := 30) (vs := #[.agg #[.int .i64 o, .int .i64 t, .slice A l.length c], .bool rr]) rfl (enters_of Try.func30 (by kernel_rfl) rfl) (by simp) (by simp [hsz]) (htr1.mono ?_)
  rintro _ W4 ⟨v, rfl, hL⟩
  have hk4 : ∀ i u, W1.cell? ⟨b3, i, none⟩ = some u → W4.cell? ⟨b3, i, none⟩ = some u := fun i u h => (hL.low.cell (p := ⟨b3, i, none⟩) (by have := block_lt_of_cell hR1.1; exact this)).trans h
  have hR4 := hR1.of hk4
  refine ⟨_, rfl, fun _ hr => hr.of hk4, ?_⟩
  refine AnyK.move (i := 8) may_o (v := .tuple #[v, .int .i64 (truthsE t l rr)]) (by simp [hsz]) hR4 ?_
  refine AnyK.extract (i := 9) may_o (u := .tuple #[v, .int .i64 (truthsE t l rr)]) (v := v) (by simp [hsz]) (fun w => ex0 _ _ w) hR4 ?_
  refine AnyK.extract (i := 10) may_o (u := .tuple #[v, .int .i64 (truthsE t l rr)]) (v := .int .i64 (truthsE t l rr)) (by simp [hsz]) (fun w => ex1 _ _ w) hR4 ?_
  refine AnyK.assign (i := 11) may_o (v := v) (by simp [hsz]) hR4 ?_
  refine AnyK.assign (i := 12) may_o (v := .int .i64 (truthsE t l rr)) (by simp [hsz]) hR4 ?_
  refine AnyK.done (by kernel_rfl) (hK _ _ v (hLb _ _ _ hL) ?_ ?_ ?_ ?_ ?_)
  · simp only [size_put, hsz]
  · simp only [defers_put]
  · exact (by simp [hsz])
  · exact (by simp [hsz])
  · intro e h1 h2 h3
    iterate 13 refine (ev_ne (by omega)).trans ?_
    rfl
set_option maxHeartbeats 2000000 in
theorem regionWs14 {F : Fence} {nF : Nat} (hF : WideF F Try.prog) {Q : Exit → Act → World → Prop} {a : Act} {w : World} {g n c i b off m cm k : Nat} {lo hi y : Int} (hsz : a.tmps.size = 87)
    (t1 : a.eval (.tmp 1) = .int .i64 k) (t8 : a.eval (.tmp 8) = .slice (some ⟨g, 0, none⟩) n c) (t9 : a.eval (.tmp 9) = .int .i64 lo) (t10 : a.eval (.tmp 10) = .int .i64 hi) (t11 : a.eval (.tmp 11) = .int .i64 i) (hin : i < n) (hkm : k < m)
    (q0 : w.cell? ⟨g, i, none⟩ = some (.slice (some ⟨b, off, none⟩) m cm)) (q1 : w.cell? ⟨b, off + k, none⟩ = some (.int .i64 y))
    (hK : ∀ a' W', Below w.heap.size w W' → a'.tmps.size = 87 → a'.defers = a.defers → a'.eval (.tmp 9) = .int .i64 (min lo y) → a'.eval (.tmp 10) = .int .i64 (max hi y) → (∀ e : Nat, e < 57 → e ≠ 9 → e ≠ 10 → a'.eval (.tmp e) = a.eval (.tmp e)) → Q .normal a' W') :
    (Code.region 14 opsWs14 true).wpIn F nF Try.prog Q a w := by
  have hB : Below w.heap.size w w.drew := (Below.refl _ _).drew
  refine region_K (KpR (fun w => w.cell? ⟨g, i, none⟩ = some (.slice (some ⟨b, off, none⟩) m cm) ∧ w.cell? ⟨b, off + k, none⟩ = some (.int .i64 y)) (fun _ => false)) hF (by kernel_rfl) Try.mixed ?_
  change AnyK _ _ _ _ 20 (Array.replicate 20 false) _ _
  have hR : w.drew.cell? ⟨g, i, none⟩ = some (.slice (some ⟨b, off, none⟩) m cm) ∧ w.drew.cell? ⟨b, off + k, none⟩ = some (.int .i64 y) := ⟨q0, q1⟩
  generalize w.drew = W1 at *
  refine AnyK.move (i := 0) may_o (v := .int .i64 lo) (by simp [t9]) hR ?_
  refine AnyK.move (i := 9) may_o (v := .int .i64 hi) (by simp [t10]) hR ?_
  refine AnyK.move (i := 1) may_o (v := .slice (some ⟨g, 0, none⟩) n c) (by simp [t8]) hR ?_
  refine AnyK.move (i := 2) may_o (v := .int .i64 i) (by simp [t11]) hR ?_
  refine AnyK.index (i := 3) may_o (u := .slice (some ⟨g, 0, none⟩) n c) (u' := .int .i64 i) (v := .pointer (some ⟨g, i, none⟩)) (by simp [hsz]) (by simp [hsz]) (fun w => ix49 hin w) hR ?_
  refine AnyK.load (i := 4) may_o (p := ⟨g, i, none⟩) (v := .slice (some ⟨b, off, none⟩) m cm) (by simp [hsz]) (fun w hw => ld25 hw.1) hR ?_
  refine AnyK.move (i := 5) may_o (v := .int .i64 k) (by simp [t1]) hR ?_
  refine AnyK.index (i := 6) may_o (u := .slice (some ⟨b, off, none⟩) m cm) (u' := .int .i64 k) (v := .pointer (some ⟨b, off + k, none⟩)) (by simp [hsz]) (by simp [hsz]) (fun w => ix25o hkm w) hR ?_
  refine AnyK.load (i := 7) may_o (p := ⟨b, off + k, none⟩) (v := .int .i64 y) (by simp [hsz]) (fun w hw => ld3 hw.2) hR ?_
  refine AnyK.bi2t (i := 8) may_o (u := .int .i64 lo) (u2 := .int .i64 y) (v := .int .i64 (min lo y)) (by simp [hsz]) (by simp [hsz]) (fun w => min3 _ _ _ w) hR ?_
  refine AnyK.move (i := 10) may_o (v := .slice (some ⟨g, 0, none⟩) n c) (by simp [t8]) hR ?_
  refine AnyK.move (i := 11) may_o (v := .int .i64 i) (by simp [t11]) hR ?_
  refine AnyK.index (i := 12) may_o (u := .slice (some ⟨g, 0, none⟩) n c) (u' := .int .i64 i) (v := .pointer (some ⟨g, i, none⟩)) (by simp [hsz]) (by simp [hsz]) (fun w => ix49 hin w) hR ?_
  refine AnyK.load (i := 13) may_o (p := ⟨g, i, none⟩) (v := .slice (some ⟨b, off, none⟩) m cm) (by simp [hsz]) (fun w hw => ld25 hw.1) hR ?_
  refine AnyK.move (i := 14) may_o (v := .int .i64 k) (by simp [t1]) hR ?_
  refine AnyK.index (i := 15) may_o (u := .slice (some ⟨b, off, none⟩) m cm) (u' := .int .i64 k) (v := .pointer (some ⟨b, off + k, none⟩)) (by simp [hsz]) (by simp [hsz]) (fun w => ix25o hkm w) hR ?_
  refine AnyK.load (i := 16) may_o (p := ⟨b, off + k, none⟩) (v := .int .i64 y) (by simp [hsz]) (fun w hw => ld3 hw.2) hR ?_
  refine AnyK.bi2t (i := 17) may_o (u := .int .i64 hi) (u2 := .int .i64 y) (v := .int .i64 (max hi y)) (by simp [hsz]) (by simp [hsz]) (fun w => max3 _ _ _ w) hR ?_
  refine AnyK.assign (i := 18) may_o (v := .int .i64 (min lo y)) (by simp [hsz]) hR ?_
  refine AnyK.assign (i := 19) may_o (v := .int .i64 (max hi y)) (by simp [hsz]) hR ?_
  refine AnyK.done (by kernel_rfl) (hK _ _ hB ?_ ?_ ?_ ?_ ?_)
  · simp only [size_put, hsz]
  · simp only [defers_put]
  · exact (by simp [hsz])
  · exact (by simp [hsz])
  · intro e h1 h2 h3
    iterate 20 refine (ev_ne (by omega)).trans ?_
    rfl
end
end Go.Proofs.Ytfcnombmphophaa
namespace Go.Proofs.Ytfcnombmphophaa
open Go.RowKit Go.Shelf
noncomputable def opsWs0 : Array Oper := (Try.f5.body.bind (regionOf 0)).getD #[]
noncomputable def opsWs1 : Array Oper := (Try.f5.body.bind (regionOf 1)).getD #[]
noncomputable def opsWs2 : Array Oper := (Try.f5.body.bind (regionOf 2)).getD #[]
noncomputable def opsWs3 : Array Oper := (Try.f5.body.bind (regionOf 3)).getD #[]
noncomputable def opsWs4 : Array Oper := (Try.f5.body.bind (regionOf 4)).getD #[]
noncomputable def opsWs5 : Array Oper := (Try.f5.body.bind (regionOf 5)).getD #[]
noncomputable def opsWs6 : Array Oper := (Try.f5.body.bind (regionOf 6)).getD #[]
noncomputable def opsWs8 : Array Oper := (Try.f5.body.bind (regionOf 8)).getD #[]
noncomputable def opsWs9 : Array Oper := (Try.f5.body.bind (regionOf 9)).getD #[]
noncomputable def opsWs10 : Array Oper := (Try.f5.body.bind (regionOf 10)).getD #[]
noncomputable def opsWs11 : Array Oper := (Try.f5.body.bind (regionOf 11)).getD #[]
noncomputable def opsWs12 : Array Oper := (Try.f5.body.bind (regionOf 12)).getD #[]
noncomputable def opsWs13 : Array Oper := (Try.f5.body.bind (regionOf 13)).getD #[]
noncomputable def opsWs15 : Array Oper := (Try.f5.body.bind (regionOf 15)).getD #[]
noncomputable def ws_l : Code := (.seq (.seq (.region 12 opsWs12 false) (.cond (.tmp 54) .skip (.exit 0))) (.seq (.block 1 (.region 14 opsWs14 true)) (.region 13 opsWs13 false)))
noncomputable def ws_e : Code := (.seq (.region 15 opsWs15 false) .ret)
noncomputable def ws_d : Code := (.seq (.region 10 opsWs10 false) (.seq (.seq (.region 11 opsWs11 false) (.block 0 (.loop ws_l))) ws_e))
noncomputable def ws_c : Code := (.seq (.seq (.region 8 opsWs8 false) (.cond (.tmp 39) (.seq (.region 9 opsWs9 false) .ret) .skip)) ws_d)
noncomputable def ws_f : Code := (.seq (.seq (.region 6 opsWs6 false) (.cond (.tmp 26) (.region 7 opsWs7 true) .skip)) ws_c)
noncomputable def ws_b : Code := (.seq (.region 3 opsWs3 false) (.seq (.region 4 opsWs4 false) (.seq (.region 5 opsWs5 false) ws_f)))
noncomputable def code5 : Code := (.seq (.region 0 opsWs0 false) (.seq (.seq (.region 1 opsWs1 false) (.cond (.tmp 14) (.seq (.region 2 opsWs2 false) .ret) .skip)) ws_b))
theorem body5 : Try.f5.body = some code5 := by kernel_rfl
theorem bd46z (w : World) : (Instr.build 46 #[]).run Try.prog w = .ok (.agg #[.int .i64 0, .int .i64 0]) w := by
  go_simp
theorem tried_truths {o t : Int} {l : List Sale} (hv : Valid o t l) (right : Bool) : triedE o t l right = truthsE t l right := by
  have h := all_fits hv
  unfold truthsE
  cases right with
  | false => simp [triedE, hv.fault]
  | true =>
    rw [triedE_valid hv]
    cases hF : fitsB t l with
    | true =>
      have := h.1 hF
      have h2 : ¬ (allL t l).length = 0 := fun e => this (List.eq_nil_of_length_eq_zero e)
      simp [h2]
    | false =>
      have h2 : (allL t l).length = 0 := by
        rcases Nat.eq_zero_or_pos (allL t l).length with e | e
        · exact e
        · have := h.2 (List.ne_nil_of_length_pos e)
          rw [hF] at this
          cases this
      simp [h2]
section
variable {b3 p1 : Nat} {n x y k : Int} {a1 : Act} {W W2 : World}
set_option maxHeartbeats 4000000 in
/-- An error. -/
theorem ws_err (hn : n ≠ 0) (hx : x = 0) (hy : y = 0) (hz_a1 : a1.tmps.size = 87) (hd_a1 : a1.defers = []) (u5 : a1.eval (.tmp 5) = .pointer (some ⟨p1, 0, none⟩)) (u6 : a1.eval (.tmp 6) = .int .i64 n) (u7 : a1.eval (.tmp 7) = .int .i64 n)
    (wr : Whole W2 p1 46 #[.int .i64 x, .int .i64 y]) (hB1 : Below W.heap.size W W2) : ws_c.wpIn Fence.wide 5 Try.prog (bodyPost Try.prog Try.f5 (TP W true)) a1 W2 := by
  have hret : ∀ (a' : Act) (W' : World), a'.defers = [] → a'.eval (.tmp 4) = .bool true → Below W.heap.size W W' → bodyPost Try.prog Try.f5 (TP W true) .ret a' W' := fun a' W' hd h4 hb =>
    bodyPost_ret (v := .bool true) (res1 Try.results5 h4) hd ⟨rfl, hb⟩
  unfold ws_c
  refine wpIn_seq (wpIn_seq (region_p 2 ?_))
  intro K hK
  refine ListK.move (i := 0) (v := .int .i64 n) rfl (by simp [u7]) ?_
  refine ListK.bin (i := 1) (u := .int .i64 n) (u' := .int .i64 0) (v := .bool true) rfl (by simp [hz_a1]) (by simp) (nqT hn _) ?_
  refine ListK.done (hK _ _ ?_)
  clear hK K
  refine wpIn_cond (t := true) (by simp [hz_a1]) ?_
  generalize hA : Act.put _ _ _ = a2
  have hz_a2 : a2.tmps.size = 87 := by rw [← hA]; simp only [size_put, hz_a1]
  have v5 : a2.eval (.tmp 5) = .pointer (some ⟨p1, 0, none⟩) := by rw [← hA]; exact (by simp [u5])
  have v6 : a2.eval (.tmp 6) = .int .i64 n := by rw [← hA]; exact (by simp [u6])
  have v7 : a2.eval (.tmp 7) = .int .i64 n := by rw [← hA]; exact (by simp [u7])
  have hd_a2 : a2.defers = [] := by rw [← hA]; simp only [defers_put, hd_a1]
  clear hA
  refine wpIn_seq (region_p 12 ?_)
  intro K hK
  refine ListK.move (i := 0) (v := .int .i64 n) rfl (by simp [v6]) ?_
  refine ListK.move (i := 1) (v := .int .i64 n) rfl (by simp [v7]) ?_
  refine ListK.bin (i := 2) (u := .int .i64 n) (u' := .int .i64 n) (v := .bool true) rfl (by simp [hz_a2]) (by simp [hz_a2]) (eql27T rfl _) ?_
  refine ListK.move (i := 3) (v := .bool true) rfl (by simp [hz_a2]) ?_
  refine ListK.load (i := 4) (p := ⟨p1, 0, none⟩) (v := .agg #[.int .i64 x, .int .i64 y]) rfl (by simp [v5]) (ld46 ⟨wr.cell 0, wr.cell 1⟩) ?_ (hw := wanted_g (e := 43) (b' := true) rfl (by simp [hz_a2]) rfl)
  refine ListK.bldW (i := 5) (ps := #[]) (v := .agg #[.int .i64 0, .int .i64 0]) rfl (by simp) (bd46z _) ?_ (hw := wanted_g (e := 43) (b' := true) rfl (by simp [hz_a2]) rfl)
  refine ListK.bin (i := 6) (u := .agg #[.int .i64 x, .int .i64 y]) (u' := .agg #[.int .i64 0, .int .i64 0]) (v := .bool true) rfl (by simp [hz_a2]) (by simp [hz_a2]) (eql46S hx hy _) ?_ (hw := wanted_g (e := 43) (b' := true) rfl (by simp [hz_a2]) rfl)
  refine ListK.pick (i := 7) (b := true) (v := .bool true) rfl (by simp [hz_a2]) (by simp [hz_a2]) ?_
  refine ListK.move (i := 8) (v := .bool true) rfl (by simp [hz_a2]) ?_
  refine ListK.call (i := 9) (vs := #[]) rfl (enters_of Try.func16 (by kernel_rfl) rfl) (by simp) (((wakes_any W2)).mono ?_) (hw := wanted_g (e := 48) (b' := true) rfl (by simp [hz_a2]) rfl)
  rintro _ W3 ⟨rfl, hb3⟩
  refine ⟨_, rfl, ?_⟩
  refine ListK.pick (i := 10) (b := true) (v := .bool true) rfl (by simp [hz_a2]) (by simp [hz_a2]) ?_
  refine ListK.assign (i := 11) (v := .bool true) rfl (by simp [hz_a2]) ?_
  refine ListK.done (hK _ _ (wpIn_ret ?_))
  exact hret _ _ (by simp only [defers_put, hd_a2]) (by simp [hz_a2]) (hB1.trans (hb3.mono hB1.size))
end
end Go.Proofs.Ytfcnombmphophaa
namespace Go.Proofs.Ytfcnombmphophaa
open Go.RowKit Go.Shelf
section
variable {b3 p1 g c4 k i : Nat} {a1 : Act} {W W2 : World}
theorem ws13 {lo hi n : Int} {v : Value} {Q : Exit → Act → World → Prop} (hi1 : i < 2000000) (hz_a1 : a1.tmps.size = 87) (hd_a1 : a1.defers = []) (u1 : a1.eval (.tmp 1) = .int .i64 k) (u5 : a1.eval (.tmp 5) = .pointer (some ⟨p1, 0, none⟩)) (u6 : a1.eval (.tmp 6) = .int .i64 n) (u8 : a1.eval (.tmp 8) = v) (u9 : a1.eval (.tmp 9) = .int .i64 lo) (u10 : a1.eval (.tmp 10) = .int .i64 hi) (u11 : a1.eval (.tmp 11) = .int .i64 i)
    (hQ : ∀ a' : Act, a'.tmps.size = 87 → a'.defers = [] → a'.eval (.tmp 1) = .int .i64 k → a'.eval (.tmp 5) = .pointer (some ⟨p1, 0, none⟩) → a'.eval (.tmp 6) = .int .i64 n → a'.eval (.tmp 8) = v → a'.eval (.tmp 9) = .int .i64 lo → a'.eval (.tmp 10) = .int .i64 hi → a'.eval (.tmp 11) = .int .i64 ((i + 1 : Nat) : Int) → Q .normal a' W2) :
    (Code.region 13 opsWs13 false).wpIn Fence.wide 5 Try.prog Q a1 W2 := by
  refine region_p 3 ?_
  intro K hK
  refine ListK.move (i := 0) (v := .int .i64 (i : Int)) rfl (by simp [u11]) ?_
  refine ListK.bin (i := 1) (u := .int .i64 (i : Int)) (u' := .int .i64 1) (v := .int .i64 ((i : Int) + 1)) rfl (by simp [hz_a1]) (by simp) (add3 (by omega) (by omega) _) ?_
  refine ListK.assign (i := 2) (v := .int .i64 ((i + 1 : Nat) : Int)) rfl (by simp [hz_a1]) ?_
  skip
  exact ListK.done (hK _ _ (hQ _ (by simp only [size_put, hz_a1]) (by simp only [defers_put, hd_a1]) (by simp [u1]) (by simp [u5]) (by simp [u6]) (by simp [u8]) (by simp [u9]) (by simp [u10]) (by simp [hz_a1])))
set_option maxHeartbeats 4000000 in
/-- The loop and what follows. -/
theorem ws_tail {o t : Int} {l : List Sale} {W5 : World} {x y : Int} {v : Value} (hv : Valid o t l) (hF : fitsB t l = true) (hk : k < l.length) (hx : x = (whenR t l k).1) (hy : y = (whenR t l k).2) (hz_a1 : a1.tmps.size = 87) (hd_a1 : a1.defers = []) (u1 : a1.eval (.tmp 1) = .int .i64 k) (u5 : a1.eval (.tmp 5) = .pointer (some ⟨p1, 0, none⟩)) (u6 : a1.eval (.tmp 6) = .int .i64 0) (u7 : a1.eval (.tmp 7) = .int .i64 0) (u8 : a1.eval (.tmp 8) = v)
    (wr : Whole W2 p1 46 #[.int .i64 x, .int .i64 y]) (hB1 : Below W.heap.size W W2) (hL : LL W5 v (allL t l) W2) (hlen : (allL t l).length ≤ 1000000) : ws_c.wpIn Fence.wide 5 Try.prog (bodyPost Try.prog Try.f5 (TP W true)) a1 W2 := by
  have hret : ∀ (a' : Act) (W' : World), a'.defers = [] → a'.eval (.tmp 4) = .bool true → Below W.heap.size W W' → bodyPost Try.prog Try.f5 (TP W true) .ret a' W' := fun a' W' hd h4 hb =>
    bodyPost_ret (v := .bool true) (res1 Try.results5 h4) hd ⟨rfl, hb⟩
  obtain ⟨A4, c4, rfl⟩ := hL.form
  obtain ⟨e1, e2⟩ := whens_law hv hF hk
  unfold ws_c
  refine wpIn_seq (wpIn_seq (region_p 2 ?_))
  intro K hK
  refine ListK.move (i := 0) (v := .int .i64 0) rfl (by simp [u7]) ?_
  refine ListK.bin (i := 1) (u := .int .i64 0) (u' := .int .i64 0) (v := .bool false) rfl (by simp [hz_a1]) (by simp) (nqF rfl _) ?_
  refine ListK.done (hK _ _ ?_)
  clear hK K
  refine wpIn_cond (t := false) (by simp [hz_a1]) (wpIn_skip ?_)
  show ws_d.wpIn _ _ _ _ _ _
  unfold ws_d
  generalize hA : Act.put _ _ _ = a2
  have hz_a2 : a2.tmps.size = 87 := by rw [← hA]; simp only [size_put, hz_a1]
  have v1 : a2.eval (.tmp 1) = .int .i64 k := by rw [← hA]; exact (by simp [u1])
  have v5 : a2.eval (.tmp 5) = .pointer (some ⟨p1, 0, none⟩) := by rw [← hA]; exact (by simp [u5])
  have v6 : a2.eval (.tmp 6) = .int .i64 0 := by rw [← hA]; exact (by simp [u6])
  have v8 : a2.eval (.tmp 8) = .slice A4 (allL t l).length c4 := by rw [← hA]; exact (by simp [u8])
  have hd_a2 : a2.defers = [] := by rw [← hA]; simp only [defers_put, hd_a1]
  clear hA
  refine wpIn_seq (region_p 2 ?_)
  intro K hK
  refine ListK.assign (i := 0) (v := .int .i64 101) rfl (by simp) ?_
  refine ListK.assign (i := 1) (v := .int .i64 (-1)) rfl (by simp) ?_
  refine ListK.done (hK _ _ ?_)
  clear hK K
  generalize hA : Act.put _ _ _ = a3
  have hz_a3 : a3.tmps.size = 87 := by rw [← hA]; simp only [size_put, hz_a2]
  have w1 : a3.eval (.tmp 1) = .int .i64 k := by rw [← hA]; exact (by simp [v1])
  have w5 : a3.eval (.tmp 5) = .pointer (some ⟨p1, 0, none⟩) := by rw [← hA]; exact (by simp [v5])
  have w6 : a3.eval (.tmp 6) = .int .i64 0 := by rw [← hA]; exact (by simp [v6])
  have w8 : a3.eval (.tmp 8) = .slice A4 (allL t l).length c4 := by rw [← hA]; exact (by simp [v8])
  have w9 : a3.eval (.tmp 9) = .int .i64 101 := by rw [← hA]; exact (by simp [hz_a2])
  have w10 : a3.eval (.tmp 10) = .int .i64 (-1) := by rw [← hA]; exact (by simp [hz_a2])
  have hd_a3 : a3.defers = [] := by rw [← hA]; simp only [defers_put, hd_a2]
  clear hA
  refine wpIn_seq (wpIn_seq (region_p 1 ?_))
  intro K hK
  refine ListK.assign (i := 0) (v := .int .i64 0) rfl (by simp) ?_
  refine ListK.done (hK _ _ ?_)
  clear hK K
  refine wpIn_block (wpIn_loop (fun a W' => ∃ i : Nat, i ≤ (allL t l).length ∧ Below W2.heap.size W2 W' ∧ a.tmps.size = 87 ∧ a.defers = [] ∧ a.eval (.tmp 1) = .int .i64 k ∧ a.eval (.tmp 5) = .pointer (some ⟨p1, 0, none⟩) ∧ a.eval (.tmp 6) = .int .i64 0 ∧ a.eval (.tmp 8) = .slice A4 (allL t l).length c4 ∧ a.eval (.tmp 9) = .int .i64 (minTo 101 (dayAt t l k) i) ∧ a.eval (.tmp 10) = .int .i64 (maxTo (-1) (dayAt t l k) i) ∧ a.eval (.tmp 11) = .int .i64 i) (fun a _ => (allL t l).length - (intOf (a.eval (.tmp 11))).toNat)
    ⟨0, Nat.zero_le _, Below.refl _ _, (by simp only [size_put, hz_a3]), (by simp only [defers_put, hd_a3]), (by simp [w1]), (by simp [w5]), (by simp [w6]), (by simp [w8]), (by show _ = Value.int .i64 101; exact (by simp [w9])), (by show _ = Value.int .i64 (-1); exact (by simp [w10])), (by simp [hz_a3])⟩ ?_)
  clear hz_a1 hd_a1 u1 u5 u6 u7 u8 hz_a2 hd_a2 v1 v5 v6 v8 hz_a3 hd_a3 w1 w5 w6 w8 w9 w10
  rintro b1 W3 ⟨i, hi, hb, hz_b1, hd_b1, u1, u5, u6, u8, u9, u10, u11⟩
  have hL3 := hL.below hb
  have wr3 := wr.below hb wr.lt
  have hB3 := hB1.trans (hb.mono hB1.size)
  unfold ws_l
  by_cases hil : i < (allL t l).length
  · skip
    have hme : ∀ x : Act, x.eval (.tmp 11) = .int .i64 ((i + 1 : Nat) : Int) → (allL t l).length - (intOf (x.eval (.tmp 11))).toNat < (allL t l).length - (intOf (b1.eval (.tmp 11))).toNat := by
      intro x e
      rw [e, u11]
      simp only [intOf]
      omega
    refine wpIn_seq (wpIn_seq (region_p 4 ?_))
    intro K hK
    refine ListK.move (i := 0) (v := .int .i64 (i : Int)) rfl (by simp [u11]) ?_
    refine ListK.move (i := 1) (v := .slice A4 (allL t l).length c4) rfl (by simp [u8]) ?_
    refine ListK.len (i := 2) (u := .slice A4 (allL t l).length c4) (v := .int .i64 (allL t l).length) rfl (by simp [hz_b1]) (ln49 _ _ _ _ _) rfl ?_
    refine ListK.bin (i := 3) (u := .int .i64 (i : Int)) (u' := .int .i64 (allL t l).length) (v := .bool true) rfl (by simp [hz_b1]) (by simp [hz_b1]) (lssT3 (by omega) _) ?_
    refine ListK.done (hK _ _ ?_)
    clear hK K
    refine wpIn_cond (t := true) (by simp [hz_b1]) (wpIn_skip ?_)
    generalize hA : Act.put _ _ _ = b2
    have hz_b2 : b2.tmps.size = 87 := by rw [← hA]; simp only [size_put, hz_b1]
    have v1 : b2.eval (.tmp 1) = .int .i64 k := by rw [← hA]; exact (by simp [u1])
    have v5 : b2.eval (.tmp 5) = .pointer (some ⟨p1, 0, none⟩) := by rw [← hA]; exact (by simp [u5])
    have v6 : b2.eval (.tmp 6) = .int .i64 0 := by rw [← hA]; exact (by simp [u6])
    have v8 : b2.eval (.tmp 8) = .slice A4 (allL t l).length c4 := by rw [← hA]; exact (by simp [u8])
    have v9 : b2.eval (.tmp 9) = .int .i64 (minTo 101 (dayAt t l k) i) := by rw [← hA]; exact (by simp [u9])
    have v10 : b2.eval (.tmp 10) = .int .i64 (maxTo (-1) (dayAt t l k) i) := by rw [← hA]; exact (by simp [u10])
    have v11 : b2.eval (.tmp 11) = .int .i64 (i : Int) := by rw [← hA]; exact (by simp [u11])
    have hd_b2 : b2.defers = [] := by rw [← hA]; simp only [defers_put, hd_b1]
    clear hA
    have hxi : (allL t l)[i]? = some (allL t l)[i] := List.getElem?_eq_getElem hil
    have hxl := ((all_iff hv).1 (List.getElem_mem hil)).1
    obtain ⟨g, c', A5, c5, e, hc, hA⟩ := hL3.at hxi
    cases e
    have hxk : ((allL t l)[i])[k]? = some (((allL t l)[i])[k]'(by omega)) := List.getElem?_eq_getElem _
    obtain ⟨b, off, rfl, _, hcy⟩ := hA k _ hxk
    have hday : ((allL t l)[i])[k]'(by omega) = dayAt t l k i := by
      unfold dayAt
      rw [hxi]
      simp only [Option.getD_some]
      rw [hxk]
      rfl
    rw [hday] at hcy
    refine wpIn_seq (wpIn_block (regionWs14 (wideF_plain _) hz_b2 v1 v8 v9 v10 v11 hil (by omega) hc hcy fun a5 W6 hb6 hz5 hd5 x9 x10 hr => ?_))
    refine ws13 (by omega) hz5 (hd5.trans hd_b2) ((hr 1 (by omega) (by omega) (by omega)).trans v1) ((hr 5 (by omega) (by omega) (by omega)).trans v5) ((hr 6 (by omega) (by omega) (by omega)).trans v6) ((hr 8 (by omega) (by omega) (by omega)).trans v8) x9 x10 ((hr 11 (by omega) (by omega) (by omega)).trans v11) fun a6 h0 h1 h2 h3 h4 h5 h6 h7 h8 => ?_
    exact ⟨⟨i + 1, hil, hb.trans (hb6.mono hb.size), h0, h1, h2, h3, h4, h5, h6, h7, h8⟩, hme _ h8⟩
  · skip
    refine wpIn_seq (wpIn_seq (region_p 4 ?_))
    intro K hK
    refine ListK.move (i := 0) (v := .int .i64 (i : Int)) rfl (by simp [u11]) ?_
    refine ListK.move (i := 1) (v := .slice A4 (allL t l).length c4) rfl (by simp [u8]) ?_
    refine ListK.len (i := 2) (u := .slice A4 (allL t l).length c4) (v := .int .i64 (allL t l).length) rfl (by simp [hz_b1]) (ln49 _ _ _ _ _) rfl ?_
    refine ListK.bin (i := 3) (u := .int .i64 (i : Int)) (u' := .int .i64 (allL t l).length) (v := .bool false) rfl (by simp [hz_b1]) (by simp [hz_b1]) (lssF3 (by omega) _) ?_
    refine ListK.done (hK _ _ ?_)
    clear hK K
    refine wpIn_cond (t := false) (by simp [hz_b1]) (wpIn_exit ?_)
    obtain rfl : i = (allL t l).length := by omega
    rw [e1] at u9
    rw [e2] at u10
    generalize hA : Act.put _ _ _ = b2
    have hz_b2 : b2.tmps.size = 87 := by rw [← hA]; simp only [size_put, hz_b1]
    have v5 : b2.eval (.tmp 5) = .pointer (some ⟨p1, 0, none⟩) := by rw [← hA]; exact (by simp [u5])
    have v6 : b2.eval (.tmp 6) = .int .i64 0 := by rw [← hA]; exact (by simp [u6])
    have v9 : b2.eval (.tmp 9) = .int .i64 (whenR t l k).1 := by rw [← hA]; exact (by simp [u9])
    have v10 : b2.eval (.tmp 10) = .int .i64 (whenR t l k).2 := by rw [← hA]; exact (by simp [u10])
    have hd_b2 : b2.defers = [] := by rw [← hA]; simp only [defers_put, hd_b1]
    clear hA
    show ws_e.wpIn _ _ _ _ _ _
    unfold ws_e
    refine wpIn_seq (region_p 13 ?_)
    intro K hK
    refine ListK.move (i := 0) (v := .int .i64 0) rfl (by simp [v6]) ?_
    refine ListK.bin (i := 1) (u := .int .i64 0) (u' := .int .i64 0) (v := .bool true) rfl (by simp [hz_b2]) (by simp) (eql27T rfl _) ?_
    refine ListK.move (i := 2) (v := .bool true) rfl (by simp [hz_b2]) ?_
    refine ListK.load (i := 3) (p := ⟨p1, 0, none⟩) (v := .agg #[.int .i64 x, .int .i64 y]) rfl (by simp [v5]) (ld46 ⟨wr3.cell 0, wr3.cell 1⟩) ?_ (hw := wanted_g (e := 77) (b' := true) rfl (by simp [hz_b2]) rfl)
    refine ListK.move (i := 4) (v := .int .i64 (whenR t l k).1) rfl (by simp [v9]) ?_ (hw := wanted_g (e := 77) (b' := true) rfl (by simp [hz_b2]) rfl)
    refine ListK.move (i := 5) (v := .int .i64 (whenR t l k).2) rfl (by simp [v10]) ?_ (hw := wanted_g (e := 77) (b' := true) rfl (by simp [hz_b2]) rfl)
    refine ListK.bldW (i := 6) (ps := #[(0, .int .i64 (whenR t l k).1), (1, .int .i64 (whenR t l k).2)]) (v := .agg #[.int .i64 (whenR t l k).1, .int .i64 (whenR t l k).2]) rfl (by simp [hz_b2]) (bd46 _ _ _) ?_ (hw := wanted_g (e := 77) (b' := true) rfl (by simp [hz_b2]) rfl)
    refine ListK.bin (i := 7) (u := .agg #[.int .i64 x, .int .i64 y]) (u' := .agg #[.int .i64 (whenR t l k).1, .int .i64 (whenR t l k).2]) (v := .bool true) rfl (by simp [hz_b2]) (by simp [hz_b2]) (eql46S hx hy _) ?_ (hw := wanted_g (e := 77) (b' := true) rfl (by simp [hz_b2]) rfl)
    refine ListK.pick (i := 8) (b := true) (v := .bool true) rfl (by simp [hz_b2]) (by simp [hz_b2]) ?_
    refine ListK.move (i := 9) (v := .bool true) rfl (by simp [hz_b2]) ?_
    refine ListK.call (i := 10) (vs := #[]) rfl (enters_of Try.func16 (by kernel_rfl) rfl) (by simp) (((wakes_any W3)).mono ?_) (hw := wanted_g (e := 84) (b' := true) rfl (by simp [hz_b2]) rfl)
    rintro _ W7 ⟨rfl, hb7⟩
    refine ⟨_, rfl, ?_⟩
    refine ListK.pick (i := 11) (b := true) (v := .bool true) rfl (by simp [hz_b2]) (by simp [hz_b2]) ?_
    refine ListK.assign (i := 12) (v := .bool true) rfl (by simp [hz_b2]) ?_
    refine ListK.done (hK _ _ (wpIn_ret ?_))
    exact hret _ _ (by simp only [defers_put, hd_b2]) (by simp [hz_b2]) (hB3.trans (hb7.mono hB3.size))
end
end Go.Proofs.Ytfcnombmphophaa
namespace Go.Proofs.Ytfcnombmphophaa
open Go.RowKit Go.Shelf
set_option maxHeartbeats 4000000 in
theorem whens_any (o t : Int) (A : Option Addr) (l : List Sale) (c : Nat) (k : Int) (W : World) (hs : SalesAt W W.heap.size A l) :
    Calls Try.prog 5 #[.agg #[.int .i64 o, .int .i64 t, .slice A l.length c], .int .i64 k] W (TP W true) := by
  refine (callsIn_wide (n := 5)).1 (callsIn_of_wp Try.func5 body5 trivial ?_ rfl)
  obtain ⟨a, ha⟩ : ∃ a : Act, a = { tmps := #[.agg #[.int .i64 o, .int .i64 t, .slice A l.length c], .int .i64 k] ++ Array.replicate (Try.f5.ntmps - (#[.agg #[.int .i64 o, .int .i64 t, .slice A l.length c], .int .i64 k] : Array Value).size) undef, defers := [] } := ⟨_, rfl⟩
  have hsz : a.tmps.size = 87 := by rw [ha]; simp [Try.ntmps5]
  have t0 : a.eval (.tmp 0) = .agg #[.int .i64 o, .int .i64 t, .slice A l.length c] := by rw [ha]; simp [Act.eval]
  have t1 : a.eval (.tmp 1) = .int .i64 k := by rw [ha]; simp [Act.eval]
  have hdf : a.defers = [] := by rw [ha]
  rw [← ha]
  clear ha
  have hret : ∀ (a' : Act) (W' : World), a'.defers = [] → a'.eval (.tmp 4) = .bool true → Below W.heap.size W W' → bodyPost Try.prog Try.f5 (TP W true) .ret a' W' := fun a' W' hd h4 hb =>
    bodyPost_ret (v := .bool true) (res1 Try.results5 h4) hd ⟨rfl, hb⟩
  unfold code5
  refine wpIn_seq (region_p 2 ?_)
  intro K hK
  refine ListK.box (i := 0) (u := .agg #[.int .i64 o, .int .i64 t, .slice A l.length c]) rfl (by simp [t0]) (bx24 W _ _ _ _ _) ?_
  refine ListK.assign (i := 1) (v := .bool false) rfl (by simp) ?_
  refine ListK.done (hK _ _ ?_)
  clear hK K
  have wb := Whole.new W 24 #[.int .i64 o, .int .i64 t, .slice A l.length c]
  have hB1 : Below W.heap.size W (W.alloc (.cells #[.int .i64 o, .int .i64 t, .slice A l.length c] 24)) := (Below.refl _ W).alloc (Nat.le_refl _) _
  have hS1 := hB1.size
  have hlt : W.heap.size < (W.alloc (.cells #[.int .i64 o, .int .i64 t, .slice A l.length c] 24)).heap.size := by simp
  generalize hb3 : W.heap.size = b3 at *
  generalize W.alloc (.cells #[.int .i64 o, .int .i64 t, .slice A l.length c] 24) = W1 at *
  replace hs : SalesAt W1 W1.heap.size A l := (hs.below hB1 (Nat.le_refl _)).more hS1
  generalize hA : Act.put _ _ _ = a1
  have hz_a1 : a1.tmps.size = 87 := by rw [← hA]; simp only [size_put, hsz]
  have u1 : a1.eval (.tmp 1) = .int .i64 k := by rw [← hA]; exact (by simp [t1])
  have u2 : a1.eval (.tmp 2) = .pointer (some ⟨b3, 0, none⟩) := by rw [← hA]; exact (by simp [hsz])
  have hd_a1 : a1.defers = [] := by rw [← hA]; simp only [defers_put, hdf]
  clear hA
  refine wpIn_seq (wpIn_seq (region_p 3 ?_))
  intro K hK
  refine ListK.load (i := 0) (p := ⟨b3, 0, none⟩) (v := .agg #[.int .i64 o, .int .i64 t, .slice A l.length c]) rfl (by simp [u2]) (ld24 ⟨wb.cell 0, wb.cell 1, wb.cell 2⟩) ?_
  refine ListK.call (i := 1) (vs := #[.agg #[.int .i64 o, .int .i64 t, .slice A l.length c]]) rfl (enters_of Try.func28 (by kernel_rfl) rfl) (by simp [hz_a1]) (((few_any o t A l c W1 hs)).mono ?_)
  rintro _ W2 ⟨bb, rfl, hb_t1, hfew⟩
  have hL_t1 := hB1.trans (hb_t1.mono (by have := hB1.size; omega))
  replace hs := (hs.below hb_t1 (Nat.le_refl _)).more hb_t1.size
  replace wb := wb.below hb_t1 wb.lt
  replace hB1 := hL_t1
  replace hlt : b3 < W2.heap.size := wb.lt
  refine ⟨_, rfl, ?_⟩
  refine ListK.un (i := 2) (u := .bool bb) (v := .bool (!bb)) rfl (by simp [hz_a1]) (not4 _ _) ?_
  refine ListK.done (hK _ _ ?_)
  clear hK K
  cases bb with
  | false =>
    refine wpIn_cond (t := true) (by simp [hz_a1]) ?_
    generalize hA : Act.put _ _ _ = a2
    have hz_a2 : a2.tmps.size = 87 := by rw [← hA]; simp only [size_put, hz_a1]
    have v2 : a2.eval (.tmp 2) = .pointer (some ⟨b3, 0, none⟩) := by rw [← hA]; exact (by simp [u2])
    have hd_a2 : a2.defers = [] := by rw [← hA]; simp only [defers_put, hd_a1]
    clear hA
    refine wpIn_seq (region_p 2 ?_)
    intro K hK
    refine ListK.call (i := 0) (vs := #[]) rfl (enters_of Try.func16 (by kernel_rfl) rfl) (by simp) (((wakes_any W2)).mono ?_)
    rintro _ W3 ⟨rfl, hb_t2⟩
    have hL_t2 := hB1.trans (hb_t2.mono (by have := hB1.size; omega))
    replace hs := (hs.below hb_t2 (Nat.le_refl _)).more hb_t2.size
    replace wb := wb.below hb_t2 wb.lt
    replace hB1 := hL_t2
    replace hlt : b3 < W3.heap.size := wb.lt
    refine ⟨_, rfl, ?_⟩
    refine ListK.assign (i := 1) (v := .bool true) rfl (by simp [hz_a2]) ?_
    refine ListK.done (hK _ _ (wpIn_ret ?_))
    exact hret _ _ (by simp only [defers_put, hd_a2]) (by simp [hz_a2]) hB1
  | true =>
    obtain ⟨hl12, hfw⟩ := hfew rfl
    refine wpIn_cond (t := false) (by simp [hz_a1]) (wpIn_skip ?_)
    show ws_b.wpIn _ _ _ _ _ _
    unfold ws_b
    generalize hA : Act.put _ _ _ = a2
    have hz_a2 : a2.tmps.size = 87 := by rw [← hA]; simp only [size_put, hz_a1]
    have v1 : a2.eval (.tmp 1) = .int .i64 k := by rw [← hA]; exact (by simp [u1])
    have v2 : a2.eval (.tmp 2) = .pointer (some ⟨b3, 0, none⟩) := by rw [← hA]; exact (by simp [u2])
    have hd_a2 : a2.defers = [] := by rw [← hA]; simp only [defers_put, hd_a1]
    clear hA
    refine wpIn_seq (region_p 10 ?_)
    intro K hK
    refine ListK.load (i := 0) (p := ⟨b3, 0, none⟩) (v := .agg #[.int .i64 o, .int .i64 t, .slice A l.length c]) rfl (by simp [v2]) (ld24 ⟨wb.cell 0, wb.cell 1, wb.cell 2⟩) ?_
    refine ListK.call (i := 1) (vs := #[.agg #[.int .i64 o, .int .i64 t, .slice A l.length c]]) rfl (enters_of Try.func18 (by kernel_rfl) rfl) (by simp [hz_a2]) (((batch_any o t A l c W2 (by omega) hs)).mono ?_)
    rintro _ W3 ⟨A_t2, c_t2, rfl, hs_t2, hb_t2⟩
    have hL_t2 := hB1.trans (hb_t2.mono (by have := hB1.size; omega))
    replace hs := (hs.below hb_t2 (Nat.le_refl _)).more hb_t2.size
    replace wb := wb.below hb_t2 wb.lt
    replace hB1 := hL_t2
    replace hlt : b3 < W3.heap.size := wb.lt
    refine ⟨_, rfl, ?_⟩
    refine ListK.move (i := 2) (v := .int .i64 k) rfl (by simp [v1]) ?_
    refine ListK.call (i := 3) (vs := #[.agg #[.int .i64 o, .int .i64 t, .slice A_t2 l.length c_t2], .int .i64 k]) rfl (enters_of Try.func29 (by kernel_rfl) rfl) (by simp [hz_a2]) (((when_any o t A_t2 l c_t2 k W3 (by omega) hs_t2)).mono ?_)
    rintro _ W4 ⟨rfl, hb_t3⟩
    have hL_t3 := hB1.trans (hb_t3.mono (by have := hB1.size; omega))
    replace hs := (hs.below hb_t3 (Nat.le_refl _)).more hb_t3.size
    replace wb := wb.below hb_t3 wb.lt
    replace hB1 := hL_t3
    replace hlt : b3 < W4.heap.size := wb.lt
    refine ⟨_, rfl, ?_⟩
    refine ListK.move (i := 4) (v := .tuple #[.agg #[.int .i64 (whenV o t l k).1, .int .i64 (whenV o t l k).2], .int .i64 (whenE o t l k)]) rfl (by simp [hz_a2]) ?_
    refine ListK.extract (i := 5) (u := .tuple #[.agg #[.int .i64 (whenV o t l k).1, .int .i64 (whenV o t l k).2], .int .i64 (whenE o t l k)]) (v := .agg #[.int .i64 (whenV o t l k).1, .int .i64 (whenV o t l k).2]) rfl (by simp [hz_a2]) (ex0 _ _ _) ?_
    refine ListK.extract (i := 6) (u := .tuple #[.agg #[.int .i64 (whenV o t l k).1, .int .i64 (whenV o t l k).2], .int .i64 (whenE o t l k)]) (v := .int .i64 (whenE o t l k)) rfl (by simp [hz_a2]) (ex1 _ _ _) ?_
    refine ListK.alloc (i := 7) rfl (al46 W4) ?_
    refine ListK.store (i := 8) (u := .pointer (some ⟨W4.heap.size, 0, none⟩)) (u' := .agg #[.int .i64 (whenV o t l k).1, .int .i64 (whenV o t l k).2]) rfl (by simp [hz_a2]) (by simp [hz_a2]) sa46 ?_
    refine ListK.assign (i := 9) (v := .int .i64 (whenE o t l k)) rfl (by simp [hz_a2]) ?_
    refine ListK.done (hK _ _ ?_)
    clear hK K
    obtain ⟨w_t4, hb_t4⟩ := put46 W4 ((whenV o t l k).1) ((whenV o t l k).2)
    have hL_t4 := hB1.trans (hb_t4.mono (by have := hB1.size; omega))
    replace hs := (hs.below hb_t4 (Nat.le_refl _)).more hb_t4.size
    replace wb := wb.below hb_t4 wb.lt
    replace hB1 := hL_t4
    generalize W4.heap.size = p_t4 at *
    generalize ((W4.alloc (.cells #[.int .i64 0, .int .i64 0] 46)).setCell ⟨p_t4, 0, none⟩ (.int .i64 ((whenV o t l k).1))).setCell ⟨p_t4, 1, none⟩ (.int .i64 ((whenV o t l k).2)) = W5 at *
    replace hlt : b3 < W5.heap.size := wb.lt
    generalize hA : Act.put _ _ _ = a3
    have hz_a3 : a3.tmps.size = 87 := by rw [← hA]; simp only [size_put, hz_a2]
    have w1 : a3.eval (.tmp 1) = .int .i64 k := by rw [← hA]; exact (by simp [v1])
    have w2 : a3.eval (.tmp 2) = .pointer (some ⟨b3, 0, none⟩) := by rw [← hA]; exact (by simp [v2])
    have w5 : a3.eval (.tmp 5) = .pointer (some ⟨p_t4, 0, none⟩) := by rw [← hA]; exact (by simp [hz_a2])
    have w6 : a3.eval (.tmp 6) = .int .i64 (whenE o t l k) := by rw [← hA]; exact (by simp [hz_a2])
    have hd_a3 : a3.defers = [] := by rw [← hA]; simp only [defers_put, hd_a2]
    clear hA
    refine wpIn_seq (region_p 3 ?_)
    intro K hK
    refine ListK.load (i := 0) (p := ⟨b3, 0, none⟩) (v := .agg #[.int .i64 o, .int .i64 t, .slice A l.length c]) rfl (by simp [w2]) (ld24 ⟨wb.cell 0, wb.cell 1, wb.cell 2⟩) ?_
    refine ListK.call (i := 1) (vs := #[.agg #[.int .i64 o, .int .i64 t, .slice A l.length c]]) rfl (enters_of Try.func21 (by kernel_rfl) rfl) (by simp [hz_a3]) (((lawFault_any o t A l c W5 hl12 hs)).mono ?_)
    rintro _ W6 ⟨rfl, hb_t5⟩
    have hL_t5 := hB1.trans (hb_t5.mono (by have := hB1.size; omega))
    replace hs := (hs.below hb_t5 (Nat.le_refl _)).more hb_t5.size
    replace wb := wb.below hb_t5 wb.lt
    replace w_t4 := w_t4.below hb_t5 w_t4.lt
    replace hB1 := hL_t5
    replace hlt : b3 < W6.heap.size := wb.lt
    refine ⟨_, rfl, ?_⟩
    refine ListK.assign (i := 2) (v := .int .i64 (fault o t l)) rfl (by simp [hz_a3]) ?_
    refine ListK.done (hK _ _ ?_)
    clear hK K
    generalize hA : Act.put _ _ _ = a4
    have hz_a4 : a4.tmps.size = 87 := by rw [← hA]; simp only [size_put, hz_a3]
    have x1 : a4.eval (.tmp 1) = .int .i64 k := by rw [← hA]; exact (by simp [w1])
    have x2 : a4.eval (.tmp 2) = .pointer (some ⟨b3, 0, none⟩) := by rw [← hA]; exact (by simp [w2])
    have x5 : a4.eval (.tmp 5) = .pointer (some ⟨p_t4, 0, none⟩) := by rw [← hA]; exact (by simp [w5])
    have x6 : a4.eval (.tmp 6) = .int .i64 (whenE o t l k) := by rw [← hA]; exact (by simp [w6])
    have x7 : a4.eval (.tmp 7) = .int .i64 (fault o t l) := by rw [← hA]; exact (by simp [hz_a3])
    have hd_a4 : a4.defers = [] := by rw [← hA]; simp only [defers_put, hd_a3]
    clear hA
    refine wpIn_seq (region_p 1 ?_)
    intro K hK
    refine ListK.assign (i := 0) (v := .slice none 0 0) rfl (by simp) ?_
    refine ListK.done (hK _ _ ?_)
    clear hK K
    generalize hA : Act.put _ _ _ = a5
    have hz_a5 : a5.tmps.size = 87 := by rw [← hA]; simp only [size_put, hz_a4]
    have y1 : a5.eval (.tmp 1) = .int .i64 k := by rw [← hA]; exact (by simp [x1])
    have y2 : a5.eval (.tmp 2) = .pointer (some ⟨b3, 0, none⟩) := by rw [← hA]; exact (by simp [x2])
    have y5 : a5.eval (.tmp 5) = .pointer (some ⟨p_t4, 0, none⟩) := by rw [← hA]; exact (by simp [x5])
    have y6 : a5.eval (.tmp 6) = .int .i64 (whenE o t l k) := by rw [← hA]; exact (by simp [x6])
    have y7 : a5.eval (.tmp 7) = .int .i64 (fault o t l) := by rw [← hA]; exact (by simp [x7])
    have y8 : a5.eval (.tmp 8) = .slice none 0 0 := by rw [← hA]; exact (by simp [hz_a4])
    have hd_a5 : a5.defers = [] := by rw [← hA]; simp only [defers_put, hd_a4]
    clear hA
    show ws_f.wpIn _ _ _ _ _ _
    unfold ws_f
    by_cases h0 : fault o t l = 0
    · have hv := valid_of_fault h0
      have hl8 := hv.len
      have hvt := hv.t0
      have hvt1 := hv.t1
      have hmm : ∀ s, s ∈ l → 0 ≤ s.many ∧ s.many ≤ 1000 := fun s hs => by
        have := saleOk_facts (hv.ok s hs)
        omega
      have hdd : ∀ s, s ∈ l → 0 ≤ s.lo ∧ s.hi ≤ 100 := fun s hs => by
        have := saleOk_facts (hv.ok s hs)
        omega
      obtain ⟨h5, hp⟩ := hfw h0
      have hle := allL_le hv h5 hp
      refine wpIn_seq (wpIn_seq (region_p 2 ?_))
      intro K hK
      refine ListK.move (i := 0) (v := .int .i64 (fault o t l)) rfl (by simp [y7]) ?_
      refine ListK.bin (i := 1) (u := .int .i64 (fault o t l)) (u' := .int .i64 0) (v := .bool true) rfl (by simp [hz_a5]) (by simp) (eql27T h0 _) ?_
      refine ListK.done (hK _ _ ?_)
      clear hK K
      refine wpIn_cond (t := true) (by simp [hz_a5]) ?_
      generalize hA : Act.put _ _ _ = a6
      have hz_a6 : a6.tmps.size = 87 := by rw [← hA]; simp only [size_put, hz_a5]
      have z1 : a6.eval (.tmp 1) = .int .i64 k := by rw [← hA]; exact (by simp [y1])
      have z2 : a6.eval (.tmp 2) = .pointer (some ⟨b3, 0, none⟩) := by rw [← hA]; exact (by simp [y2])
      have z5 : a6.eval (.tmp 5) = .pointer (some ⟨p_t4, 0, none⟩) := by rw [← hA]; exact (by simp [y5])
      have z6 : a6.eval (.tmp 6) = .int .i64 (whenE o t l k) := by rw [← hA]; exact (by simp [y6])
      have z7 : a6.eval (.tmp 7) = .int .i64 (fault o t l) := by rw [← hA]; exact (by simp [y7])
      have z8 : a6.eval (.tmp 8) = .slice none 0 0 := by rw [← hA]; exact (by simp [y8])
      have hd_a6 : a6.defers = [] := by rw [← hA]; simp only [defers_put, hd_a5]
      clear hA
      refine regionWs7 (wideF_plain _) hz_a6 z1 z2 ⟨wb.cell 0, wb.cell 1, wb.cell 2⟩ hl12 (fun W' hb => truths_law o t A l c _ W' hl12 (by omega) (by omega) hmm hdd ((hs.below hb (Nat.le_refl _)).more hb.size) (by omega)) (fun a7 W7 v hL hz7 hd7 h8 h7 hr => ?_)
      have hrr := tried_truths hv (inR k 0 (l.length - 1))
      have hE : whenE o t l k = truthsE t l (inR k 0 (l.length - 1)) := hrr
      rw [← hE] at hL h7
      have hL0 := hL.low
      have hB7 := hB1.trans (hL0.mono (by have := hB1.size; omega))
      have hwr := w_t4.below hL0 w_t4.lt
      have q5 := (hr 5 (by omega) (by omega) (by omega)).trans z5
      have q6 := (hr 6 (by omega) (by omega) (by omega)).trans z6
      have q1 := (hr 1 (by omega) (by omega) (by omega)).trans z1
      by_cases hn : whenE o t l k = 0
      · have hir : inR k 0 (l.length - 1) = true := by
          cases hh : inR k 0 (l.length - 1) with
          | true => rfl
          | false =>
            rw [hE, hh] at hn
            simp [truthsE] at hn
        have hk2 := inR_iff.1 hir
        obtain ⟨kn, rfl⟩ : ∃ kn : Nat, k = kn := ⟨k.toNat, by omega⟩
        have hkl : kn < l.length := by omega
        have hF : fitsB t l = true := by
          have := whenE_valid hv hkl
          rw [hn] at this
          split at this
          · assumption
          · omega
        have hV := whenV_valid hv hkl
        rw [hF, if_pos rfl] at hV
        rw [if_pos hn] at hL
        rw [hn] at h7 q6
        exact ws_tail (k := kn) hv hF hkl (by rw [hV]) (by rw [hV]) hz7 (hd7.trans hd_a6) q1 q5 q6 h7 h8 hwr (by rw [hb3]; exact hB7) hL hle
      · have hV : whenV o t l k = (0, 0) := by
          unfold whenV
          rw [if_neg hn]
        exact ws_err (n := whenE o t l k) hn (by rw [hV]) (by rw [hV]) hz7 (hd7.trans hd_a6) q5 q6 h7 hwr (by rw [hb3]; exact hB7)
    · have hE : whenE o t l k = fault o t l := by
        unfold whenE triedE
        rw [if_pos h0]
      have hV : whenV o t l k = (0, 0) := by
        unfold whenV
        rw [if_neg (by rw [hE]; exact h0)]
      refine wpIn_seq (wpIn_seq (region_p 2 ?_))
      intro K hK
      refine ListK.move (i := 0) (v := .int .i64 (fault o t l)) rfl (by simp [y7]) ?_
      refine ListK.bin (i := 1) (u := .int .i64 (fault o t l)) (u' := .int .i64 0) (v := .bool false) rfl (by simp [hz_a5]) (by simp) (eql27F h0 _) ?_
      refine ListK.done (hK _ _ ?_)
      clear hK K
      refine wpIn_cond (t := false) (by simp [hz_a5]) (wpIn_skip ?_)
      generalize hA : Act.put _ _ _ = a6
      have hz_a6 : a6.tmps.size = 87 := by rw [← hA]; simp only [size_put, hz_a5]
      have z5 : a6.eval (.tmp 5) = .pointer (some ⟨p_t4, 0, none⟩) := by rw [← hA]; exact (by simp [y5])
      have z6 : a6.eval (.tmp 6) = .int .i64 (whenE o t l k) := by rw [← hA]; exact (by simp [y6])
      have z7 : a6.eval (.tmp 7) = .int .i64 (fault o t l) := by rw [← hA]; exact (by simp [y7])
      have hd_a6 : a6.defers = [] := by rw [← hA]; simp only [defers_put, hd_a5]
      clear hA
      rw [hE] at z6
      exact ws_err (n := fault o t l) h0 (by rw [hV]) (by rw [hV]) hz_a6 hd_a6 z5 z6 z7 w_t4 (by rw [hb3]; exact hB1)
end Go.Proofs.Ytfcnombmphophaa
