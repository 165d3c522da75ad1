/- Texts for a law of package recall, behind the shared ones, part 1: the law's own contracts and plain words. -/
import Derived.Test.YtfcnombmphophaaG4

set_option linter.unusedVariables false

namespace Go.Proofs.Ytfcnombmphophaa
open Go.RowKit Go.Shelf
theorem WiderB.tru {t t' : Int} {l l' : List Sale} (h : WiderB t l t' l') {ps : List (Nat × Int)} (hp : TruP t l ps) : TruP t' l' ps := by
  obtain ⟨a, b⟩ := tru_iff.1 hp
  refine tru_iff.2 ⟨by rw [h.len]; exact a, ?_⟩
  have := go_map (l := l) (l' := l') (f := fun p => p) (n := 0) (st' := upd (fun _ => 0) 0 t') (x' := 0) (fun p => ⟨(h.at_ p.1).1, (h.at_ p.1).2.1, (h.at_ p.1).2.2.1⟩) (fun p => by simp) (fun p _ h1 h2 => by have := h.at_ p.1; omega) (fun i => by
    have := h.tot
    unfold upd
    split <;> omega) (fun p _ hx => by omega) b
  rwa [List.map_id'] at this
theorem wider_when {o t t' : Int} {l l' : List Sale} (hv : Valid o t l) (hv' : Valid o t' l') (h : WiderB t l t' l') (hf : fitsB t l = true) {k : Nat} (hk : k < l.length) : fitsB t' l' = true ∧ (whenR t' l' k).1 ≤ (whenR t l k).1 ∧ (whenR t l k).2 ≤ (whenR t' l' k).2 := by
  obtain ⟨ps, hps⟩ := (fits_tru hv).1 hf
  have hf' := (fits_tru hv').2 ⟨ps, h.tru hps⟩
  obtain ⟨_, ⟨ps1, a1, a2⟩, qs1, b1, b2⟩ := when_in hv hf hk
  obtain ⟨k1, _, _⟩ := when_in hv' hf' (k := k) (by rw [h.len]; exact hk)
  have := k1 _ ⟨ps1, h.tru a1, a2⟩
  have := k1 _ ⟨qs1, h.tru b1, b2⟩
  exact ⟨hf', by omega, by omega⟩
end Go.Proofs.Ytfcnombmphophaa
namespace Go.Proofs.Ytfcnombmphophaa
open Go.RowKit Go.Shelf
/-- Two days are written. -/
def putDays (W : World) (g o : Nat) (x y : Int) : World := (W.setCell ⟨g, o, none⟩ (.int .i64 x)).setCell ⟨g, o + 1, none⟩ (.int .i64 y)
section
attribute [local irreducible] AnyK StepK
end
end Go.Proofs.Ytfcnombmphophaa
namespace Go.Proofs.Ytfcnombmphophaa
open Go.RowKit Go.Shelf
theorem own_some {w : World} {B n c2 : Nat} {A2 : Option Addr} {xs : List Value} (h : w.ownsRow B 73 5 (.slice A2 n c2) n xs) (hn : 0 < n) : ∃ g, A2 = some ⟨g, 0, none⟩ := by
  rcases h.2 with ⟨e, h0⟩ | ⟨g, cap, cur, e, _⟩
  · omega
  · cases e
    exact ⟨g, rfl⟩
theorem row_days {w : World} {B g n c : Nat} {l : List Sale} (h : w.ownsRow B 73 5 (.slice (some ⟨g, 0, none⟩) n c) n (salesL l)) {k : Nat} {s : Sale} (hk : l[k]? = some s) (x y : Int) :
    (putDays w g (0 + k * 5 + 3) x y).ownsRow B 73 5 (.slice (some ⟨g, 0, none⟩) n c) n (salesL (l.set k (withDays s x y))) := by
  have h1 := row_set h (j := 3) (s' := withDays s x s.hi) (u := .int .i64 x) hk (by omega) rfl
  have hlt := (List.getElem?_eq_some_iff.1 hk).1
  have h2 := row_set h1 (k := k) (j := 4) (s := withDays s x s.hi) (s' := withDays s x y) (u := .int .i64 y) (by rw [List.getElem?_set]; simp [hlt]) (by omega) rfl
  rw [List.set_set] at h2
  unfold putDays
  rw [Nat.zero_add]
  exact h2
section
variable {o t : Int} {A A2 : Option Addr} {l l2 : List Sale} {c c2 : Nat} {n_ on ow : Int} {b3 px B i : Nat} {a1 : Act} {W W1 : World} {Q : Exit → Act → World → Prop}
end
end Go.Proofs.Ytfcnombmphophaa
namespace Go.Proofs.Ytfcnombmphophaa
open Go.RowKit Go.Shelf
theorem quo3r {x y : Operand} {m n r : Int} (h0 : 0 ≤ m) (h1 : 0 < n) (hm : m ≤ 1000000) (hr : m / n = r) (w : World) : (do eqGuard .quo 3 x y (.int .i64 m) (.int .i64 n); binOp .quo 3 (.int .i64 m) (.int .i64 n) : Sem Value).run Try.prog w = .ok (.int .i64 r) w := by
  have h2 : n ≠ 0 := by omega
  have h3 : m.tdiv n = m / n := Int.tdiv_eq_ediv_of_nonneg h0
  have h5 : 0 ≤ m / n := Int.ediv_nonneg h0 (by omega)
  have h6 : m / n ≤ m := Int.ediv_le_self _ h0
  have h4 := IntWalk.i64_in (m / n) (by omega)
  subst hr
  rw [← h3] at h4 ⊢
  go_simp
  rw [h3] at h4
  exact h4
theorem mxc (m n : Int) (ty : TypeId) (w : World) : (builtin .max #[3, 3] ty #[true, false] #[.int .i64 m, .int .i64 n]).run Try.prog w = .ok (.value (.int .i64 (max m n))) w := by
  go_simp
  split <;> omega
theorem mnc (m n : Int) (ty : TypeId) (w : World) : (builtin .min #[3, 3] ty #[true, false] #[.int .i64 m, .int .i64 n]).run Try.prog w = .ok (.value (.int .i64 (min m n))) w := by
  go_simp
  split <;> omega
theorem gtrFx {x y : Operand} {m n : Int} (h : ¬ n < m) (w : World) : (do eqGuard .gtr 3 x y (.int .i64 m) (.int .i64 n); binOp .gtr 3 (.int .i64 m) (.int .i64 n) : Sem Value).run Try.prog w = .ok (.bool false) w := by
  go_simp
section
variable {P : Program} {ops : Array Oper} {K : Act → World → Prop} {Kp : Nat → World → World → Prop} {fuel k : Nat} {listed : Array Bool} {a : Act} {w : World} {i d : Nat} {ty : TypeId} {pos : String} {aft : Array Edge} {gd : Option (Nat × Bool)} {u v x : Value} {y : Nat} {tys : Array TypeId} {bi : Builtin}
theorem AnyK.bi2 {R : World → Prop} {T : Nat → Bool} (m : May ops Kp listed R T i ⟨some d, .call { callee := .builtin bi, args := #[.const x, .tmp y], argTypes := tys }, ty, pos, aft, gd⟩)
    (hy : a.eval (.tmp y) = u) (hv : ∀ w, (builtin bi tys ty #[true, false] #[x, u]).run P w = .ok (.value v) w) (hS : R w)
    (h : AnyK P ops K Kp fuel (listed.setIfInBounds i true) (a.put (some d) v) w) (hw : Region.wanted ⟨some d, .call { callee := .builtin bi, args := #[.const x, .tmp y], argTypes := tys }, ty, pos, aft, gd⟩ (yielded ops a.tmps) = true := by rfl) : AnyK P ops K Kp (fuel + 1) listed a w :=
  AnyK.take m (.inl ⟨hw, fun w' _ => by
    have := hv w'
    simp [execOp, resolve, invoke, hy, this]⟩) hS h
theorem AnyK.conv {R : World → Prop} {T : Nat → Bool} {s t : TypeId} {z : Operand} (m : May ops Kp listed R T i ⟨some d, .convert s t z, ty, pos, aft, gd⟩)
    (hz : a.eval z = u) (hv : ∀ w, (convert s t u).run P w = .ok v w) (hS : R w)
    (h : AnyK P ops K Kp fuel (listed.setIfInBounds i true) (a.put (some d) v) w) (hw : Region.wanted ⟨some d, .convert s t z, ty, pos, aft, gd⟩ (yielded ops a.tmps) = true := by rfl) : AnyK P ops K Kp (fuel + 1) listed a w :=
  AnyK.take m (.inl ⟨hw, fun w' _ => by simp [execOp, hz, hv w']⟩) hS h
theorem ListK.bi2 (hi : ops[i]? = some ⟨some d, .call { callee := .builtin bi, args := #[.const x, .tmp y], argTypes := tys }, ty, pos, aft, gd⟩) (hy : a.eval (.tmp y) = u) (hv : (builtin bi tys ty #[true, false] #[x, u]).run P w = .ok (.value v) w)
    (h : ListK P ops K k (i + 1) (a.put (some d) v) w) (hw : Region.wanted ⟨some d, .call { callee := .builtin bi, args := #[.const x, .tmp y], argTypes := tys }, ty, pos, aft, gd⟩ (yielded ops a.tmps) = true := by rfl) : ListK P ops K (k + 1) i a w :=
  ListK.valW hi hw (by simp [execOp, resolve, invoke, hy, hv]) h
end
theorem st3two {w : World} {b o : Nat} {v : Value} {x y : Int} (h0 : w.cell? ⟨b, o + 1, none⟩ = some v) (f1 : w.frozen? ⟨b, o + 1, none⟩ = false) : (Instr.storeAt 3 (.pointer (some ⟨b, o + 1, none⟩)) (.int .i64 y)).run Try.prog (w.setCell ⟨b, o, none⟩ (.int .i64 x)) = .ok () (putDays w b o x y) := by
  unfold putDays
  go_simp
section
attribute [local irreducible] AnyK StepK
noncomputable def opsWi7 : Array Oper := (Try.f12.body.bind (regionOf 7)).getD #[]
set_option maxRecDepth 10000 in
set_option maxHeartbeats 2000000 in
theorem regionWi7 {F : Fence} {n : Nat} (hF : WideF F Try.prog) {Q : Exit → Act → World → Prop} {a : Act} {w : World} {gx q nb : Nat} {lo hi m4 q4 r4 : Int} (hsz : a.tmps.size = 128)
    (t2 : a.eval (.tmp 2) = .int .u8 nb) (t9 : a.eval (.tmp 9) = .pointer (some ⟨gx, q, none⟩))
    (m0 : w.cell? ⟨gx, q, none⟩ = some (.int .i64 lo)) (m1 : w.cell? ⟨gx, q + 1, none⟩ = some (.int .i64 hi)) (hnb : nb < 256) (hlo : 0 ≤ lo ∧ lo ≤ 100) (hhi : 0 ≤ hi ∧ hi ≤ 100) (hm4 : (↑nb : Int) % 4 = m4) (hq4 : (↑nb : Int) / 4 = q4) (hr4 : q4 % 4 = r4) (hgx : gx < w.heap.size) (hf0 : w.frozen? ⟨gx, q, none⟩ = false) (hf1 : w.frozen? ⟨gx, q + 1, none⟩ = false)
    (hK : ∀ a' W', Below w.heap.size w W' → a'.tmps.size = 128 → a'.defers = a.defers → (∀ e : Nat, e < 42 → a'.eval (.tmp e) = a.eval (.tmp e)) → Q .normal a' (putDays W' gx q (max 0 (lo - m4)) (min 100 (hi + r4)))) :
    (Code.region 7 opsWi7 true).wpIn F n Try.prog Q a w := by
  have hR : (fun w : World => w.cell? ⟨gx, q, none⟩ = some (.int .i64 lo) ∧ w.cell? ⟨gx, q + 1, none⟩ = some (.int .i64 hi)) w.drew := ⟨m0, m1⟩
  have hB : Below w.heap.size w w.drew := (Below.refl _ _).drew
  refine region_K (KpR (fun w => w.cell? ⟨gx, q, none⟩ = some (.int .i64 lo) ∧ w.cell? ⟨gx, q + 1, none⟩ = some (.int .i64 hi)) (fun j => j == 23 || j == 26)) hF (by kernel_rfl) Try.mixed ?_
  change AnyK _ _ _ _ 27 (Array.replicate 27 false) _ _
  generalize w.drew = W at *
  refine AnyK.move (i := 0) (may_free rfl (by kernel_rfl) (by kernel_rfl) (by kernel_rfl)) (v := .pointer (some ⟨gx, q, none⟩)) (by simp [t9]) trivial ?_
  refine AnyK.move (i := 1) (may_free rfl (by kernel_rfl) (by kernel_rfl) (by kernel_rfl)) (v := .pointer (some ⟨gx, q, none⟩)) (by simp [t9]) trivial ?_
  refine AnyK.move (i := 2) (may_free rfl (by kernel_rfl) (by kernel_rfl) (by kernel_rfl)) (v := .pointer (some ⟨gx, q, none⟩)) (by simp [t9]) trivial ?_
  refine AnyK.nilCheck (i := 3) (may_free rfl (by kernel_rfl) (by kernel_rfl) (by kernel_rfl)) (p := ⟨gx, q, none⟩) (by simp [hsz]) trivial ?_
  refine AnyK.field (i := 4) (may_free rfl (by kernel_rfl) (by kernel_rfl) (by kernel_rfl)) (u := .pointer (some ⟨gx, q, none⟩)) (v := .pointer (some ⟨gx, q, none⟩)) (by simp [hsz]) (fun w => fa71_0 w) trivial ?_
  refine AnyK.load (i := 5) may_o (p := ⟨gx, q, none⟩) (v := .int .i64 lo) (by simp [hsz]) (fun w hw => ld3 hw.1) hR ?_
  refine AnyK.move (i := 6) (may_free rfl (by kernel_rfl) (by kernel_rfl) (by kernel_rfl)) (v := .int .u8 nb) (by simp [t2]) trivial ?_
  refine AnyK.conv (i := 7) (may_free rfl (by kernel_rfl) (by kernel_rfl) (by kernel_rfl)) (u := .int .u8 nb) (v := .int .i64 nb) (by simp [hsz]) (fun w => cvu8 hnb w) trivial ?_
  refine AnyK.bin (i := 8) (may_free rfl (by kernel_rfl) (by kernel_rfl) (by kernel_rfl)) (u := .int .i64 nb) (u' := .int .i64 (4)) (v := .int .i64 m4) (by simp [hsz]) (by simp) (fun w => rem3r (by omega) (by omega) hm4 w) trivial ?_
  refine AnyK.bin (i := 9) (may_free rfl (by kernel_rfl) (by kernel_rfl) (by kernel_rfl)) (u := .int .i64 lo) (u' := .int .i64 m4) (v := .int .i64 (lo - m4)) (by simp [hsz]) (by simp [hsz]) (fun w => sub3 (by omega) (by omega) w) trivial ?_
  refine AnyK.bi2 (i := 10) (may_free rfl (by kernel_rfl) (by kernel_rfl) (by kernel_rfl)) (u := .int .i64 (lo - m4)) (v := .int .i64 (max 0 (lo - m4))) (by simp [hsz]) (fun w => mxc _ _ _ w) trivial ?_
  refine AnyK.move (i := 11) (may_free rfl (by kernel_rfl) (by kernel_rfl) (by kernel_rfl)) (v := .pointer (some ⟨gx, q, none⟩)) (by simp [t9]) trivial ?_
  refine AnyK.nilCheck (i := 12) (may_free rfl (by kernel_rfl) (by kernel_rfl) (by kernel_rfl)) (p := ⟨gx, q, none⟩) (by simp [hsz]) trivial ?_
  refine AnyK.field (i := 13) (may_free rfl (by kernel_rfl) (by kernel_rfl) (by kernel_rfl)) (u := .pointer (some ⟨gx, q, none⟩)) (v := .pointer (some ⟨gx, q + 1, none⟩)) (by simp [hsz]) (fun w => fa71_1 w) trivial ?_
  refine AnyK.load (i := 14) may_o (p := ⟨gx, q + 1, none⟩) (v := .int .i64 hi) (by simp [hsz]) (fun w hw => ld3 hw.2) hR ?_
  refine AnyK.move (i := 15) (may_free rfl (by kernel_rfl) (by kernel_rfl) (by kernel_rfl)) (v := .int .u8 nb) (by simp [t2]) trivial ?_
  refine AnyK.conv (i := 16) (may_free rfl (by kernel_rfl) (by kernel_rfl) (by kernel_rfl)) (u := .int .u8 nb) (v := .int .i64 nb) (by simp [hsz]) (fun w => cvu8 hnb w) trivial ?_
  refine AnyK.bin (i := 17) (may_free rfl (by kernel_rfl) (by kernel_rfl) (by kernel_rfl)) (u := .int .i64 nb) (u' := .int .i64 (4)) (v := .int .i64 q4) (by simp [hsz]) (by simp) (fun w => quo3r (by omega) (by omega) (by omega) hq4 w) trivial ?_
  refine AnyK.bin (i := 18) (may_free rfl (by kernel_rfl) (by kernel_rfl) (by kernel_rfl)) (u := .int .i64 q4) (u' := .int .i64 (4)) (v := .int .i64 r4) (by simp [hsz]) (by simp) (fun w => rem3r (by omega) (by omega) hr4 w) trivial ?_
  refine AnyK.bin (i := 19) (may_free rfl (by kernel_rfl) (by kernel_rfl) (by kernel_rfl)) (u := .int .i64 hi) (u' := .int .i64 r4) (v := .int .i64 (hi + r4)) (by simp [hsz]) (by simp [hsz]) (fun w => add3 (by omega) (by omega) w) trivial ?_
  refine AnyK.bi2 (i := 20) (may_free rfl (by kernel_rfl) (by kernel_rfl) (by kernel_rfl)) (u := .int .i64 (hi + r4)) (v := .int .i64 (min 100 (hi + r4))) (by simp [hsz]) (fun w => mnc _ _ _ w) trivial ?_
  refine AnyK.nilCheck (i := 21) (may_free rfl (by kernel_rfl) (by kernel_rfl) (by kernel_rfl)) (p := ⟨gx, q, none⟩) (by simp [hsz]) trivial ?_
  refine AnyK.field (i := 22) (may_free rfl (by kernel_rfl) (by kernel_rfl) (by kernel_rfl)) (u := .pointer (some ⟨gx, q, none⟩)) (v := .pointer (some ⟨gx, q, none⟩)) (by simp [hsz]) (fun w => fa71_0 w) trivial ?_
  refine AnyK.pick1 (i := 23) (by kernel_rfl) ?_
  refine StepK.store (i := 23) (u := .pointer (some ⟨gx, q, none⟩)) (u' := .int .i64 (max 0 (lo - m4))) rfl (by simp [hsz]) (by simp [hsz]) (st3 hR.1 ((hB.frozen (p := ⟨gx, q, none⟩) hgx).trans hf0)) (fun h => by cases h) ?_
  refine AnyK.nilCheck (i := 24) (may_free rfl (by kernel_rfl) (by kernel_rfl) (by kernel_rfl)) (p := ⟨gx, q, none⟩) (by simp [hsz]) trivial ?_
  refine AnyK.field (i := 25) (may_free rfl (by kernel_rfl) (by kernel_rfl) (by kernel_rfl)) (u := .pointer (some ⟨gx, q, none⟩)) (v := .pointer (some ⟨gx, q + 1, none⟩)) (by simp [hsz]) (fun w => fa71_1 w) trivial ?_
  refine AnyK.pick1 (i := 26) (by kernel_rfl) ?_
  refine StepK.store (i := 26) (u := .pointer (some ⟨gx, q + 1, none⟩)) (u' := .int .i64 (min 100 (hi + r4))) rfl (by simp [hsz]) (by simp [hsz]) (st3two hR.2 ((hB.frozen (p := ⟨gx, q + 1, none⟩) hgx).trans hf1)) (fun h => by cases h) ?_
  refine AnyK.done (by kernel_rfl) (hK _ _ hB ?_ ?_ ?_)
  · simp only [size_put, hsz]
  · simp only [defers_put]
  · intro e he
    iterate 25 refine (ev_ne (by omega)).trans ?_
    rfl

end
end Go.Proofs.Ytfcnombmphophaa
namespace Go.Proofs.Ytfcnombmphophaa
open Go.RowKit Go.Shelf
noncomputable def opsWi0 : Array Oper := (Try.f12.body.bind (regionOf 0)).getD #[]
noncomputable def opsWi1 : Array Oper := (Try.f12.body.bind (regionOf 1)).getD #[]
noncomputable def opsWi2 : Array Oper := (Try.f12.body.bind (regionOf 2)).getD #[]
noncomputable def opsWi3 : Array Oper := (Try.f12.body.bind (regionOf 3)).getD #[]
noncomputable def opsWi4 : Array Oper := (Try.f12.body.bind (regionOf 4)).getD #[]
noncomputable def opsWi5 : Array Oper := (Try.f12.body.bind (regionOf 5)).getD #[]
noncomputable def opsWi6 : Array Oper := (Try.f12.body.bind (regionOf 6)).getD #[]
noncomputable def opsWi8 : Array Oper := (Try.f12.body.bind (regionOf 8)).getD #[]
noncomputable def opsWi9 : Array Oper := (Try.f12.body.bind (regionOf 9)).getD #[]
noncomputable def opsWi10 : Array Oper := (Try.f12.body.bind (regionOf 10)).getD #[]
noncomputable def opsWi11 : Array Oper := (Try.f12.body.bind (regionOf 11)).getD #[]
noncomputable def opsWi12 : Array Oper := (Try.f12.body.bind (regionOf 12)).getD #[]
noncomputable def opsWi13 : Array Oper := (Try.f12.body.bind (regionOf 13)).getD #[]
noncomputable def opsWi14 : Array Oper := (Try.f12.body.bind (regionOf 14)).getD #[]
noncomputable def opsWi15 : Array Oper := (Try.f12.body.bind (regionOf 15)).getD #[]
noncomputable def opsWi16 : Array Oper := (Try.f12.body.bind (regionOf 16)).getD #[]
noncomputable def opsWi17 : Array Oper := (Try.f12.body.bind (regionOf 17)).getD #[]
noncomputable def opsWi18 : Array Oper := (Try.f12.body.bind (regionOf 18)).getD #[]
noncomputable def wi_d : Code := (.seq (.region 18 opsWi18 false) .ret)
noncomputable def code12 : Code := (.seq (.region 0 opsWi0 false) (.seq (.seq (.region 1 opsWi1 false) (.cond (.tmp 23) (.seq (.region 2 opsWi2 false) .ret) .skip)) (.seq (.region 3 opsWi3 false) (.seq (.region 4 opsWi4 false) (.seq (.region 5 opsWi5 false) (.seq (.region 6 opsWi6 false) (.seq (.region 7 opsWi7 true) (.seq (.region 8 opsWi8 false) (.seq (.seq (.region 9 opsWi9 false) (.block 0 (.loop (.seq (.seq (.region 10 opsWi10 false) (.cond (.tmp 79) .skip (.exit 0))) (.seq (.block 1 (.seq (.region 12 opsWi12 false) (.seq (.region 13 opsWi13 false) (.seq (.seq (.region 14 opsWi14 false) (.cond (.tmp 97) (.seq (.region 15 opsWi15 false) .ret) .skip)) (.seq (.region 16 opsWi16 false) (.cond (.tmp 126) (.seq (.region 17 opsWi17 false) .ret) .skip)))))) (.region 11 opsWi11 false)))))) wi_d)))))))))
theorem body12 : Try.f12.body = some code12 := by kernel_rfl
theorem saleOf_set {l : List Sale} {k : Nat} {s : Sale} (hk : k < l.length) (j : Nat) : saleOf (l.set k s) j = if j = k then s else saleOf l j := by
  unfold saleOf
  rw [List.getElem?_set]
  by_cases e : k = j
  · subst e
    simp [hk]
  · rw [if_neg e, if_neg (Ne.symm e)]
/-- The batch with wider days, and more pieces. -/
theorem wider_of {o t : Int} {l : List Sale} (hv : Valid o t l) {k : Nat} (hk : k < l.length) {lo hi t2 : Int} (h1 : 0 ≤ lo) (h2 : lo ≤ (saleOf l k).lo) (h3 : (saleOf l k).hi ≤ hi) (h4 : hi ≤ 100) (h5 : t ≤ t2) (h6 : t2 ≤ 1000) : Valid o t2 (l.set k (withDays (saleOf l k) lo hi)) ∧ WiderB t l t2 (l.set k (withDays (saleOf l k) lo hi)) := by
  have hs := saleOf_valid hv hk
  have h0 := hv.t0
  refine ⟨⟨hv.o1, hv.o6, by omega, h6, by rw [List.length_set]; exact hv.len, fun s hs' => ?_⟩, ⟨List.length_set, h5, fun j => ?_⟩⟩
  · rcases List.mem_or_eq_of_mem_set hs' with h | rfl
    · exact hv.ok s h
    · unfold saleOk withDays
      simp [inR]
      omega
  · rw [saleOf_set hk]
    split
    · rename_i e
      rw [e]
      exact ⟨rfl, rfl, rfl, h2, h3⟩
    · exact ⟨rfl, rfl, rfl, Int.le_refl _, Int.le_refl _⟩
/-- The frame in the loop; the memory. -/
def WiF (b3 px i : Nat) (a : Act) : Prop := a.tmps.size = 128 ∧ a.defers = [] ∧ a.eval (.tmp 3) = .pointer (some ⟨b3, 0, none⟩) ∧ a.eval (.tmp 8) = .pointer (some ⟨px, 0, none⟩) ∧ a.eval (.tmp 10) = .int .i64 i
def WiN (W : World) (b3 px : Nat) (o t t2 : Int) (A A2 : Option Addr) (l l2 : List Sale) (c c2 : Nat) (W' : World) : Prop := Below b3 W W' ∧ Whole W' b3 24 #[.int .i64 o, .int .i64 t, .slice A l.length c] ∧ Whole W' px 24 #[.int .i64 o, .int .i64 t2, .slice A2 l2.length c2] ∧ SalesAt W' W'.heap.size A l ∧ SalesAt W' W'.heap.size A2 l2
section
variable {o t t2 : Int} {A A2 : Option Addr} {l l2 : List Sale} {c c2 : Nat} {b3 px i : Nat} {a1 : Act} {W W1 : World} {Q : Exit → Act → World → Prop}
set_option maxRecDepth 10000 in
theorem wi11 (hi : i < l.length) (hl : l.length ≤ 12) (hf : WiF b3 px i a1) (hQ : ∀ a', WiF b3 px (i + 1) a' → Q .normal a' W) : (Code.region 11 opsWi11 false).wpIn Fence.wide 5 Try.prog Q a1 W := by
  obtain ⟨hz_a1, hd_a1, u3, u8, u10⟩ := hf
  refine region_p 3 ?_
  intro K hK
  refine ListK.move (i := 0) (v := .int .i64 i) rfl (by simp [u10]) ?_
  refine ListK.bin (i := 1) (u := .int .i64 i) (u' := .int .i64 1) (v := .int .i64 (i + 1)) rfl (by simp [hz_a1]) (by simp) (add3 (by omega) (by omega) _) ?_
  refine ListK.assign (i := 2) (v := .int .i64 ((i + 1 : Nat) : Int)) rfl (by simp [hz_a1]) ?_
  skip
  exact ListK.done (hK _ _ (hQ _ ⟨(by simp only [size_put, hz_a1]), (by simp only [defers_put, hd_a1]), (by simp [u3]), (by simp [u8]), (by simp [hz_a1])⟩))
set_option maxRecDepth 10000 in
set_option maxHeartbeats 4000000 in
/-- A round of the loop. -/
theorem wi12 (hi : i < l.length) (hl12 : l.length ≤ 12) (hv : Valid o t l) (hv2 : Valid o t2 l2) (hw : WiderB t l t2 l2) (hb3 : W.heap.size = b3) (hf : WiF b3 px i a1) (hm : WiN W b3 px o t t2 A A2 l l2 c c2 W1)
    (hQ : ∀ a' W', WiF b3 px i a' → WiN W b3 px o t t2 A A2 l l2 c c2 W' → Q .normal a' W')
    (hret : ∀ (a' : Act) (W' : World), a'.defers = [] → a'.eval (.tmp 6) = .bool true → Below b3 W W' → Q .ret a' W') :
    (Code.seq (.region 12 opsWi12 false) (.seq (.region 13 opsWi13 false) (.seq (.seq (.region 14 opsWi14 false) (.cond (.tmp 97) (.seq (.region 15 opsWi15 false) .ret) .skip)) (.seq (.region 16 opsWi16 false) (.cond (.tmp 126) (.seq (.region 17 opsWi17 false) .ret) .skip))))).wpIn Fence.wide 5 Try.prog Q a1 W1 := by
  obtain ⟨hz_a1, hd_a1, u3, u8, u10⟩ := hf
  obtain ⟨hB1, wb, wx, hs, hx⟩ := hm
  have hlt := wb.lt
  have hll := hw.len
  have hi2 : i < l2.length := by omega
  refine wpIn_seq (region_p 10 ?_)
  intro K hK
  refine ListK.load (i := 0) (p := ⟨b3, 0, none⟩) (v := .agg #[.int .i64 o, .int .i64 t, .slice A l.length c]) rfl (by simp [u3]) (ld24 ⟨wb.cell 0, wb.cell 1, wb.cell 2⟩) ?_
  refine ListK.call (i := 1) (vs := #[.agg #[.int .i64 o, .int .i64 t, .slice A l.length c]]) rfl (enters_of Try.func18 (by kernel_rfl) rfl) (by simp [hz_a1]) (((batch_any o t A l c W1 (by omega) hs)).mono ?_)
  rintro _ W2 ⟨A_t1, c_t1, rfl, hs_t1, hb_t1⟩
  have hL_t1 := hB1.trans (hb_t1.mono (by have := hB1.size; omega))
  replace hs := (hs.below hb_t1 (Nat.le_refl _)).more hb_t1.size
  replace hx := (hx.below hb_t1 (Nat.le_refl _)).more hb_t1.size
  replace wb := wb.below hb_t1 wb.lt
  replace wx := wx.below hb_t1 wx.lt
  replace hB1 := hL_t1
  replace hlt : b3 < W2.heap.size := wb.lt
  refine ⟨_, rfl, ?_⟩
  refine ListK.move (i := 2) (v := .int .i64 i) rfl (by simp [u10]) ?_
  refine ListK.call (i := 3) (vs := #[.agg #[.int .i64 o, .int .i64 t, .slice A_t1 l.length c_t1], .int .i64 i]) rfl (enters_of Try.func29 (by kernel_rfl) rfl) (by simp [hz_a1]) (((when_any o t A_t1 l c_t1 i W2 (by omega) hs_t1)).mono ?_)
  rintro _ W3 ⟨rfl, hb_t2⟩
  have hL_t2 := hB1.trans (hb_t2.mono (by have := hB1.size; omega))
  replace hs := (hs.below hb_t2 (Nat.le_refl _)).more hb_t2.size
  replace hx := (hx.below hb_t2 (Nat.le_refl _)).more hb_t2.size
  replace wb := wb.below hb_t2 wb.lt
  replace wx := wx.below hb_t2 wx.lt
  replace hB1 := hL_t2
  replace hlt : b3 < W3.heap.size := wb.lt
  refine ⟨_, rfl, ?_⟩
  refine ListK.move (i := 4) (v := .tuple #[.agg #[.int .i64 (whenV o t l i).1, .int .i64 (whenV o t l i).2], .int .i64 (whenE o t l i)]) rfl (by simp [hz_a1]) ?_
  refine ListK.extract (i := 5) (u := .tuple #[.agg #[.int .i64 (whenV o t l i).1, .int .i64 (whenV o t l i).2], .int .i64 (whenE o t l i)]) (v := .agg #[.int .i64 (whenV o t l i).1, .int .i64 (whenV o t l i).2]) rfl (by simp [hz_a1]) (ex0 _ _ _) ?_
  refine ListK.extract (i := 6) (u := .tuple #[.agg #[.int .i64 (whenV o t l i).1, .int .i64 (whenV o t l i).2], .int .i64 (whenE o t l i)]) (v := .int .i64 (whenE o t l i)) rfl (by simp [hz_a1]) (ex1 _ _ _) ?_
  refine ListK.alloc (i := 7) rfl (al46 W3) ?_
  refine ListK.store (i := 8) (u := .pointer (some ⟨W3.heap.size, 0, none⟩)) (u' := .agg #[.int .i64 (whenV o t l i).1, .int .i64 (whenV o t l i).2]) rfl (by simp [hz_a1]) (by simp [hz_a1]) sa46 ?_
  refine ListK.assign (i := 9) (v := .int .i64 (whenE o t l i)) rfl (by simp [hz_a1]) ?_
  refine ListK.done (hK _ _ ?_)
  clear hK K
  obtain ⟨w_t3, hb_t3⟩ := put46 W3 ((whenV o t l i).1) ((whenV o t l i).2)
  have hL_t3 := hB1.trans (hb_t3.mono (by have := hB1.size; omega))
  replace hs := (hs.below hb_t3 (Nat.le_refl _)).more hb_t3.size
  replace hx := (hx.below hb_t3 (Nat.le_refl _)).more hb_t3.size
  replace wb := wb.below hb_t3 wb.lt
  replace wx := wx.below hb_t3 wx.lt
  replace hB1 := hL_t3
  generalize W3.heap.size = p_t3 at *
  generalize ((W3.alloc (.cells #[.int .i64 0, .int .i64 0] 46)).setCell ⟨p_t3, 0, none⟩ (.int .i64 ((whenV o t l i).1))).setCell ⟨p_t3, 1, none⟩ (.int .i64 ((whenV o t l i).2)) = W4 at *
  replace hlt : b3 < W4.heap.size := wb.lt
  generalize hA : Act.put _ _ _ = a2
  have hz_a2 : a2.tmps.size = 128 := by rw [← hA]; simp only [size_put, hz_a1]
  have v3 : a2.eval (.tmp 3) = .pointer (some ⟨b3, 0, none⟩) := by rw [← hA]; exact (by simp [u3])
  have v8 : a2.eval (.tmp 8) = .pointer (some ⟨px, 0, none⟩) := by rw [← hA]; exact (by simp [u8])
  have v10 : a2.eval (.tmp 10) = .int .i64 i := by rw [← hA]; exact (by simp [u10])
  have v11 : a2.eval (.tmp 11) = .pointer (some ⟨p_t3, 0, none⟩) := by rw [← hA]; exact (by simp [hz_a1])
  have v12 : a2.eval (.tmp 12) = .int .i64 (whenE o t l i) := by rw [← hA]; exact (by simp [hz_a1])
  have hd_a2 : a2.defers = [] := by rw [← hA]; simp only [defers_put, hd_a1]
  clear hA
  refine wpIn_seq (region_p 10 ?_)
  intro K hK
  refine ListK.load (i := 0) (p := ⟨px, 0, none⟩) (v := .agg #[.int .i64 o, .int .i64 t2, .slice A2 l2.length c2]) rfl (by simp [v8]) (ld24 ⟨wx.cell 0, wx.cell 1, wx.cell 2⟩) ?_
  refine ListK.call (i := 1) (vs := #[.agg #[.int .i64 o, .int .i64 t2, .slice A2 l2.length c2]]) rfl (enters_of Try.func18 (by kernel_rfl) rfl) (by simp [hz_a2]) (((batch_any o t2 A2 l2 c2 W4 (by omega) hx)).mono ?_)
  rintro _ W5 ⟨A_t4, c_t4, rfl, hs_t4, hb_t4⟩
  have hL_t4 := hB1.trans (hb_t4.mono (by have := hB1.size; omega))
  replace hs := (hs.below hb_t4 (Nat.le_refl _)).more hb_t4.size
  replace hx := (hx.below hb_t4 (Nat.le_refl _)).more hb_t4.size
  replace wb := wb.below hb_t4 wb.lt
  replace wx := wx.below hb_t4 wx.lt
  replace w_t3 := w_t3.below hb_t4 w_t3.lt
  replace hB1 := hL_t4
  replace hlt : b3 < W5.heap.size := wb.lt
  refine ⟨_, rfl, ?_⟩
  refine ListK.move (i := 2) (v := .int .i64 i) rfl (by simp [v10]) ?_
  refine ListK.call (i := 3) (vs := #[.agg #[.int .i64 o, .int .i64 t2, .slice A_t4 l2.length c_t4], .int .i64 i]) rfl (enters_of Try.func29 (by kernel_rfl) rfl) (by simp [hz_a2]) (((when_any o t2 A_t4 l2 c_t4 i W5 (by omega) hs_t4)).mono ?_)
  rintro _ W6 ⟨rfl, hb_t5⟩
  have hL_t5 := hB1.trans (hb_t5.mono (by have := hB1.size; omega))
  replace hs := (hs.below hb_t5 (Nat.le_refl _)).more hb_t5.size
  replace hx := (hx.below hb_t5 (Nat.le_refl _)).more hb_t5.size
  replace wb := wb.below hb_t5 wb.lt
  replace wx := wx.below hb_t5 wx.lt
  replace w_t3 := w_t3.below hb_t5 w_t3.lt
  replace hB1 := hL_t5
  replace hlt : b3 < W6.heap.size := wb.lt
  refine ⟨_, rfl, ?_⟩
  refine ListK.move (i := 4) (v := .tuple #[.agg #[.int .i64 (whenV o t2 l2 i).1, .int .i64 (whenV o t2 l2 i).2], .int .i64 (whenE o t2 l2 i)]) rfl (by simp [hz_a2]) ?_
  refine ListK.extract (i := 5) (u := .tuple #[.agg #[.int .i64 (whenV o t2 l2 i).1, .int .i64 (whenV o t2 l2 i).2], .int .i64 (whenE o t2 l2 i)]) (v := .agg #[.int .i64 (whenV o t2 l2 i).1, .int .i64 (whenV o t2 l2 i).2]) rfl (by simp [hz_a2]) (ex0 _ _ _) ?_
  refine ListK.extract (i := 6) (u := .tuple #[.agg #[.int .i64 (whenV o t2 l2 i).1, .int .i64 (whenV o t2 l2 i).2], .int .i64 (whenE o t2 l2 i)]) (v := .int .i64 (whenE o t2 l2 i)) rfl (by simp [hz_a2]) (ex1 _ _ _) ?_
  refine ListK.alloc (i := 7) rfl (al46 W6) ?_
  refine ListK.store (i := 8) (u := .pointer (some ⟨W6.heap.size, 0, none⟩)) (u' := .agg #[.int .i64 (whenV o t2 l2 i).1, .int .i64 (whenV o t2 l2 i).2]) rfl (by simp [hz_a2]) (by simp [hz_a2]) sa46 ?_
  refine ListK.assign (i := 9) (v := .int .i64 (whenE o t2 l2 i)) rfl (by simp [hz_a2]) ?_
  refine ListK.done (hK _ _ ?_)
  clear hK K
  obtain ⟨w_t6, hb_t6⟩ := put46 W6 ((whenV o t2 l2 i).1) ((whenV o t2 l2 i).2)
  have hL_t6 := hB1.trans (hb_t6.mono (by have := hB1.size; omega))
  replace hs := (hs.below hb_t6 (Nat.le_refl _)).more hb_t6.size
  replace hx := (hx.below hb_t6 (Nat.le_refl _)).more hb_t6.size
  replace wb := wb.below hb_t6 wb.lt
  replace wx := wx.below hb_t6 wx.lt
  replace w_t3 := w_t3.below hb_t6 w_t3.lt
  replace hB1 := hL_t6
  generalize W6.heap.size = p_t6 at *
  generalize ((W6.alloc (.cells #[.int .i64 0, .int .i64 0] 46)).setCell ⟨p_t6, 0, none⟩ (.int .i64 ((whenV o t2 l2 i).1))).setCell ⟨p_t6, 1, none⟩ (.int .i64 ((whenV o t2 l2 i).2)) = W7 at *
  replace hlt : b3 < W7.heap.size := wb.lt
  generalize hA : Act.put _ _ _ = a3
  have hz_a3 : a3.tmps.size = 128 := by rw [← hA]; simp only [size_put, hz_a2]
  have x3 : a3.eval (.tmp 3) = .pointer (some ⟨b3, 0, none⟩) := by rw [← hA]; exact (by simp [v3])
  have x8 : a3.eval (.tmp 8) = .pointer (some ⟨px, 0, none⟩) := by rw [← hA]; exact (by simp [v8])
  have x10 : a3.eval (.tmp 10) = .int .i64 i := by rw [← hA]; exact (by simp [v10])
  have x11 : a3.eval (.tmp 11) = .pointer (some ⟨p_t3, 0, none⟩) := by rw [← hA]; exact (by simp [v11])
  have x12 : a3.eval (.tmp 12) = .int .i64 (whenE o t l i) := by rw [← hA]; exact (by simp [v12])
  have x13 : a3.eval (.tmp 13) = .pointer (some ⟨p_t6, 0, none⟩) := by rw [← hA]; exact (by simp [hz_a2])
  have x14 : a3.eval (.tmp 14) = .int .i64 (whenE o t2 l2 i) := by rw [← hA]; exact (by simp [hz_a2])
  have hd_a3 : a3.defers = [] := by rw [← hA]; simp only [defers_put, hd_a2]
  clear hA
  have hE1 := whenE_valid hv hi
  have hE2 := whenE_valid hv2 hi2
  have hV1 := whenV_valid hv hi
  have hV2 := whenV_valid hv2 hi2
  cases hF : fitsB t l with
  | true =>
    obtain ⟨hF2, hw1, hw2⟩ := wider_when hv hv2 hw hF hi
    rw [hF, if_pos rfl] at hE1 hV1
    rw [hF2, if_pos rfl] at hE2 hV2
    rw [← hV1, ← hV2] at hw1 hw2
    refine wpIn_seq (wpIn_seq (region_p 2 ?_))
    intro K hK
    refine ListK.move (i := 0) (v := .int .i64 (whenE o t l i)) rfl (by simp [x12]) ?_
    refine ListK.bin (i := 1) (u := .int .i64 (whenE o t l i)) (u' := .int .i64 0) (v := .bool false) rfl (by simp [hz_a3]) (by simp) (nqF hE1 _) ?_
    refine ListK.done (hK _ _ ?_)
    clear hK K
    refine wpIn_cond (t := false) (by simp [hz_a3]) (wpIn_skip ?_)
    show (Code.seq _ _).wpIn _ _ _ _ _ _
    generalize hA : Act.put _ _ _ = a4
    have hz_a4 : a4.tmps.size = 128 := by rw [← hA]; simp only [size_put, hz_a3]
    have y3 : a4.eval (.tmp 3) = .pointer (some ⟨b3, 0, none⟩) := by rw [← hA]; exact (by simp [x3])
    have y8 : a4.eval (.tmp 8) = .pointer (some ⟨px, 0, none⟩) := by rw [← hA]; exact (by simp [x8])
    have y10 : a4.eval (.tmp 10) = .int .i64 i := by rw [← hA]; exact (by simp [x10])
    have y11 : a4.eval (.tmp 11) = .pointer (some ⟨p_t3, 0, none⟩) := by rw [← hA]; exact (by simp [x11])
    have y12 : a4.eval (.tmp 12) = .int .i64 (whenE o t l i) := by rw [← hA]; exact (by simp [x12])
    have y13 : a4.eval (.tmp 13) = .pointer (some ⟨p_t6, 0, none⟩) := by rw [← hA]; exact (by simp [x13])
    have y14 : a4.eval (.tmp 14) = .int .i64 (whenE o t2 l2 i) := by rw [← hA]; exact (by simp [x14])
    have hd_a4 : a4.defers = [] := by rw [← hA]; simp only [defers_put, hd_a3]
    clear hA
    refine wpIn_seq (region_p 16 ?_)
    intro K hK
    refine ListK.move (i := 0) (v := .int .i64 (whenE o t2 l2 i)) rfl (by simp [y14]) ?_
    refine ListK.bin (i := 1) (u := .int .i64 (whenE o t2 l2 i)) (u' := .int .i64 0) (v := .bool false) rfl (by simp [hz_a4]) (by simp) (nqF hE2 _) ?_
    refine ListK.move (i := 2) (v := .bool false) rfl (by simp [hz_a4]) ?_
    refine ListK.field (i := 3) (u := .pointer (some ⟨p_t6, 0, none⟩)) (v := .pointer (some ⟨p_t6, 0, none⟩)) rfl (by simp [y13]) (fa46_0 _) ?_ (hw := wanted_g (e := 113) (b' := false) rfl (by simp [hz_a4]) rfl)
    refine ListK.load (i := 4) (p := ⟨p_t6, 0, none⟩) (v := .int .i64 ((whenV o t2 l2 i).1)) rfl (by simp [hz_a4]) (ld3 (w_t6.cell 0)) ?_ (hw := wanted_g (e := 113) (b' := false) rfl (by simp [hz_a4]) rfl)
    refine ListK.field (i := 5) (u := .pointer (some ⟨p_t3, 0, none⟩)) (v := .pointer (some ⟨p_t3, 0, none⟩)) rfl (by simp [y11]) (fa46_0 _) ?_ (hw := wanted_g (e := 113) (b' := false) rfl (by simp [hz_a4]) rfl)
    refine ListK.load (i := 6) (p := ⟨p_t3, 0, none⟩) (v := .int .i64 ((whenV o t l i).1)) rfl (by simp [hz_a4]) (ld3 (w_t3.cell 0)) ?_ (hw := wanted_g (e := 113) (b' := false) rfl (by simp [hz_a4]) rfl)
    refine ListK.bin (i := 7) (u := .int .i64 ((whenV o t2 l2 i).1)) (u' := .int .i64 ((whenV o t l i).1)) (v := .bool false) rfl (by simp [hz_a4]) (by simp [hz_a4]) (gtrFx (by omega) _) ?_ (hw := wanted_g (e := 113) (b' := false) rfl (by simp [hz_a4]) rfl)
    refine ListK.pick (i := 8) (b := false) (v := .bool false) rfl (by simp [hz_a4]) (by simp [hz_a4]) ?_
    refine ListK.move (i := 9) (v := .bool false) rfl (by simp [hz_a4]) ?_
    refine ListK.field (i := 10) (u := .pointer (some ⟨p_t6, 0, none⟩)) (v := .pointer (some ⟨p_t6, 1, none⟩)) rfl (by simp [y13]) (fa46_1 _) ?_ (hw := wanted_g (e := 120) (b' := false) rfl (by simp [hz_a4]) rfl)
    refine ListK.load (i := 11) (p := ⟨p_t6, 1, none⟩) (v := .int .i64 ((whenV o t2 l2 i).2)) rfl (by simp [hz_a4]) (ld3 (w_t6.cell 1)) ?_ (hw := wanted_g (e := 120) (b' := false) rfl (by simp [hz_a4]) rfl)
    refine ListK.field (i := 12) (u := .pointer (some ⟨p_t3, 0, none⟩)) (v := .pointer (some ⟨p_t3, 1, none⟩)) rfl (by simp [y11]) (fa46_1 _) ?_ (hw := wanted_g (e := 120) (b' := false) rfl (by simp [hz_a4]) rfl)
    refine ListK.load (i := 13) (p := ⟨p_t3, 1, none⟩) (v := .int .i64 ((whenV o t l i).2)) rfl (by simp [hz_a4]) (ld3 (w_t3.cell 1)) ?_ (hw := wanted_g (e := 120) (b' := false) rfl (by simp [hz_a4]) rfl)
    refine ListK.bin (i := 14) (u := .int .i64 ((whenV o t2 l2 i).2)) (u' := .int .i64 ((whenV o t l i).2)) (v := .bool false) rfl (by simp [hz_a4]) (by simp [hz_a4]) (lssF (by omega) _) ?_ (hw := wanted_g (e := 120) (b' := false) rfl (by simp [hz_a4]) rfl)
    refine ListK.pick (i := 15) (b := false) (v := .bool false) rfl (by simp [hz_a4]) (by simp [hz_a4]) ?_
    refine ListK.done (hK _ _ ?_)
    clear hK K
    refine wpIn_cond (t := false) (by simp [hz_a4]) (wpIn_skip ?_)
    exact hQ _ _ ⟨(by simp only [size_put, hz_a4]), (by simp only [defers_put, hd_a4]), (by simp [y3]), (by simp [y8]), (by simp [y10])⟩ ⟨hB1, wb, wx, hs, hx⟩
  | false =>
    rw [hF, if_neg (by decide)] at hE1
    refine wpIn_seq (wpIn_seq (region_p 2 ?_))
    intro K hK
    refine ListK.move (i := 0) (v := .int .i64 (whenE o t l i)) rfl (by simp [x12]) ?_
    refine ListK.bin (i := 1) (u := .int .i64 (whenE o t l i)) (u' := .int .i64 0) (v := .bool true) rfl (by simp [hz_a3]) (by simp) (nqT (by omega) _) ?_
    refine ListK.done (hK _ _ ?_)
    clear hK K
    refine wpIn_cond (t := true) (by simp [hz_a3]) ?_
    generalize hA : Act.put _ _ _ = a4
    have hz_a4 : a4.tmps.size = 128 := by rw [← hA]; simp only [size_put, hz_a3]
    have y12 : a4.eval (.tmp 12) = .int .i64 (whenE o t l i) := by rw [← hA]; exact (by simp [x12])
    have y14 : a4.eval (.tmp 14) = .int .i64 (whenE o t2 l2 i) := by rw [← hA]; exact (by simp [x14])
    have hd_a4 : a4.defers = [] := by rw [← hA]; simp only [defers_put, hd_a3]
    clear hA
    cases hF2 : fitsB t2 l2 with
    | true =>
      rw [hF2, if_pos rfl] at hE2
      refine wpIn_seq (region_p 14 ?_)
      intro K hK
      refine ListK.move (i := 0) (v := .int .i64 (whenE o t l i)) rfl (by simp [y12]) ?_
      refine ListK.bin (i := 1) (u := .int .i64 (whenE o t l i)) (u' := .int .i64 9) (v := .bool true) rfl (by simp [hz_a4]) (by simp) (eql27T hE1 _) ?_
      refine ListK.move (i := 2) (v := .bool true) rfl (by simp [hz_a4]) ?_
      refine ListK.move (i := 3) (v := .int .i64 (whenE o t2 l2 i)) rfl (by simp [y14]) ?_ (hw := wanted_g (e := 100) (b' := true) rfl (by simp [hz_a4]) rfl)
      refine ListK.bin (i := 4) (u := .int .i64 (whenE o t2 l2 i)) (u' := .int .i64 0) (v := .bool true) rfl (by simp [hz_a4]) (by simp) (eql27T hE2 _) ?_ (hw := wanted_g (e := 100) (b' := true) rfl (by simp [hz_a4]) rfl)
      refine ListK.move (i := 5) (v := .bool true) rfl (by simp [hz_a4]) ?_ (hw := wanted_g (e := 100) (b' := true) rfl (by simp [hz_a4]) rfl)
      refine ListK.passG (i := 6) (e := 103) (b' := true) rfl rfl (by simp [hz_a4]) rfl ?_
      refine ListK.passG (i := 7) (e := 103) (b' := true) rfl rfl (by simp [hz_a4]) rfl ?_
      refine ListK.pickW (i := 8) (b := true) (v := .bool true) rfl (by simp [hz_a4]) (by simp) ?_ (hw := wanted_g (e := 100) (b' := true) rfl (by simp [hz_a4]) rfl)
      refine ListK.pick (i := 9) (b := true) (v := .bool true) rfl (by simp [hz_a4]) (by simp [hz_a4]) ?_
      refine ListK.move (i := 10) (v := .bool true) rfl (by simp [hz_a4]) ?_
      refine ListK.call (i := 11) (vs := #[]) rfl (enters_of Try.func16 (by kernel_rfl) rfl) (by simp) (((wakes_any W7)).mono ?_) (hw := wanted_g (e := 108) (b' := true) rfl (by simp [hz_a4]) rfl)
      rintro _ W8 ⟨rfl, hb_t7⟩
      have hL_t7 := hB1.trans (hb_t7.mono (by have := hB1.size; omega))
      replace hs := (hs.below hb_t7 (Nat.le_refl _)).more hb_t7.size
      replace hx := (hx.below hb_t7 (Nat.le_refl _)).more hb_t7.size
      replace wb := wb.below hb_t7 wb.lt
      replace wx := wx.below hb_t7 wx.lt
      replace w_t3 := w_t3.below hb_t7 w_t3.lt
      replace w_t6 := w_t6.below hb_t7 w_t6.lt
      replace hB1 := hL_t7
      replace hlt : b3 < W8.heap.size := wb.lt
      refine ⟨_, rfl, ?_⟩
      refine ListK.pick (i := 12) (b := true) (v := .bool true) rfl (by simp [hz_a4]) (by simp [hz_a4]) ?_
      refine ListK.assign (i := 13) (v := .bool true) rfl (by simp [hz_a4]) ?_
      refine ListK.done (hK _ _ (wpIn_ret ?_))
      exact hret _ _ (by simp only [defers_put, hd_a4]) (by simp [hz_a4]) hB1
    | false =>
      rw [hF2, if_neg (by decide)] at hE2
      refine wpIn_seq (region_p 14 ?_)
      intro K hK
      refine ListK.move (i := 0) (v := .int .i64 (whenE o t l i)) rfl (by simp [y12]) ?_
      refine ListK.bin (i := 1) (u := .int .i64 (whenE o t l i)) (u' := .int .i64 9) (v := .bool true) rfl (by simp [hz_a4]) (by simp) (eql27T hE1 _) ?_
      refine ListK.move (i := 2) (v := .bool true) rfl (by simp [hz_a4]) ?_
      refine ListK.move (i := 3) (v := .int .i64 (whenE o t2 l2 i)) rfl (by simp [y14]) ?_ (hw := wanted_g (e := 100) (b' := true) rfl (by simp [hz_a4]) rfl)
      refine ListK.bin (i := 4) (u := .int .i64 (whenE o t2 l2 i)) (u' := .int .i64 0) (v := .bool false) rfl (by simp [hz_a4]) (by simp) (eql27F (by omega) _) ?_ (hw := wanted_g (e := 100) (b' := true) rfl (by simp [hz_a4]) rfl)
      refine ListK.move (i := 5) (v := .bool false) rfl (by simp [hz_a4]) ?_ (hw := wanted_g (e := 100) (b' := true) rfl (by simp [hz_a4]) rfl)
      refine ListK.move (i := 6) (v := .int .i64 (whenE o t2 l2 i)) rfl (by simp [y14]) ?_ (hw := wanted_g (e := 103) (b' := false) rfl (by simp [hz_a4]) rfl)
      refine ListK.bin (i := 7) (u := .int .i64 (whenE o t2 l2 i)) (u' := .int .i64 9) (v := .bool true) rfl (by simp [hz_a4]) (by simp) (eql27T hE2 _) ?_ (hw := wanted_g (e := 103) (b' := false) rfl (by simp [hz_a4]) rfl)
      refine ListK.pickW (i := 8) (b := false) (v := .bool true) rfl (by simp [hz_a4]) (by simp [hz_a4]) ?_ (hw := wanted_g (e := 100) (b' := true) rfl (by simp [hz_a4]) rfl)
      refine ListK.pick (i := 9) (b := true) (v := .bool true) rfl (by simp [hz_a4]) (by simp [hz_a4]) ?_
      refine ListK.move (i := 10) (v := .bool true) rfl (by simp [hz_a4]) ?_
      refine ListK.call (i := 11) (vs := #[]) rfl (enters_of Try.func16 (by kernel_rfl) rfl) (by simp) (((wakes_any W7)).mono ?_) (hw := wanted_g (e := 108) (b' := true) rfl (by simp [hz_a4]) rfl)
      rintro _ W8 ⟨rfl, hb_t7⟩
      have hL_t7 := hB1.trans (hb_t7.mono (by have := hB1.size; omega))
      replace hs := (hs.below hb_t7 (Nat.le_refl _)).more hb_t7.size
      replace hx := (hx.below hb_t7 (Nat.le_refl _)).more hb_t7.size
      replace wb := wb.below hb_t7 wb.lt
      replace wx := wx.below hb_t7 wx.lt
      replace w_t3 := w_t3.below hb_t7 w_t3.lt
      replace w_t6 := w_t6.below hb_t7 w_t6.lt
      replace hB1 := hL_t7
      replace hlt : b3 < W8.heap.size := wb.lt
      refine ⟨_, rfl, ?_⟩
      refine ListK.pick (i := 12) (b := true) (v := .bool true) rfl (by simp [hz_a4]) (by simp [hz_a4]) ?_
      refine ListK.assign (i := 13) (v := .bool true) rfl (by simp [hz_a4]) ?_
      refine ListK.done (hK _ _ (wpIn_ret ?_))
      exact hret _ _ (by simp only [defers_put, hd_a4]) (by simp [hz_a4]) hB1
end
set_option maxRecDepth 10000 in
set_option maxHeartbeats 4000000 in
theorem wider_any (o t : Int) (A : Option Addr) (l : List Sale) (c nk nb : Nat) (W : World) (hnk : nk < 256) (hnb : nb < 256) (hs : SalesAt W W.heap.size A l) :
    Calls Try.prog 12 #[.agg #[.int .i64 o, .int .i64 t, .slice A l.length c], .int .u8 nk, .int .u8 nb] W (TP W true) := by
  have hs0 := hs
  refine (callsIn_wide (n := 5)).1 (callsIn_of_wp Try.func12 body12 trivial ?_ rfl)
  obtain ⟨a, ha⟩ : ∃ a : Act, a = { tmps := #[.agg #[.int .i64 o, .int .i64 t, .slice A l.length c], .int .u8 nk, .int .u8 nb] ++ Array.replicate (Try.f12.ntmps - (#[.agg #[.int .i64 o, .int .i64 t, .slice A l.length c], .int .u8 nk, .int .u8 nb] : Array Value).size) undef, defers := [] } := ⟨_, rfl⟩
  have hsz : a.tmps.size = 128 := by rw [ha]; simp [Try.ntmps12]
  have t0 : a.eval (.tmp 0) = .agg #[.int .i64 o, .int .i64 t, .slice A l.length c] := by rw [ha]; simp [Act.eval]
  have t1 : a.eval (.tmp 1) = .int .u8 nk := by rw [ha]; simp [Act.eval]
  have t2 : a.eval (.tmp 2) = .int .u8 nb := by rw [ha]; simp [Act.eval]
  have hdf : a.defers = [] := by rw [ha]
  rw [← ha]
  clear ha
  have hret : ∀ (a' : Act) (W' : World), a'.defers = [] → a'.eval (.tmp 6) = .bool true → Below W.heap.size W W' → bodyPost Try.prog Try.f12 (TP W true) .ret a' W' := fun a' W' hd h4 hb =>
    bodyPost_ret (v := .bool true) (res1 Try.results12 h4) hd ⟨rfl, hb⟩
  unfold code12
  refine wpIn_seq (region_p 2 ?_)
  intro K hK
  refine ListK.box (i := 0) (u := .agg #[.int .i64 o, .int .i64 t, .slice A l.length c]) rfl (by simp [t0]) (bx24 W _ _ _ _ _) ?_
  refine ListK.assign (i := 1) (v := .bool false) rfl (by simp) ?_
  refine ListK.done (hK _ _ ?_)
  clear hK K
  have wb := Whole.new W 24 #[.int .i64 o, .int .i64 t, .slice A l.length c]
  have hB1 : Below W.heap.size W (W.alloc (.cells #[.int .i64 o, .int .i64 t, .slice A l.length c] 24)) := (Below.refl _ W).alloc (Nat.le_refl _) _
  have hS1 := hB1.size
  have hlt : W.heap.size < (W.alloc (.cells #[.int .i64 o, .int .i64 t, .slice A l.length c] 24)).heap.size := by simp
  generalize hb3 : W.heap.size = b3 at *
  generalize W.alloc (.cells #[.int .i64 o, .int .i64 t, .slice A l.length c] 24) = W1 at *
  replace hs : SalesAt W1 W1.heap.size A l := (hs.below hB1 (Nat.le_refl _)).more hS1
  generalize hA : Act.put _ _ _ = a1
  have hz_a1 : a1.tmps.size = 128 := by rw [← hA]; simp only [size_put, hsz]
  have u1 : a1.eval (.tmp 1) = .int .u8 nk := by rw [← hA]; exact (by simp [t1])
  have u2 : a1.eval (.tmp 2) = .int .u8 nb := by rw [← hA]; exact (by simp [t2])
  have u3 : a1.eval (.tmp 3) = .pointer (some ⟨b3, 0, none⟩) := by rw [← hA]; exact (by simp [hsz])
  have hd_a1 : a1.defers = [] := by rw [← hA]; simp only [defers_put, hdf]
  clear hA
  have hrd := ready_any o t A l c W1 hs
  by_cases hready : l.length ≤ 12 ∧ fault o t l = 0
  · obtain ⟨hl12, h0⟩ := hready
    rw [decide_eq_true hl12, decide_eq_true h0] at hrd
    have hv := valid_of_fault h0
    by_cases hl0 : l.length = 0
    · skip
      refine wpIn_seq (wpIn_seq (region_p 9 ?_))
      intro K hK
      refine ListK.load (i := 0) (p := ⟨b3, 0, none⟩) (v := .agg #[.int .i64 o, .int .i64 t, .slice A l.length c]) rfl (by simp [u3]) (ld24 ⟨wb.cell 0, wb.cell 1, wb.cell 2⟩) ?_
      refine ListK.call (i := 1) (vs := #[.agg #[.int .i64 o, .int .i64 t, .slice A l.length c]]) rfl (enters_of Try.func41 (by kernel_rfl) rfl) (by simp [hz_a1]) (((hrd)).mono ?_)
      rintro _ W2 ⟨rfl, hb_t1⟩
      clear hrd
      have hL_t1 := hB1.trans (hb_t1.mono (by have := hB1.size; omega))
      replace hs := (hs.below hb_t1 (Nat.le_refl _)).more hb_t1.size
      replace wb := wb.below hb_t1 wb.lt
      replace hB1 := hL_t1
      replace hlt : b3 < W2.heap.size := wb.lt
      refine ⟨_, rfl, ?_⟩
      refine ListK.un (i := 2) (u := .bool true) (v := .bool false) rfl (by simp [hz_a1]) (not4 _ _) ?_
      refine ListK.move (i := 3) (v := .bool false) rfl (by simp [hz_a1]) ?_
      refine ListK.field (i := 4) (u := .pointer (some ⟨b3, 0, none⟩)) (v := .pointer (some ⟨b3, 2, none⟩)) rfl (by simp [u3]) (fa24_2 _) ?_ (hw := wanted_g (e := 18) (b' := false) rfl (by simp [hz_a1]) rfl)
      refine ListK.load (i := 5) (p := ⟨b3, 2, none⟩) (v := .slice A l.length c) rfl (by simp [hz_a1]) (ld22 (wb.cell 2)) ?_ (hw := wanted_g (e := 18) (b' := false) rfl (by simp [hz_a1]) rfl)
      refine ListK.lenW (i := 6) (u := .slice A l.length c) (v := .int .i64 l.length) rfl (by simp [hz_a1]) (ln22 _ _ _ _ _) rfl ?_ (hw := wanted_g (e := 18) (b' := false) rfl (by simp [hz_a1]) rfl)
      refine ListK.bin (i := 7) (u := .int .i64 l.length) (u' := .int .i64 0) (v := .bool true) rfl (by simp [hz_a1]) (by simp) (eql3T (by omega) _) ?_ (hw := wanted_g (e := 18) (b' := false) rfl (by simp [hz_a1]) rfl)
      refine ListK.pick (i := 8) (b := false) (v := .bool true) rfl (by simp [hz_a1]) (by simp [hz_a1]) ?_
      refine ListK.done (hK _ _ ?_)
      clear hK K
      refine wpIn_cond (t := true) (by simp [hz_a1]) ?_
      generalize hA : Act.put _ _ _ = a2
      have hz_a2 : a2.tmps.size = 128 := by rw [← hA]; simp only [size_put, hz_a1]
      have v3 : a2.eval (.tmp 3) = .pointer (some ⟨b3, 0, none⟩) := by rw [← hA]; exact (by simp [u3])
      have hd_a2 : a2.defers = [] := by rw [← hA]; simp only [defers_put, hd_a1]
      clear hA
      refine wpIn_seq (region_p 2 ?_)
      intro K hK
      refine ListK.call (i := 0) (vs := #[]) rfl (enters_of Try.func16 (by kernel_rfl) rfl) (by simp) (((wakes_any W2)).mono ?_)
      rintro _ W3 ⟨rfl, hb_t2⟩
      have hL_t2 := hB1.trans (hb_t2.mono (by have := hB1.size; omega))
      replace hs := (hs.below hb_t2 (Nat.le_refl _)).more hb_t2.size
      replace wb := wb.below hb_t2 wb.lt
      replace hB1 := hL_t2
      replace hlt : b3 < W3.heap.size := wb.lt
      refine ⟨_, rfl, ?_⟩
      refine ListK.assign (i := 1) (v := .bool true) rfl (by simp [hz_a2]) ?_
      refine ListK.done (hK _ _ (wpIn_ret ?_))
      exact hret _ _ (by simp only [defers_put, hd_a2]) (by simp [hz_a2]) hB1
    · skip
      refine wpIn_seq (wpIn_seq (region_p 9 ?_))
      intro K hK
      refine ListK.load (i := 0) (p := ⟨b3, 0, none⟩) (v := .agg #[.int .i64 o, .int .i64 t, .slice A l.length c]) rfl (by simp [u3]) (ld24 ⟨wb.cell 0, wb.cell 1, wb.cell 2⟩) ?_
      refine ListK.call (i := 1) (vs := #[.agg #[.int .i64 o, .int .i64 t, .slice A l.length c]]) rfl (enters_of Try.func41 (by kernel_rfl) rfl) (by simp [hz_a1]) (((hrd)).mono ?_)
      rintro _ W2 ⟨rfl, hb_t1⟩
      clear hrd
      have hL_t1 := hB1.trans (hb_t1.mono (by have := hB1.size; omega))
      replace hs := (hs.below hb_t1 (Nat.le_refl _)).more hb_t1.size
      replace wb := wb.below hb_t1 wb.lt
      replace hB1 := hL_t1
      replace hlt : b3 < W2.heap.size := wb.lt
      refine ⟨_, rfl, ?_⟩
      refine ListK.un (i := 2) (u := .bool true) (v := .bool false) rfl (by simp [hz_a1]) (not4 _ _) ?_
      refine ListK.move (i := 3) (v := .bool false) rfl (by simp [hz_a1]) ?_
      refine ListK.field (i := 4) (u := .pointer (some ⟨b3, 0, none⟩)) (v := .pointer (some ⟨b3, 2, none⟩)) rfl (by simp [u3]) (fa24_2 _) ?_ (hw := wanted_g (e := 18) (b' := false) rfl (by simp [hz_a1]) rfl)
      refine ListK.load (i := 5) (p := ⟨b3, 2, none⟩) (v := .slice A l.length c) rfl (by simp [hz_a1]) (ld22 (wb.cell 2)) ?_ (hw := wanted_g (e := 18) (b' := false) rfl (by simp [hz_a1]) rfl)
      refine ListK.lenW (i := 6) (u := .slice A l.length c) (v := .int .i64 l.length) rfl (by simp [hz_a1]) (ln22 _ _ _ _ _) rfl ?_ (hw := wanted_g (e := 18) (b' := false) rfl (by simp [hz_a1]) rfl)
      refine ListK.bin (i := 7) (u := .int .i64 l.length) (u' := .int .i64 0) (v := .bool false) rfl (by simp [hz_a1]) (by simp) (eql3F (by omega) _) ?_ (hw := wanted_g (e := 18) (b' := false) rfl (by simp [hz_a1]) rfl)
      refine ListK.pick (i := 8) (b := false) (v := .bool false) rfl (by simp [hz_a1]) (by simp [hz_a1]) ?_
      refine ListK.done (hK _ _ ?_)
      clear hK K
      refine wpIn_cond (t := false) (by simp [hz_a1]) (wpIn_skip ?_)
      show (Code.seq _ _).wpIn _ _ _ _ _ _
      generalize hA : Act.put _ _ _ = a2
      have hz_a2 : a2.tmps.size = 128 := by rw [← hA]; simp only [size_put, hz_a1]
      have v1 : a2.eval (.tmp 1) = .int .u8 nk := by rw [← hA]; exact (by simp [u1])
      have v2 : a2.eval (.tmp 2) = .int .u8 nb := by rw [← hA]; exact (by simp [u2])
      have v3 : a2.eval (.tmp 3) = .pointer (some ⟨b3, 0, none⟩) := by rw [← hA]; exact (by simp [u3])
      have hd_a2 : a2.defers = [] := by rw [← hA]; simp only [defers_put, hd_a1]
      clear hA
      obtain ⟨k, hk⟩ : ∃ k, nk % l.length = k := ⟨_, rfl⟩
      have hkl : k < l.length := by
        rw [← hk]
        exact Nat.mod_lt _ (by omega)
      have hk' : (nk : Int) % (l.length : Int) = (k : Int) := by omega
      have hsv := saleOf_valid hv hkl
      refine wpIn_seq (region_p 7 ?_)
      intro K hK
      refine ListK.move (i := 0) (v := .int .u8 nk) rfl (by simp [v1]) ?_
      refine ListK.conv (i := 1) (u := .int .u8 nk) (v := .int .i64 nk) rfl (by simp [hz_a2]) (cvu8 hnk _) ?_
      refine ListK.field (i := 2) (u := .pointer (some ⟨b3, 0, none⟩)) (v := .pointer (some ⟨b3, 2, none⟩)) rfl (by simp [v3]) (fa24_2 _) ?_
      refine ListK.load (i := 3) (p := ⟨b3, 2, none⟩) (v := .slice A l.length c) rfl (by simp [hz_a2]) (ld22 (wb.cell 2)) ?_
      refine ListK.len (i := 4) (u := .slice A l.length c) (v := .int .i64 l.length) rfl (by simp [hz_a2]) (ln22 _ _ _ _ _) rfl ?_
      refine ListK.bin (i := 5) (u := .int .i64 nk) (u' := .int .i64 l.length) (v := .int .i64 k) rfl (by simp [hz_a2]) (by simp [hz_a2]) (rem3r (by omega) (by omega) hk' _) ?_
      refine ListK.assign (i := 6) (v := .int .i64 k) rfl (by simp [hz_a2]) ?_
      refine ListK.done (hK _ _ ?_)
      clear hK K
      generalize hA : Act.put _ _ _ = a3
      have hz_a3 : a3.tmps.size = 128 := by rw [← hA]; simp only [size_put, hz_a2]
      have x2 : a3.eval (.tmp 2) = .int .u8 nb := by rw [← hA]; exact (by simp [v2])
      have x3 : a3.eval (.tmp 3) = .pointer (some ⟨b3, 0, none⟩) := by rw [← hA]; exact (by simp [v3])
      have x7 : a3.eval (.tmp 7) = .int .i64 k := by rw [← hA]; exact (by simp [hz_a2])
      have hd_a3 : a3.defers = [] := by rw [← hA]; simp only [defers_put, hd_a2]
      clear hA
      refine wpIn_seq (region_p 3 ?_)
      intro K hK
      refine ListK.load (i := 0) (p := ⟨b3, 0, none⟩) (v := .agg #[.int .i64 o, .int .i64 t, .slice A l.length c]) rfl (by simp [x3]) (ld24 ⟨wb.cell 0, wb.cell 1, wb.cell 2⟩) ?_
      refine ListK.alloc (i := 1) rfl (al24 W2) ?_
      refine ListK.store (i := 2) (u := .pointer (some ⟨W2.heap.size, 0, none⟩)) (u' := .agg #[.int .i64 o, .int .i64 t, .slice A l.length c]) rfl (by simp [hz_a3]) (by simp [hz_a3]) (st24n W2 o t A l.length c) ?_
      refine ListK.done (hK _ _ ?_)
      clear hK K
      have wx := Whole.new W2 24 #[.int .i64 o, .int .i64 t, .slice A l.length c]
      have hbx : Below W2.heap.size W2 (W2.alloc (.cells #[.int .i64 o, .int .i64 t, .slice A l.length c] 24)) := (Below.refl _ _).alloc (Nat.le_refl _) _
      replace hB1 := hB1.trans (hbx.mono (by have := hB1.size; omega))
      replace wb := wb.below hbx wb.lt
      have hlt : b3 < W2.heap.size := hlt
      generalize W2.heap.size = px at *
      generalize W2.alloc (.cells #[.int .i64 o, .int .i64 t, .slice A l.length c] 24) = W3 at *
      generalize hA : Act.put _ _ _ = a4
      have hz_a4 : a4.tmps.size = 128 := by rw [← hA]; simp only [size_put, hz_a3]
      have y2 : a4.eval (.tmp 2) = .int .u8 nb := by rw [← hA]; exact (by simp [x2])
      have y3 : a4.eval (.tmp 3) = .pointer (some ⟨b3, 0, none⟩) := by rw [← hA]; exact (by simp [x3])
      have y7 : a4.eval (.tmp 7) = .int .i64 k := by rw [← hA]; exact (by simp [x7])
      have y8 : a4.eval (.tmp 8) = .pointer (some ⟨px, 0, none⟩) := by rw [← hA]; exact (by simp [hz_a3])
      have hd_a4 : a4.defers = [] := by rw [← hA]; simp only [defers_put, hd_a3]
      clear hA
      obtain ⟨v5, Wc, hr5, hb5, wx5, ho5, hB6, wx6, ho6, hk6⟩ := copy_run (c := c) (ty := 22) hs0 hB1 (by omega) (by omega : b3 ≤ px) wx
      obtain ⟨A2, c2, e5, _⟩ := sales_of_owns73 ho5
      subst e5
      refine wpIn_seq (region_p 6 ?_)
      intro K hK
      refine ListK.bsl (i := 0) (ps := #[]) (v := .slice (some ⟨W3.heap.size, 0, none⟩) 0 0) rfl (by simp []) (bs22_z W3) ?_
      refine ListK.field (i := 1) (u := .pointer (some ⟨b3, 0, none⟩)) (v := .pointer (some ⟨b3, 2, none⟩)) rfl (by simp [y3]) (fa24_2 _) ?_
      refine ListK.load (i := 2) (p := ⟨b3, 2, none⟩) (v := .slice A l.length c) rfl (by simp [hz_a4]) (ld22 ((wb.alloc _).cell 2)) ?_
      refine ListK.app22 (i := 3) (v := .slice (some ⟨W3.heap.size, 0, none⟩) 0 0) (v2 := .slice A l.length c) rfl (by simp [hz_a4]) (by simp [hz_a4]) hr5 ?_
      refine ListK.field (i := 4) (u := .pointer (some ⟨px, 0, none⟩)) (v := .pointer (some ⟨px, 2, none⟩)) rfl (by simp [y8]) (fa24_2 _) ?_
      refine ListK.store (i := 5) (u := .pointer (some ⟨px, 2, none⟩)) (u' := .slice A2 l.length c2) rfl (by simp [hz_a4]) (by simp [hz_a4]) (st22 (wx5.cell 2) (wx5.frozen 2)) ?_
      refine ListK.done (hK _ _ ?_)
      clear hK K
      replace wb := hk6 b3 24 _ (by omega) wb.lt wb
      have hpB : px < W3.heap.size := wx.lt
      generalize W3.heap.size = B5 at *
      generalize (Wc.setCell ⟨px, 2, none⟩ (.slice A2 l.length c2)) = W5 at *
      generalize hA : Act.put _ _ _ = a5
      have hz_a5 : a5.tmps.size = 128 := by rw [← hA]; simp only [size_put, hz_a4]
      have z2 : a5.eval (.tmp 2) = .int .u8 nb := by rw [← hA]; exact (by simp [y2])
      have z3 : a5.eval (.tmp 3) = .pointer (some ⟨b3, 0, none⟩) := by rw [← hA]; exact (by simp [y3])
      have z7 : a5.eval (.tmp 7) = .int .i64 k := by rw [← hA]; exact (by simp [y7])
      have z8 : a5.eval (.tmp 8) = .pointer (some ⟨px, 0, none⟩) := by rw [← hA]; exact (by simp [y8])
      have hd_a5 : a5.defers = [] := by rw [← hA]; simp only [defers_put, hd_a4]
      clear hA
      clear ho5 hb5 wx5 hr5 wx hk6 hB1 hs
      obtain ⟨g, rfl⟩ := own_some ho6 (by omega)
      obtain ⟨r1, r2, r3, r4⟩ := row_facts ho6 rfl
      obtain ⟨b', o', e', _, k0, k1, k2, k3, k4⟩ := r3 k _ (List.getElem?_eq_getElem hkl)
      cases e'
      rw [← saleOf_eq (List.getElem?_eq_getElem hkl)] at k3 k4
      refine wpIn_seq (region_p 6 ?_)
      intro K hK
      refine ListK.field (i := 0) (u := .pointer (some ⟨px, 0, none⟩)) (v := .pointer (some ⟨px, 2, none⟩)) rfl (by simp [z8]) (fa24_2 _) ?_
      refine ListK.load (i := 1) (p := ⟨px, 2, none⟩) (v := .slice (some ⟨g, 0, none⟩) l.length c2) rfl (by simp [hz_a5]) (ld22 (wx6.cell 2)) ?_
      refine ListK.move (i := 2) (v := .int .i64 k) rfl (by simp [z7]) ?_
      refine ListK.index (i := 3) (u := .slice (some ⟨g, 0, none⟩) l.length c2) (u' := .int .i64 k) (v := .pointer (some ⟨g, 0 + k * 5, none⟩)) rfl (by simp [hz_a5]) (by simp [hz_a5]) (ix22 hkl _) ?_
      refine ListK.field (i := 4) (u := .pointer (some ⟨g, 0 + k * 5, none⟩)) (v := .pointer (some ⟨g, 0 + k * 5 + 3, none⟩)) rfl (by simp [hz_a5]) (fa73_3 _) ?_
      refine ListK.assign (i := 5) (v := .pointer (some ⟨g, 0 + k * 5 + 3, none⟩)) rfl (by simp [hz_a5]) ?_
      refine ListK.done (hK _ _ ?_)
      clear hK K
      generalize hA : Act.put _ _ _ = a6
      have hz_a6 : a6.tmps.size = 128 := by rw [← hA]; simp only [size_put, hz_a5]
      have p2 : a6.eval (.tmp 2) = .int .u8 nb := by rw [← hA]; exact (by simp [z2])
      have p3 : a6.eval (.tmp 3) = .pointer (some ⟨b3, 0, none⟩) := by rw [← hA]; exact (by simp [z3])
      have p8 : a6.eval (.tmp 8) = .pointer (some ⟨px, 0, none⟩) := by rw [← hA]; exact (by simp [z8])
      have p9 : a6.eval (.tmp 9) = .pointer (some ⟨g, 0 + k * 5 + 3, none⟩) := by rw [← hA]; exact (by simp [hz_a5])
      have hd_a6 : a6.defers = [] := by rw [← hA]; simp only [defers_put, hd_a5]
      clear hA
      obtain ⟨m4, hm4⟩ : ∃ m : Int, (nb : Int) % 4 = m := ⟨_, rfl⟩
      obtain ⟨q4, hq4⟩ : ∃ m : Int, (nb : Int) / 4 = m := ⟨_, rfl⟩
      obtain ⟨r4', hr4⟩ : ∃ m : Int, q4 % 4 = m := ⟨_, rfl⟩
      refine wpIn_seq (regionWi7 (wideF_plain _) hz_a6 p2 p9 k3 k4 hnb (by omega) (by omega) hm4 hq4 hr4 r2 (r4 _ (by omega)) (r4 _ (by omega)) ?_)
      intro a7 W7 hb7 hz_a7 hd7 hr7
      have hd_a7 : a7.defers = [] := hd7.trans hd_a6
      have r2' : a7.eval (.tmp 2) = .int .u8 nb := (hr7 2 (by omega)).trans p2
      have r3' : a7.eval (.tmp 3) = .pointer (some ⟨b3, 0, none⟩) := (hr7 3 (by omega)).trans p3
      have r8' : a7.eval (.tmp 8) = .pointer (some ⟨px, 0, none⟩) := (hr7 8 (by omega)).trans p8
      have hB7 := hB6.trans (hb7.mono (by have := wx6.lt; omega))
      have hB8 : Below b3 W (putDays W7 g (0 + k * 5 + 3) (max 0 ((saleOf l k).lo - m4)) (min 100 ((saleOf l k).hi + r4'))) := (hB7.setCell (p := ⟨g, 0 + k * 5 + 3, none⟩) (by show b3 ≤ g; omega) _).setCell (p := ⟨g, 0 + k * 5 + 3 + 1, none⟩) (by show b3 ≤ g; omega) _
      have wb8 : Whole (putDays W7 g (0 + k * 5 + 3) (max 0 ((saleOf l k).lo - m4)) (min 100 ((saleOf l k).hi + r4'))) b3 24 _ := ((wb.below hb7 wb.lt).far (by show b3 ≠ g; omega) _).far (by show b3 ≠ g; omega) _
      have wx8 : Whole (putDays W7 g (0 + k * 5 + 3) (max 0 ((saleOf l k).lo - m4)) (min 100 ((saleOf l k).hi + r4'))) px 24 _ := ((wx6.below hb7 wx6.lt).far (by show px ≠ g; omega) _).far (by show px ≠ g; omega) _
      have ho7 := World.ownsRow.kept ho6 (grown_of_below hb7) (.inr (by simp [Value.ownBlock]))
      have ho8 := row_days ho7 (k := k) (s := saleOf l k) (by rw [saleOf_eq (List.getElem?_eq_getElem hkl)]; exact List.getElem?_eq_getElem hkl) (max 0 ((saleOf l k).lo - m4)) (min 100 ((saleOf l k).hi + r4'))
      clear ho7 ho6 wx6 wb hB6 hB7 k0 k1 k2 k3 k4 r3 r4 hb7
      generalize putDays W7 g (0 + k * 5 + 3) (max 0 ((saleOf l k).lo - m4)) (min 100 ((saleOf l k).hi + r4')) = W8 at *
      obtain ⟨t2, ht2⟩ : ∃ t2, min 1000 (t + (nb : Int) / 16) = t2 := ⟨_, rfl⟩
      have hvt := hv.t0
      have hvt1 := hv.t1
      have hne : (Value.slice (some ⟨g, 0, none⟩) l.length c2).ownBlock = none ∨ (Value.slice (some ⟨g, 0, none⟩) l.length c2).ownBlock ≠ some px := .inr (by simp [Value.ownBlock]; omega)
      refine wpIn_seq (region_p 9 ?_)
      intro K hK
      refine ListK.field (i := 0) (u := .pointer (some ⟨b3, 0, none⟩)) (v := .pointer (some ⟨b3, 1, none⟩)) rfl (by simp [r3']) (fa24_1 _) ?_
      refine ListK.load (i := 1) (p := ⟨b3, 1, none⟩) (v := .int .i64 t) rfl (by simp [hz_a7]) (ld3 (wb8.cell 1)) ?_
      refine ListK.move (i := 2) (v := .int .u8 nb) rfl (by simp [r2']) ?_
      refine ListK.conv (i := 3) (u := .int .u8 nb) (v := .int .i64 nb) rfl (by simp [hz_a7]) (cvu8 hnb _) ?_
      refine ListK.bin (i := 4) (u := .int .i64 nb) (u' := .int .i64 16) (v := .int .i64 ((nb : Int) / 16)) rfl (by simp [hz_a7]) (by simp) (quo3r (by omega) (by omega) (by omega) rfl _) ?_
      refine ListK.bin (i := 5) (u := .int .i64 t) (u' := .int .i64 ((nb : Int) / 16)) (v := .int .i64 (t + (nb : Int) / 16)) rfl (by simp [hz_a7]) (by simp [hz_a7]) (add3 (by omega) (by omega) _) ?_
      refine ListK.bi2 (i := 6) (u := .int .i64 (t + (nb : Int) / 16)) (v := .int .i64 (min 1000 (t + (nb : Int) / 16))) rfl (by simp [hz_a7]) (mnc _ _ _ _) ?_
      refine ListK.field (i := 7) (u := .pointer (some ⟨px, 0, none⟩)) (v := .pointer (some ⟨px, 1, none⟩)) rfl (by simp [r8']) (fa24_1 _) ?_
      refine ListK.store (i := 8) (u := .pointer (some ⟨px, 1, none⟩)) (u' := .int .i64 (min 1000 (t + (nb : Int) / 16))) rfl (by simp [hz_a7]) (by simp [hz_a7]) (st3 (wx8.cell 1) (wx8.frozen 1)) ?_
      refine ListK.done (hK _ _ ?_)
      clear hK K
      simp only [ht2]
      have hB9 : Below b3 W (W8.setCell ⟨px, 1, none⟩ (.int .i64 t2)) := hB8.setCell (p := ⟨px, 1, none⟩) (by show b3 ≤ px; omega) _
      have wb9 := wb8.far (p := ⟨px, 1, none⟩) (by show b3 ≠ px; omega) (.int .i64 t2)
      have wx9 := wx8.set 1 (.int .i64 t2)
      have ho9 := ho8.kept (grown_set W8 ⟨px, 1, none⟩ (.int .i64 t2)) hne
      generalize hA : Act.put _ _ _ = a8
      have hz_a8 : a8.tmps.size = 128 := by rw [← hA]; simp only [size_put, hz_a7]
      have q3 : a8.eval (.tmp 3) = .pointer (some ⟨b3, 0, none⟩) := by rw [← hA]; exact (by simp [r3'])
      have q8 : a8.eval (.tmp 8) = .pointer (some ⟨px, 0, none⟩) := by rw [← hA]; exact (by simp [r8'])
      have hd_a8 : a8.defers = [] := by rw [← hA]; simp only [defers_put, hd_a7]
      clear hA
      clear ho8 wx8 wb8 hB8
      obtain ⟨W9, hW9⟩ : ∃ W9, W8.setCell ⟨px, 1, none⟩ (.int .i64 t2) = W9 := ⟨_, rfl⟩
      rw [hW9] at hB9 wb9 wx9 ho9 ⊢
      clear hW9
      obtain ⟨hv2, hw⟩ := wider_of hv hkl (lo := max 0 ((saleOf l k).lo - m4)) (hi := min 100 ((saleOf l k).hi + r4')) (t2 := t2) (by omega) (by omega) (by omega) (by omega) (by omega) (by omega)
      generalize l.set k (withDays (saleOf l k) (max 0 ((saleOf l k).lo - m4)) (min 100 ((saleOf l k).hi + r4'))) = l2 at *
      have hll := hw.len
      have hn1 : WiN W b3 px o t t2 A (some ⟨g, 0, none⟩) l l2 c c2 W9 := by
        have hs9 : SalesAt W9 W9.heap.size A l := (hs0.below hB9 (Nat.le_refl _)).more (by have := wb9.lt; omega)
        rw [← hll] at ho9
        obtain ⟨A2', c2', e5, hx⟩ := sales_of_owns73 ho9
        cases e5
        exact ⟨hB9, wb9, by rw [hll]; simpa using wx9, hs9, hx⟩
      clear hB9 wb9 wx9 ho9
      refine wpIn_seq (wpIn_seq (region_p 1 ?_))
      intro K hK
      refine ListK.assign (i := 0) (v := .int .i64 0) rfl (by simp) ?_
      refine ListK.done (hK _ _ ?_)
      clear hK K
      refine wpIn_block (wpIn_loop (fun a W' => ∃ i, i ≤ l.length ∧ WiF b3 px i a ∧ WiN W b3 px o t t2 A (some ⟨g, 0, none⟩) l l2 c c2 W') (fun a _ => l.length - (intOf (a.eval (.tmp 10))).toNat)
        ⟨0, Nat.zero_le _, ⟨(by simp only [size_put, hz_a8]), (by simp only [defers_put, hd_a8]), (by simp [q3]), (by simp [q8]), (by simp [hz_a8])⟩, hn1⟩ ?_)
      rintro d1 W10 ⟨i, hi, hf, hm⟩
      obtain ⟨hz_d1, hd_d1, u3, u8, u10⟩ := hf
      have wb := hm.2.1
      refine wpIn_seq (wpIn_seq (region_p 5 ?_))
      intro K hK
      refine ListK.move (i := 0) (v := .int .i64 i) rfl (by simp [u10]) ?_
      refine ListK.field (i := 1) (u := .pointer (some ⟨b3, 0, none⟩)) (v := .pointer (some ⟨b3, 2, none⟩)) rfl (by simp [u3]) (fa24_2 _) ?_
      refine ListK.load (i := 2) (p := ⟨b3, 2, none⟩) (v := .slice A l.length c) rfl (by simp [hz_d1]) (ld22 (wb.cell 2)) ?_
      refine ListK.len (i := 3) (u := .slice A l.length c) (v := .int .i64 l.length) rfl (by simp [hz_d1]) (ln22 _ _ _ _ _) rfl ?_
      refine ListK.bin (i := 4) (u := .int .i64 i) (u' := .int .i64 (l.length : Int)) (v := .bool (decide (i < (l.length : Int)))) rfl (by simp [hz_d1]) (by simp [hz_d1]) (lss3 _) ?_
      refine ListK.done (hK _ _ ?_)
      clear hK K
      by_cases hil : i < l.length
      · refine wpIn_cond (t := true) (by simp [hz_d1]; omega) (wpIn_skip ?_)
        show (Code.seq _ _).wpIn _ _ _ _ _ _
        refine wpIn_seq (wpIn_block ?_)
        refine wi12 (px := px) hil hl12 hv hv2 hw hb3 ⟨(by simp only [size_put, hz_d1]), (by simp only [defers_put, hd_d1]), (by simp [u3]), (by simp [u8]), (by simp [u10])⟩ hm (fun b1 W11 f1 m1 => ?_) hret
        refine wi11 hil hl12 f1 fun b2 f2 => ⟨⟨i + 1, by omega, f2, m1⟩, ?_⟩
        rw [f2.2.2.2.2, u10]
        simp only [intOf]
        omega
      · obtain rfl : i = l.length := by omega
        refine wpIn_cond (t := false) (by simp [hz_d1]) (wpIn_exit ?_)
        obtain ⟨hB1, wb', wx, hs, hx⟩ := hm
        have hlt := wb'.lt
        clear wb
        have wb := wb'
        generalize hA : Act.put _ _ _ = d2
        have hz_d2 : d2.tmps.size = 128 := by rw [← hA]; simp only [size_put, hz_d1]
        have s3 : d2.eval (.tmp 3) = .pointer (some ⟨b3, 0, none⟩) := by rw [← hA]; exact (by simp [u3])
        have hd_d2 : d2.defers = [] := by rw [← hA]; simp only [defers_put, hd_d1]
        clear hA
        show wi_d.wpIn _ _ _ _ _ _
        unfold wi_d
        refine wpIn_seq (region_p 2 ?_)
        intro K hK
        refine ListK.call (i := 0) (vs := #[]) rfl (enters_of Try.func16 (by kernel_rfl) rfl) (by simp) (((wakes_any W10)).mono ?_)
        rintro _ W11 ⟨rfl, hb_t2⟩
        have hL_t2 := hB1.trans (hb_t2.mono (by have := hB1.size; omega))
        replace wb := wb.below hb_t2 wb.lt
        replace hB1 := hL_t2
        replace hlt : b3 < W11.heap.size := wb.lt
        refine ⟨_, rfl, ?_⟩
        refine ListK.assign (i := 1) (v := .bool true) rfl (by simp [hz_d2]) ?_
        refine ListK.done (hK _ _ (wpIn_ret ?_))
        exact hret _ _ (by simp only [defers_put, hd_d2]) (by simp [hz_d2]) hB1
  · have hrdy : (decide (l.length ≤ 12) && decide (fault o t l = 0)) = false := by
      rw [Bool.and_eq_false_iff, decide_eq_false_iff_not, decide_eq_false_iff_not]
      exact Decidable.not_and_iff_or_not.1 hready
    rw [hrdy] at hrd
    refine wpIn_seq (wpIn_seq (region_p 9 ?_))
    intro K hK
    refine ListK.load (i := 0) (p := ⟨b3, 0, none⟩) (v := .agg #[.int .i64 o, .int .i64 t, .slice A l.length c]) rfl (by simp [u3]) (ld24 ⟨wb.cell 0, wb.cell 1, wb.cell 2⟩) ?_
    refine ListK.call (i := 1) (vs := #[.agg #[.int .i64 o, .int .i64 t, .slice A l.length c]]) rfl (enters_of Try.func41 (by kernel_rfl) rfl) (by simp [hz_a1]) (((hrd)).mono ?_)
    rintro _ W2 ⟨rfl, hb_t1⟩
    clear hrd
    have hL_t1 := hB1.trans (hb_t1.mono (by have := hB1.size; omega))
    replace hs := (hs.below hb_t1 (Nat.le_refl _)).more hb_t1.size
    replace wb := wb.below hb_t1 wb.lt
    replace hB1 := hL_t1
    replace hlt : b3 < W2.heap.size := wb.lt
    refine ⟨_, rfl, ?_⟩
    refine ListK.un (i := 2) (u := .bool false) (v := .bool true) rfl (by simp [hz_a1]) (not4 _ _) ?_
    refine ListK.move (i := 3) (v := .bool true) rfl (by simp [hz_a1]) ?_
    refine ListK.passG (i := 4) (e := 18) (b' := true) rfl rfl (by simp [hz_a1]) rfl ?_
    refine ListK.passG (i := 5) (e := 18) (b' := true) rfl rfl (by simp [hz_a1]) rfl ?_
    refine ListK.passG (i := 6) (e := 18) (b' := true) rfl rfl (by simp [hz_a1]) rfl ?_
    refine ListK.passG (i := 7) (e := 18) (b' := true) rfl rfl (by simp [hz_a1]) rfl ?_
    refine ListK.pick (i := 8) (b := true) (v := .bool true) rfl (by simp [hz_a1]) (by simp) ?_
    refine ListK.done (hK _ _ ?_)
    clear hK K
    refine wpIn_cond (t := true) (by simp [hz_a1]) ?_
    generalize hA : Act.put _ _ _ = a2
    have hz_a2 : a2.tmps.size = 128 := by rw [← hA]; simp only [size_put, hz_a1]
    have v3 : a2.eval (.tmp 3) = .pointer (some ⟨b3, 0, none⟩) := by rw [← hA]; exact (by simp [u3])
    have hd_a2 : a2.defers = [] := by rw [← hA]; simp only [defers_put, hd_a1]
    clear hA
    refine wpIn_seq (region_p 2 ?_)
    intro K hK
    refine ListK.call (i := 0) (vs := #[]) rfl (enters_of Try.func16 (by kernel_rfl) rfl) (by simp) (((wakes_any W2)).mono ?_)
    rintro _ W3 ⟨rfl, hb_t2⟩
    have hL_t2 := hB1.trans (hb_t2.mono (by have := hB1.size; omega))
    replace hs := (hs.below hb_t2 (Nat.le_refl _)).more hb_t2.size
    replace wb := wb.below hb_t2 wb.lt
    replace hB1 := hL_t2
    replace hlt : b3 < W3.heap.size := wb.lt
    refine ⟨_, rfl, ?_⟩
    refine ListK.assign (i := 1) (v := .bool true) rfl (by simp [hz_a2]) ?_
    refine ListK.done (hK _ _ (wpIn_ret ?_))
    exact hret _ _ (by simp only [defers_put, hd_a2]) (by simp [hz_a2]) hB1
end Go.Proofs.Ytfcnombmphophaa
