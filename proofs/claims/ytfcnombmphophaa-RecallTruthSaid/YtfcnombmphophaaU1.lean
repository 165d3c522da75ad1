/- Texts for a law of package recall, behind the shared ones, part 1: the law's own contracts and plain words. -/
import Derived.Test.YtfcnombmphophaaG4

set_option linter.unusedVariables false

namespace Go.Proofs.Ytfcnombmphophaa
open Go.RowKit Go.Shelf
theorem hasI_drop (l : List Int) (n : Int) (k : Nat) (hk : k < l.length) : hasI (l.drop k) n = (l[k] == n || hasI (l.drop (k + 1)) n) := by
  rw [List.drop_eq_getElem_cons hk]
  rfl
set_option maxHeartbeats 400000 in
theorem hasI_any (A : Option Addr) (c : Nat) (l : List Int) (n : Int) (w : World) (hl : l.length ≤ 1000000) (hs : IntsAt w w.heap.size A l) :
    Calls Try.prog 40 #[.slice A l.length c, .int .i64 n] w fun e w' => e = .returned (.bool (hasI l n)) ∧ w = w' := by
  have Hs := Lib.hid hs
  clear hs
  go_enter Try.func40, Try.ntmps40
  go_wp2
  go_loop [5] (fun i => ∃ k : Nat, k ≤ l.length ∧ i = .int .i64 k ∧ hasI l n = hasI (l.drop k) n) (fun i => l.length - (intOf i).toNat)
  case atStart => exact ⟨0, Nat.zero_le _, rfl, rfl⟩
  case round =>
    obtain ⟨k, hk, rfl, hgood⟩ := hrel
    by_cases hlt' : k < l.length
    · obtain ⟨b, off, rfl, hbB, c0⟩ := Hs.out k l[k] (List.getElem?_eq_getElem hlt')
      have HG := Lib.hid hgood
      clear hgood
      by_cases hx : l[k] = n
      · have hh : hasI l n = true := by rw [HG.out, hasI_drop l n k hlt']; simp [hx]
        have HH := Lib.hid hh
        clear hh
        go_wp2_with fail
        go_ret
        exact ⟨by rw [HH.out]; rfl, rfl⟩
      · have hh : hasI l n = hasI (l.drop (k + 1)) n := by rw [HG.out, hasI_drop l n k hlt']; simp [hx]
        have HH := Lib.hid hh
        clear hh
        go_wp2_with fail
        go_round
        case rel => exact ⟨k + 1, by omega, by simp, HH.out⟩
        case measure => simp [intOf]; omega
    · obtain rfl : k = l.length := by omega
      have HH := Lib.hid (show hasI l n = false from by rw [hgood, List.drop_length]; rfl)
      clear hgood
      go_wp2_with fail
      go_ret
      exact ⟨by rw [HH.out]; rfl, rfl⟩
theorem stepR_bound {l : List Sale} {ow x d M : Int} (h0 : 0 ≤ (saleOf l d.toNat).many) (h1 : (saleOf l d.toNat).many ≤ 1000) (h : -M ≤ x ∧ x ≤ M) : -(M + 2000) ≤ stepR l ow x d ∧ stepR l ow x d ≤ M + 2000 := by
  simp only [stepR]
  split <;> split <;> omega
set_option maxHeartbeats 2000000 in
theorem stockR_any (o t ow : Int) (A A1 : Option Addr) (l : List Sale) (done : List Int) (c c1 : Nat) (w : World) (hl : l.length ≤ 12) (hd : done.length ≤ 12) (ht0 : 0 ≤ t) (ht : t ≤ 1000) (hm : ∀ s, s ∈ l → 0 ≤ s.many ∧ s.many ≤ 1000)
    (hdn : ∀ d, d ∈ done → 0 ≤ d ∧ d < l.length) (hs : SalesAt w w.heap.size A l) (h1 : IntsAt w w.heap.size A1 done) :
    Calls Try.prog 69 #[.agg #[.int .i64 o, .int .i64 t, .slice A l.length c], .slice A1 done.length c1, .int .i64 ow] w
      fun e w' => e = .returned (.int .i64 (stockR t l done ow)) ∧ Below w.heap.size w w' := by
  have hB := (Below.refl w.heap.size w).alloc (Nat.le_refl _) (.cells #[.int .i64 o, .int .i64 t, .slice A l.length c] 24)
  have Hs := Lib.hid (hs.below hB (Nat.le_refl _))
  have H1 := Lib.hid (h1.below hB (Nat.le_refl _))
  have HM := Lib.hid hm
  have HD := Lib.hid hdn
  clear hs h1 hm hdn
  generalize hq : stockR t l done ow = res
  have hq' : res = done.foldl (stepR l ow) (if ow = 0 then t else 0) := by rw [← hq]; rfl
  have HQ := Lib.hid hq'
  clear hq hq'
  have HX : (ow == 0) = true ∧ Hid (res = done.foldl (stepR l ow) t) ∨ (ow == 0) = false ∧ Hid (res = done.foldl (stepR l ow) 0) := by
    have := HQ.out
    by_cases e : ow = 0
    · rw [if_pos e] at this
      exact .inl ⟨by simpa using e, Lib.hid this⟩
    · rw [if_neg e] at this
      exact .inr ⟨by simpa using e, Lib.hid this⟩
  clear HQ
  rcases HX with ⟨h0, HQ⟩ | ⟨h0, HQ⟩
  all_goals
    go_enter Try.func69, Try.ntmps69
    go_wp2_with fail
    go_loopw [7, 8] (fun n i wr => ∃ (k : Nat) (x : Int), k ≤ done.length ∧ n = .int .i64 x ∧ i = .int .i64 k ∧ res = (done.drop k).foldl (stepR l ow) x ∧ -(1000 + 2000 * (k : Int)) ≤ x ∧ x ≤ 1000 + 2000 * (k : Int) ∧ Below (w.heap.size + 1) (w.alloc (.cells #[.int .i64 o, .int .i64 t, .slice A l.length c] 24)) wr) (fun _ i _ => done.length - (intOf i).toNat)
    case atStart => exact ⟨0, _, Nat.zero_le _, rfl, rfl, HQ.out, by omega, by omega, Below.refl _ _⟩
    case round =>
      obtain ⟨k, x, hk, rfl, rfl, hgood, hx2, hx3, hb⟩ := hrel
      have hz : w.heap.size + 1 ≤ wr.heap.size := by have := hb.size; simp at this; omega
      have q2 : wr.cell? ⟨w.heap.size, 2, none⟩ = some (.slice A l.length c) := (hb.cell (p := ⟨w.heap.size, 2, none⟩) (by simp)).trans (by go_simp)
      have hB2 := hB.trans (hb.mono (by simp))
      by_cases hlt' : k < done.length
      · obtain ⟨b1, off1, rfl, hbB1, d0⟩ := (H1.out.more (by omega)).below hb (Nat.le_refl _) k done[k] (List.getElem?_eq_getElem hlt')
        have hdr := HD.out done[k] (List.getElem_mem hlt')
        have hstep : (done.drop k).foldl (stepR l ow) x = (done.drop (k + 1)).foldl (stepR l ow) (stepR l ow x done[k]) := by
          rw [List.drop_eq_getElem_cons hlt']
          rfl
        have hgl : l[(done[k]).toNat]? = some l[(done[k]).toNat] := List.getElem?_eq_getElem (by omega)
        obtain ⟨b, off, rfl, hbB, c0, c1, c2, c3, c4⟩ := (Hs.out.more (by omega)).below hb (Nat.le_refl _) (done[k]).toNat _ hgl
        have hmm := HM.out _ (List.getElem_mem (show (done[k]).toNat < l.length by omega))
        have hsl := saleOf_eq hgl
        have hbd := stepR_bound (l := l) (ow := ow) (x := x) (d := done[k]) (M := 1000 + 2000 * (k : Int)) (by rw [hsl]; omega) (by rw [hsl]; omega) ⟨hx2, hx3⟩
        have hse : stepR l ow x done[k] = (let s := l[(done[k]).toNat]'(by omega); let y := if s.dst = ow then x + s.many else x; if s.src = ow then y - s.many else y) := by simp only [stepR, hsl]
        rw [hstep] at hgood
        have HG := Lib.hid hgood
        clear hgood hstep
        have hzz : w.heap.size < wr.heap.size := by omega
        have hbz : b < wr.heap.size := by omega
        have hbz1 : b1 < wr.heap.size := by omega
        clear hsl hgl
        generalize l[(done[k]).toNat] = s at *
        obtain ⟨sa, sb, sm, sx, sy⟩ := s
        simp only [] at c0 c1 c2 c3 c4 hmm hse
        generalize stepR l ow x done[k] = x' at *
        generalize done[k] = dk at *
        obtain ⟨dn, rfl⟩ : ∃ n : Nat, dk = n := ⟨dk.toNat, by omega⟩
        simp only [Int.toNat_natCast] at c0 c1 c2 c3 c4
        have hdn : dn < l.length := by omega
        have HSE := Lib.hid hse
        have HBD := Lib.hid hbd
        clear hse hbd hdr
        go_wp2_with fail
        go_region
        go_wp2_with fail
        all_goals
          refine ⟨⟨k + 1, x', by omega, ?_, by simp, HG.out, by have := HBD.out; push_cast; omega, by have := HBD.out; push_cast; omega, (hb.alloc hz _).drew⟩, by simp [intOf]; omega⟩
          rw [HSE.out]
          simp_all
      · obtain rfl : k = done.length := by omega
        have hgood' : res = x := by rw [hgood, List.drop_length]; rfl
        subst hgood'
        clear hgood
        go_wp2_with fail
        go_ret
        exact ⟨rfl, hB2⟩
theorem bd24 (x y : Int) (w : World) : (Instr.build 24 #[(0, .int .i64 x), (1, .int .i64 y)]).run Try.prog w = .ok (.agg #[.int .i64 x, .int .i64 y, .slice none 0 0]) w := by
  go_simp
theorem st24 {w : World} {b : Nat} {u1 u2 u3 : Value} {x y : Int} {A : Option Addr} {n c : Nat} (h0 : w.cell? ⟨b, 0, none⟩ = some u1) (h1 : w.cell? ⟨b, 1, none⟩ = some u2) (h2 : w.cell? ⟨b, 2, none⟩ = some u3) (f0 : w.frozen? ⟨b, 0, none⟩ = false) (f1 : w.frozen? ⟨b, 1, none⟩ = false) (f2 : w.frozen? ⟨b, 2, none⟩ = false) :
    (Instr.storeAt 24 (.pointer (some ⟨b, 0, none⟩)) (.agg #[.int .i64 x, .int .i64 y, .slice A n c])).run Try.prog w = .ok () (((w.setCell ⟨b, 0, none⟩ (.int .i64 x)).setCell ⟨b, 1, none⟩ (.int .i64 y)).setCell ⟨b, 2, none⟩ (.slice A n c)) := by
  go_simp
theorem bs22_1 (s : Sale) (w : World) : (Instr.buildSlice 22 1 #[(0, saleV s)]).run Try.prog w = .ok (.slice (some ⟨w.heap.size, 0, none⟩) 1 1) (w.alloc (.cells (saleC s) 73)) := by
  unfold saleV saleC
  go_simp
end Go.Proofs.Ytfcnombmphophaa
namespace Go.Proofs.Ytfcnombmphophaa
open Go.RowKit Go.Shelf
theorem bd71 (x y : Int) (w : World) : (Instr.build 71 #[(0, .int .i64 x), (1, .int .i64 y)]).run Try.prog w = .ok (.agg #[.int .i64 x, .int .i64 y]) w := by
  go_simp
section
attribute [local irreducible] AnyK StepK
end
end Go.Proofs.Ytfcnombmphophaa
namespace Go.Proofs.Ytfcnombmphophaa
open Go.RowKit Go.Shelf
section
variable {o t : Int} {A A2 : Option Addr} {l l2 : List Sale} {c c2 : Nat} {n_ on ow : Int} {b3 px B i : Nat} {a1 : Act} {W W1 : World} {Q : Exit → Act → World → Prop}
end
end Go.Proofs.Ytfcnombmphophaa
namespace Go.Proofs.Ytfcnombmphophaa
open Go.RowKit Go.Shelf
theorem quo3r {x y : Operand} {m n r : Int} (h0 : 0 ≤ m) (h1 : 0 < n) (hm : m ≤ 1000000) (hr : m / n = r) (w : World) : (do eqGuard .quo 3 x y (.int .i64 m) (.int .i64 n); binOp .quo 3 (.int .i64 m) (.int .i64 n) : Sem Value).run Try.prog w = .ok (.int .i64 r) w := by
  have h2 : n ≠ 0 := by omega
  have h3 : m.tdiv n = m / n := Int.tdiv_eq_ediv_of_nonneg h0
  have h5 : 0 ≤ m / n := Int.ediv_nonneg h0 (by omega)
  have h6 : m / n ≤ m := Int.ediv_le_self _ h0
  have h4 := IntWalk.i64_in (m / n) (by omega)
  subst hr
  rw [← h3] at h4 ⊢
  go_simp
  rw [h3] at h4
  exact h4
theorem mxc (m n : Int) (ty : TypeId) (w : World) : (builtin .max #[3, 3] ty #[true, false] #[.int .i64 m, .int .i64 n]).run Try.prog w = .ok (.value (.int .i64 (max m n))) w := by
  go_simp
  split <;> omega
theorem mnc (m n : Int) (ty : TypeId) (w : World) : (builtin .min #[3, 3] ty #[true, false] #[.int .i64 m, .int .i64 n]).run Try.prog w = .ok (.value (.int .i64 (min m n))) w := by
  go_simp
  split <;> omega
theorem gtrFx {x y : Operand} {m n : Int} (h : ¬ n < m) (w : World) : (do eqGuard .gtr 3 x y (.int .i64 m) (.int .i64 n); binOp .gtr 3 (.int .i64 m) (.int .i64 n) : Sem Value).run Try.prog w = .ok (.bool false) w := by
  go_simp
section
variable {P : Program} {ops : Array Oper} {K : Act → World → Prop} {Kp : Nat → World → World → Prop} {fuel k : Nat} {listed : Array Bool} {a : Act} {w : World} {i d : Nat} {ty : TypeId} {pos : String} {aft : Array Edge} {gd : Option (Nat × Bool)} {u v x : Value} {y : Nat} {tys : Array TypeId} {bi : Builtin}
theorem AnyK.bi2 {R : World → Prop} {T : Nat → Bool} (m : May ops Kp listed R T i ⟨some d, .call { callee := .builtin bi, args := #[.const x, .tmp y], argTypes := tys }, ty, pos, aft, gd⟩)
    (hy : a.eval (.tmp y) = u) (hv : ∀ w, (builtin bi tys ty #[true, false] #[x, u]).run P w = .ok (.value v) w) (hS : R w)
    (h : AnyK P ops K Kp fuel (listed.setIfInBounds i true) (a.put (some d) v) w) (hw : Region.wanted ⟨some d, .call { callee := .builtin bi, args := #[.const x, .tmp y], argTypes := tys }, ty, pos, aft, gd⟩ (yielded ops a.tmps) = true := by rfl) : AnyK P ops K Kp (fuel + 1) listed a w :=
  AnyK.take m (.inl ⟨hw, fun w' _ => by
    have := hv w'
    simp [execOp, resolve, invoke, hy, this]⟩) hS h
theorem AnyK.conv {R : World → Prop} {T : Nat → Bool} {s t : TypeId} {z : Operand} (m : May ops Kp listed R T i ⟨some d, .convert s t z, ty, pos, aft, gd⟩)
    (hz : a.eval z = u) (hv : ∀ w, (convert s t u).run P w = .ok v w) (hS : R w)
    (h : AnyK P ops K Kp fuel (listed.setIfInBounds i true) (a.put (some d) v) w) (hw : Region.wanted ⟨some d, .convert s t z, ty, pos, aft, gd⟩ (yielded ops a.tmps) = true := by rfl) : AnyK P ops K Kp (fuel + 1) listed a w :=
  AnyK.take m (.inl ⟨hw, fun w' _ => by simp [execOp, hz, hv w']⟩) hS h
theorem ListK.bi2 (hi : ops[i]? = some ⟨some d, .call { callee := .builtin bi, args := #[.const x, .tmp y], argTypes := tys }, ty, pos, aft, gd⟩) (hy : a.eval (.tmp y) = u) (hv : (builtin bi tys ty #[true, false] #[x, u]).run P w = .ok (.value v) w)
    (h : ListK P ops K k (i + 1) (a.put (some d) v) w) (hw : Region.wanted ⟨some d, .call { callee := .builtin bi, args := #[.const x, .tmp y], argTypes := tys }, ty, pos, aft, gd⟩ (yielded ops a.tmps) = true := by rfl) : ListK P ops K (k + 1) i a w :=
  ListK.valW hi hw (by simp [execOp, resolve, invoke, hy, hv]) h
end
section
attribute [local irreducible] AnyK StepK
end
end Go.Proofs.Ytfcnombmphophaa
namespace Go.Proofs.Ytfcnombmphophaa
open Go.RowKit Go.Shelf
theorem map_range (l : List Sale) : (List.range l.length).map (saleOf l) = l := by
  apply List.ext_getElem?
  intro k
  rw [List.getElem?_map]
  by_cases h : k < l.length
  · rw [List.getElem?_range h, List.getElem?_eq_getElem h]
    simp only [Option.map_some]
    rw [saleOf_eq (List.getElem?_eq_getElem h)]
  · rw [List.getElem?_eq_none (by simpa using h), List.getElem?_eq_none (by omega)]
    rfl
end Go.Proofs.Ytfcnombmphophaa
namespace Go.Proofs.Ytfcnombmphophaa
open Go.RowKit Go.Shelf
end Go.Proofs.Ytfcnombmphophaa
namespace Go.Proofs.Ytfcnombmphophaa
open Go.RowKit Go.Shelf
end Go.Proofs.Ytfcnombmphophaa
namespace Go.Proofs.Ytfcnombmphophaa
open Go.RowKit Go.Shelf
/-! The fewest sales. -/
end Go.Proofs.Ytfcnombmphophaa
namespace Go.Proofs.Ytfcnombmphophaa
open Go.RowKit Go.Shelf Go.ChangeShapes Go.WideShapes
section
variable {P : Program} {ops : Array Oper} {K : Act → World → Prop} {Kp : Nat → World → World → Prop} {fuel k : Nat} {listed : Array Bool} {a : Act} {w w' : World} {i d : Nat} {ty : TypeId} {pos : String} {aft : Array Edge} {gd : Option (Nat × Bool)} {u u' v v2 v' : Value} {t : TypeId} {x y : Operand}
theorem StepK.app22r {ops : Array Oper} {s z : Operand} (hi : ops[i]? = some ⟨some d, .call { callee := .builtin .append, args := #[s, z], argTypes := #[22, 22] }, ty, pos, aft, none⟩) (hs : a.eval s = v) (hx : a.eval z = v2)
    (hr : (Builtin.append_ #[22, 22] ty #[v, v2]).run Try.prog w = .ok v' w') (hk : Kp i w w') (h : AnyK Try.prog ops K Kp fuel (listed.setIfInBounds i true) (a.put (some d) v') w') : StepK Try.prog ops K Kp fuel listed a w i := by
  unfold StepK opG
  simp only [hi]
  rw [if_pos (show Region.wanted _ _ = true from rfl)]
  simp [Oper.wp, execOp, resolve, invoke, builtin, hs, hx, hr, Oper.upon]
  exact ⟨hk, h⟩
end
section
attribute [local irreducible] AnyK StepK
end
end Go.Proofs.Ytfcnombmphophaa
namespace Go.Proofs.Ytfcnombmphophaa
open Go.RowKit Go.Shelf
noncomputable def opsEv0 : Array Oper := (Try.f34.body.bind (regionOf 0)).getD #[]
noncomputable def opsEv1 : Array Oper := (Try.f34.body.bind (regionOf 1)).getD #[]
noncomputable def opsEv2 : Array Oper := (Try.f34.body.bind (regionOf 2)).getD #[]
noncomputable def opsEv3 : Array Oper := (Try.f34.body.bind (regionOf 3)).getD #[]
noncomputable def opsEv4 : Array Oper := (Try.f34.body.bind (regionOf 4)).getD #[]
noncomputable def opsEv5 : Array Oper := (Try.f34.body.bind (regionOf 5)).getD #[]
noncomputable def opsEv6 : Array Oper := (Try.f34.body.bind (regionOf 6)).getD #[]
noncomputable def opsEv7 : Array Oper := (Try.f34.body.bind (regionOf 7)).getD #[]
noncomputable def code34 : Code := (.seq (.region 0 opsEv0 false) (.seq (.region 1 opsEv1 false) (.seq (.seq (.region 2 opsEv2 false) (.block 0 (.loop (.seq (.seq (.region 3 opsEv3 false) (.cond (.tmp 14) .skip (.exit 0))) (.seq (.block 1 (.seq (.region 5 opsEv5 false) (.cond (.tmp 22) (.region 6 opsEv6 false) .skip))) (.region 4 opsEv4 false)))))) (.seq (.region 7 opsEv7 false) .ret))))
theorem body34 : Try.f34.body = some code34 := by kernel_rfl
/-- The sales that are done on the evening of a day. -/
def eveL (ds : List Int) (on : Int) : Nat → List Int
  | 0 => []
  | k + 1 => if (ds[k]?).getD 0 ≤ on then eveL ds on k ++ [(k : Int)] else eveL ds on k
theorem eveL_length (ds : List Int) (on : Int) : ∀ k, (eveL ds on k).length ≤ k
  | 0 => Nat.le_refl _
  | k + 1 => by
    have := eveL_length ds on k
    unfold eveL
    split
    · simp; omega
    · omega
theorem eveL_mem (ds : List Int) (on : Int) : ∀ k d, d ∈ eveL ds on k → 0 ≤ d ∧ d < k
  | 0, d, h => by simp [eveL] at h
  | k + 1, d, h => by
    unfold eveL at h
    split at h
    · rcases List.mem_append.1 h with h | h
      · have := eveL_mem ds on k d h
        omega
      · simp at h
        omega
    · have := eveL_mem ds on k d h
      omega
set_option maxRecDepth 10000 in
set_option maxHeartbeats 1000000 in
theorem evening_any2 (o t ow on : Int) (A A1 : Option Addr) (l : List Sale) (ds : List Int) (c c1 : Nat) (W : World) (hl : l.length ≤ 12) (hd : ds.length ≤ l.length) (ht0 : 0 ≤ t) (ht : t ≤ 1000) (hm : ∀ s, s ∈ l → 0 ≤ s.many ∧ s.many ≤ 1000) (hs : SalesAt W W.heap.size A l) (h1 : IntsAt W W.heap.size A1 ds) :
    Calls Try.prog 34 #[.agg #[.int .i64 o, .int .i64 t, .slice A l.length c], .slice A1 ds.length c1, .int .i64 ow, .int .i64 on] W fun e w' => e = .returned (.int .i64 (stockR t l (eveL ds on ds.length) ow)) ∧ Below W.heap.size W w' := by
  refine (callsIn_wide (n := 5)).1 (callsIn_of_wp Try.func34 body34 trivial ?_ rfl)
  obtain ⟨a, ha⟩ : ∃ a : Act, a = { tmps := #[.agg #[.int .i64 o, .int .i64 t, .slice A l.length c], .slice A1 ds.length c1, .int .i64 ow, .int .i64 on] ++ Array.replicate (Try.f34.ntmps - (#[.agg #[.int .i64 o, .int .i64 t, .slice A l.length c], .slice A1 ds.length c1, .int .i64 ow, .int .i64 on] : Array Value).size) undef, defers := [] } := ⟨_, rfl⟩
  have hsz : a.tmps.size = 31 := by rw [ha]; simp [Try.ntmps34]
  have t0 : a.eval (.tmp 0) = .agg #[.int .i64 o, .int .i64 t, .slice A l.length c] := by rw [ha]; simp [Act.eval]
  have t1 : a.eval (.tmp 1) = .slice A1 ds.length c1 := by rw [ha]; simp [Act.eval]
  have t2 : a.eval (.tmp 2) = .int .i64 ow := by rw [ha]; simp [Act.eval]
  have t3 : a.eval (.tmp 3) = .int .i64 on := by rw [ha]; simp [Act.eval]
  have hdf : a.defers = [] := by rw [ha]
  rw [← ha]
  clear ha
  have hs0 := hs
  have h10 := h1
  unfold code34
  refine wpIn_seq (region_p 2 ?_)
  intro K hK
  refine ListK.box (i := 0) (u := .agg #[.int .i64 o, .int .i64 t, .slice A l.length c]) rfl (by simp [t0]) (bx24 W _ _ _ _ _) ?_
  refine ListK.assign (i := 1) (v := .int .i64 0) rfl (by simp) ?_
  refine ListK.done (hK _ _ ?_)
  clear hK K
  have wb := Whole.new W 24 #[.int .i64 o, .int .i64 t, .slice A l.length c]
  have hB1 : Below W.heap.size W (W.alloc (.cells #[.int .i64 o, .int .i64 t, .slice A l.length c] 24)) := (Below.refl _ W).alloc (Nat.le_refl _) _
  have hS1 := hB1.size
  have hlt : W.heap.size < (W.alloc (.cells #[.int .i64 o, .int .i64 t, .slice A l.length c] 24)).heap.size := by simp
  generalize hb3 : W.heap.size = b3 at *
  generalize W.alloc (.cells #[.int .i64 o, .int .i64 t, .slice A l.length c] 24) = W1 at *
  replace hs : SalesAt W1 W1.heap.size A l := (hs.below hB1 (Nat.le_refl _)).more hS1
  generalize hA : Act.put _ _ _ = a1
  have hz_a1 : a1.tmps.size = 31 := by rw [← hA]; simp only [size_put, hsz]
  have u1 : a1.eval (.tmp 1) = .slice A1 ds.length c1 := by rw [← hA]; exact (by simp [t1])
  have u2 : a1.eval (.tmp 2) = .int .i64 ow := by rw [← hA]; exact (by simp [t2])
  have u3 : a1.eval (.tmp 3) = .int .i64 on := by rw [← hA]; exact (by simp [t3])
  have u4 : a1.eval (.tmp 4) = .pointer (some ⟨b3, 0, none⟩) := by rw [← hA]; exact (by simp [hsz])
  have hd_a1 : a1.defers = [] := by rw [← hA]; simp only [defers_put, hdf]
  clear hA
  refine wpIn_seq (region_p 1 ?_)
  intro K hK
  refine ListK.assign (i := 0) (v := .slice none 0 0) rfl (by simp) ?_
  refine ListK.done (hK _ _ ?_)
  clear hK K
  generalize hA : Act.put _ _ _ = a2
  have hz_a2 : a2.tmps.size = 31 := by rw [← hA]; simp only [size_put, hz_a1]
  have v1 : a2.eval (.tmp 1) = .slice A1 ds.length c1 := by rw [← hA]; exact (by simp [u1])
  have v2 : a2.eval (.tmp 2) = .int .i64 ow := by rw [← hA]; exact (by simp [u2])
  have v3 : a2.eval (.tmp 3) = .int .i64 on := by rw [← hA]; exact (by simp [u3])
  have v4 : a2.eval (.tmp 4) = .pointer (some ⟨b3, 0, none⟩) := by rw [← hA]; exact (by simp [u4])
  have v9 : a2.eval (.tmp 9) = .slice none 0 0 := by rw [← hA]; exact (by simp [hz_a1])
  have hd_a2 : a2.defers = [] := by rw [← hA]; simp only [defers_put, hd_a1]
  clear hA
  refine wpIn_seq (wpIn_seq (region_p 1 ?_))
  intro K hK
  refine ListK.assign (i := 0) (v := .int .i64 0) rfl (by simp) ?_
  refine ListK.done (hK _ _ ?_)
  clear hK K
  refine wpIn_block (wpIn_loop (fun a W' => ∃ (k : Nat) (v : Value), k ≤ ds.length ∧ a.tmps.size = 31 ∧ a.defers = [] ∧ a.eval (.tmp 1) = .slice A1 ds.length c1 ∧ a.eval (.tmp 2) = .int .i64 ow ∧ a.eval (.tmp 3) = .int .i64 on ∧ a.eval (.tmp 4) = .pointer (some ⟨b3, 0, none⟩) ∧ a.eval (.tmp 9) = v ∧ a.eval (.tmp 10) = .int .i64 k ∧ OL W1 v (eveL ds on k) W') (fun a _ => ds.length - (intOf (a.eval (.tmp 10))).toNat)
    ⟨0, .slice none 0 0, Nat.zero_le _, (by simp only [size_put, hz_a2]), (by simp only [defers_put, hd_a2]), (by simp [v1]), (by simp [v2]), (by simp [v3]), (by simp [v4]), (by simp [v9]), (by simp [hz_a2]), ⟨Below.refl _ _, World.ownsRow_nil _ _ _ _⟩⟩ ?_)
  clear hsz t0 t1 t2 t3 hdf hz_a1 u1 u2 u3 u4 hd_a1 hz_a2 v1 v2 v3 v4 v9 hd_a2 a a1 a2
  rintro a W2 ⟨k, v, hk, hsz, hdf, t1, t2, t3, t4, t9, t10, hol⟩
  have wb2 := wb.below hol.low wb.lt
  have hB2 := hB1.trans (hol.low.mono (by have := hB1.size; omega))
  refine wpIn_seq (wpIn_seq (region_p 4 ?_))
  intro K hK
  refine ListK.move (i := 0) (v := .int .i64 k) rfl (by simp [t10]) ?_
  refine ListK.move (i := 1) (v := .slice A1 ds.length c1) rfl (by simp [t1]) ?_
  refine ListK.len (i := 2) (u := .slice A1 ds.length c1) (v := .int .i64 ds.length) rfl (by simp [hsz]) (ln25 _ _ _ _ _) rfl ?_
  refine ListK.bin (i := 3) (u := .int .i64 k) (u' := .int .i64 (ds.length : Int)) (v := .bool (decide (k < (ds.length : Int)))) rfl (by simp [hsz]) (by simp [hsz]) (lss3 _) ?_
  refine ListK.done (hK _ _ ?_)
  clear hK K
  by_cases hkl : k < ds.length
  · refine wpIn_cond (t := true) (by simp [hsz]; omega) (wpIn_skip ?_)
    generalize hA : Act.put _ _ _ = a1
    have hz_a1 : a1.tmps.size = 31 := by rw [← hA]; simp only [size_put, hsz]
    have u1 : a1.eval (.tmp 1) = .slice A1 ds.length c1 := by rw [← hA]; exact (by simp [t1])
    have u2 : a1.eval (.tmp 2) = .int .i64 ow := by rw [← hA]; exact (by simp [t2])
    have u3 : a1.eval (.tmp 3) = .int .i64 on := by rw [← hA]; exact (by simp [t3])
    have u4 : a1.eval (.tmp 4) = .pointer (some ⟨b3, 0, none⟩) := by rw [← hA]; exact (by simp [t4])
    have u9 : a1.eval (.tmp 9) = v := by rw [← hA]; exact (by simp [t9])
    have u10 : a1.eval (.tmp 10) = .int .i64 k := by rw [← hA]; exact (by simp [t10])
    have hd_a1 : a1.defers = [] := by rw [← hA]; simp only [defers_put, hdf]
    clear hA
    show (Code.seq _ _).wpIn _ _ _ _ _ _
    have hll := eveL_length ds on k
    obtain ⟨b1, o1, rfl, hb1, hc1⟩ := h10 k _ (List.getElem?_eq_getElem hkl)
    have hc1' : W2.cell? ⟨b1, o1 + k, none⟩ = some (.int .i64 ds[k]) := (hB2.cell (p := ⟨b1, o1 + k, none⟩) (by show b1 < b3; omega)).trans hc1
    have hget : (ds[k]?).getD 0 = ds[k] := by simp [hkl]
    have hend : ∀ (a' : Act) (v' : Value) (W3 : World), a'.tmps.size = 31 → a'.defers = [] → a'.eval (.tmp 1) = .slice (some ⟨b1, o1, none⟩) ds.length c1 → a'.eval (.tmp 2) = .int .i64 ow → a'.eval (.tmp 3) = .int .i64 on → a'.eval (.tmp 4) = .pointer (some ⟨b3, 0, none⟩) → a'.eval (.tmp 9) = v' → a'.eval (.tmp 10) = .int .i64 k → OL W1 v' (eveL ds on (k + 1)) W3 → ∀ Q : Exit → Act → World → Prop,
        (∀ a W', (∃ (k : Nat) (v : Value), k ≤ ds.length ∧ a.tmps.size = 31 ∧ a.defers = [] ∧ a.eval (.tmp 1) = .slice (some ⟨b1, o1, none⟩) ds.length c1 ∧ a.eval (.tmp 2) = .int .i64 ow ∧ a.eval (.tmp 3) = .int .i64 on ∧ a.eval (.tmp 4) = .pointer (some ⟨b3, 0, none⟩) ∧ a.eval (.tmp 9) = v ∧ a.eval (.tmp 10) = .int .i64 k ∧ OL W1 v (eveL ds on k) W') → a.eval (.tmp 10) = .int .i64 ((k + 1 : Nat) : Int) → Q .normal a W') →
        (Code.region 4 opsEv4 false).wpIn Fence.wide 5 Try.prog Q a' W3 := by
      intro a' v' W3 hz hd' x1 x2 x3 x4 x9 x10 ho Q hQ
      refine region_p 3 ?_
      intro K4 hK4
      refine ListK.move (i := 0) (v := .int .i64 k) rfl (by simp [x10]) ?_
      refine ListK.bin (i := 1) (u := .int .i64 k) (u' := .int .i64 1) (v := .int .i64 (k + 1)) rfl (by simp [hz]) (by simp) (add3 (by omega) (by omega) _) ?_
      refine ListK.assign (i := 2) (v := .int .i64 ((k + 1 : Nat) : Int)) rfl (by simp [hz]) ?_
      skip
      exact ListK.done (hK4 _ _ (hQ _ _ ⟨k + 1, v', by omega, by simp only [size_put, hz], by simp only [defers_put, hd'], (by simp [x1]), (by simp [x2]), (by simp [x3]), (by simp [x4]), (by simp [x9]), (by simp [hz]), ho⟩ (by simp [hz])))
    have hmu : ∀ b : Act, b.eval (.tmp 10) = .int .i64 ((k + 1 : Nat) : Int) → ds.length - (intOf (b.eval (.tmp 10))).toNat < ds.length - (intOf (a.eval (.tmp 10))).toNat := by
      intro b e
      rw [e, t10]
      simp only [intOf]
      omega
    refine wpIn_seq (wpIn_block (wpIn_seq (region_p 6 ?_)))
    intro K5 hK5
    refine ListK.move (i := 0) (v := .slice (some ⟨b1, o1, none⟩) ds.length c1) rfl (by simp [u1]) ?_
    refine ListK.move (i := 1) (v := .int .i64 k) rfl (by simp [u10]) ?_
    refine ListK.index (i := 2) (u := .slice (some ⟨b1, o1, none⟩) ds.length c1) (u' := .int .i64 k) (v := .pointer (some ⟨b1, o1 + k, none⟩)) rfl (by simp [hz_a1]) (by simp [hz_a1]) (ix25o hkl _) ?_
    refine ListK.load (i := 3) (p := ⟨b1, o1 + k, none⟩) (v := .int .i64 ds[k]) rfl (by simp [hz_a1]) (ld3 (hc1')) ?_
    refine ListK.move (i := 4) (v := .int .i64 on) rfl (by simp [u3]) ?_
    refine ListK.bin (i := 5) (u := .int .i64 ds[k]) (u' := .int .i64 on) (v := .bool (decide (ds[k] ≤ on))) rfl (by simp [hz_a1]) (by simp [hz_a1]) (leq3 _) ?_
    refine ListK.done (hK5 _ _ ?_)
    by_cases hbt : ds[k] ≤ on
    · refine wpIn_cond (t := true) (by simp [hz_a1]; exact hbt) ?_
      generalize hA : Act.put _ _ _ = a2
      have hz_a2 : a2.tmps.size = 31 := by rw [← hA]; simp only [size_put, hz_a1]
      have x1 : a2.eval (.tmp 1) = .slice (some ⟨b1, o1, none⟩) ds.length c1 := by rw [← hA]; exact (by simp [u1])
      have x2 : a2.eval (.tmp 2) = .int .i64 ow := by rw [← hA]; exact (by simp [u2])
      have x3 : a2.eval (.tmp 3) = .int .i64 on := by rw [← hA]; exact (by simp [u3])
      have x4 : a2.eval (.tmp 4) = .pointer (some ⟨b3, 0, none⟩) := by rw [← hA]; exact (by simp [u4])
      have x9 : a2.eval (.tmp 9) = v := by rw [← hA]; exact (by simp [u9])
      have x10 : a2.eval (.tmp 10) = .int .i64 k := by rw [← hA]; exact (by simp [u10])
      have hd_a2 : a2.defers = [] := by rw [← hA]; simp only [defers_put, hd_a1]
      clear hA
      have hol1 := hol.below ((Below.refl _ W2).alloc (Nat.le_refl _) (.cells #[.int .i64 k] 3))
      show (Code.region 6 opsEv6 false).wpIn _ _ _ _ _ _
      refine region_p 5 ?_
      intro K6 hK6
      refine ListK.move (i := 0) (v := v) rfl (by simp [x9]) ?_
      refine ListK.move (i := 1) (v := .int .i64 k) rfl (by simp [x10]) ?_
      refine ListK.bsl (i := 2) (ps := #[(0, .int .i64 k)]) (v := .slice (some ⟨W2.heap.size, 0, none⟩) 1 1) rfl (by simp [hz_a2]) (bs25_1 _ _) ?_
      refine ListK.append (i := 3) rfl hol1.own (by simp [hz_a2]) ⟨W2.heap.size, 0, none⟩ 1 [.int .i64 k] (by simp [hz_a2]) rfl (news1 (cell_new1 W2 _ _)) (by simp [Value.oneCell']) (by unfold maxLen; omega) (by omega) hol1.low.size ?_
      intro g cap W3 hown hgr hat
      refine ListK.assign (i := 4) (v := .slice (some ⟨g, 0, none⟩) ((eveL ds on k).length + 1) cap) rfl (by simp [hz_a2]) ?_
      refine ListK.done (hK6 _ _ ?_)
      refine hend _ (.slice (some ⟨g, 0, none⟩) ((eveL ds on k).length + 1) cap) W3 (by simp only [size_put, hz_a2]) (by simp only [defers_put, hd_a2]) (by simp [x1]) (by simp [x2]) (by simp [x3]) (by simp [x4]) (by simp [hz_a2]) (by simp [x10]) ?_ _ (fun a' W' h e => ⟨h, hmu _ e⟩)
      rw [show eveL ds on (k + 1) = eveL ds on k ++ [(k : Int)] by simp only [eveL]; rw [hget, if_pos hbt]]
      exact hol1.app hown hgr
    · refine wpIn_cond (t := false) (by simp [hz_a1]; omega) (wpIn_skip ?_)
      refine hend _ v W2 (by simp only [size_put, hz_a1]) (by simp only [defers_put, hd_a1]) (by simp [u1]) (by simp [u2]) (by simp [u3]) (by simp [u4]) (by simp [u9]) (by simp [u10]) ?_ _ (fun a' W' h e => ⟨h, hmu _ e⟩)
      rw [show eveL ds on (k + 1) = eveL ds on k by simp only [eveL]; rw [hget, if_neg hbt]]
      exact hol
  · obtain rfl : k = ds.length := by omega
    refine wpIn_cond (t := false) (by simp [hsz]) (wpIn_exit ?_)
    generalize hA : Act.put _ _ _ = a1
    have hz_a1 : a1.tmps.size = 31 := by rw [← hA]; simp only [size_put, hsz]
    have u2 : a1.eval (.tmp 2) = .int .i64 ow := by rw [← hA]; exact (by simp [t2])
    have u4 : a1.eval (.tmp 4) = .pointer (some ⟨b3, 0, none⟩) := by rw [← hA]; exact (by simp [t4])
    have u9 : a1.eval (.tmp 9) = v := by rw [← hA]; exact (by simp [t9])
    have hd_a1 : a1.defers = [] := by rw [← hA]; simp only [defers_put, hdf]
    clear hA
    show (Code.seq _ _).wpIn _ _ _ _ _ _
    obtain ⟨Ad, cd, rfl, hcd, id_⟩ := hol.ints
    have hs2 : SalesAt W2 W2.heap.size A l := (hs0.below hB2 (Nat.le_refl _)).more (by have := wb2.lt; omega)
    have hel := eveL_length ds on ds.length
    refine wpIn_seq (region_p 5 ?_)
    intro K hK
    refine ListK.load (i := 0) (p := ⟨b3, 0, none⟩) (v := .agg #[.int .i64 o, .int .i64 t, .slice A l.length c]) rfl (by simp [u4]) (ld24 ⟨wb2.cell 0, wb2.cell 1, wb2.cell 2⟩) ?_
    refine ListK.move (i := 1) (v := .slice Ad (eveL ds on ds.length).length cd) rfl (by simp [u9]) ?_
    refine ListK.move (i := 2) (v := .int .i64 ow) rfl (by simp [u2]) ?_
    refine ListK.call (i := 3) (vs := #[.agg #[.int .i64 o, .int .i64 t, .slice A l.length c], .slice Ad (eveL ds on ds.length).length cd, .int .i64 ow]) rfl (enters_of Try.func69 (by kernel_rfl) rfl) (by simp [hz_a1]) (((stockR_any o t ow A Ad l (eveL ds on ds.length) c cd W2 hl (by omega) ht0 ht hm (fun d h => by have := eveL_mem ds on _ d h; omega) hs2 id_)).mono ?_)
    rintro _ W3 ⟨rfl, hb3_⟩
    refine ⟨_, rfl, ?_⟩
    refine ListK.assign (i := 4) (v := .int .i64 (stockR t l (eveL ds on ds.length) ow)) rfl (by simp [hz_a1]) ?_
    refine ListK.done (hK _ _ (wpIn_ret ?_))
    show bodyPost Try.prog Try.f34 (fun e w' => e = .returned (.int .i64 (stockR t l (eveL ds on ds.length) ow)) ∧ Below b3 W w') Exit.ret _ _
    exact bodyPost_ret (v := .int .i64 (stockR t l (eveL ds on ds.length) ow)) (res1 Try.results34 (by simp [hz_a1])) (by simp only [defers_put, hd_a1]) ⟨rfl, hB2.trans (hb3_.mono (by have := wb2.lt; omega))⟩
end Go.Proofs.Ytfcnombmphophaa
namespace Go.Proofs.Ytfcnombmphophaa
open Go.RowKit Go.Shelf
theorem hasI_iff {l : List Int} {n : Int} : hasI l n = true ↔ n ∈ l := by
  unfold hasI
  rw [List.any_eq_true]
  constructor
  · rintro ⟨x, hx, e⟩
    have : x = n := by simpa using e
    rw [← this]
    exact hx
  · intro h
    exact ⟨n, h, by simp⟩
theorem eveL_has {ds : List Int} {on : Int} : ∀ {k m : Nat}, ((m : Int) ∈ eveL ds on k ↔ m < k ∧ (ds[m]?).getD 0 ≤ on)
  | 0, m => by simp [eveL]
  | k + 1, m => by
    unfold eveL
    split
    · rename_i h
      rw [List.mem_append, eveL_has, List.mem_singleton]
      constructor
      · rintro (⟨h1, h2⟩ | h1)
        · exact ⟨by omega, h2⟩
        · have : m = k := by omega
          subst this
          exact ⟨by omega, h⟩
      · rintro ⟨h1, h2⟩
        by_cases e : m = k
        · exact .inr (by omega)
        · exact .inl ⟨by omega, h2⟩
    · rename_i h
      rw [eveL_has]
      constructor
      · rintro ⟨h1, h2⟩
        exact ⟨by omega, h2⟩
      · rintro ⟨h1, h2⟩
        by_cases e : m = k
        · subst e
          exact absurd h2 h
        · exact ⟨by omega, h2⟩
theorem eve_same {o t : Int} {l : List Sale} (hv : Valid o t l) (ds : List Int) (on : Int) : ∀ k, k ≤ l.length → ∃ d, Same t l (eveL ds on k) d
  | 0, _ => ⟨0, Same.zero t l⟩
  | k + 1, hk => by
    obtain ⟨d, h⟩ := eve_same hv ds on k (by omega)
    unfold eveL
    split
    · refine ⟨d ||| 2 ^ k, h.snoc hv (by omega) ?_⟩
      rw [h.bits]
      cases hh : hasI (eveL ds on k) (k : Int) with
      | false => rfl
      | true =>
        have := eveL_mem ds on k _ (hasI_iff.1 hh)
        omega
    · exact ⟨d, h⟩
/-- What an owner has on an evening, by the days of all sales of a truth. -/
theorem evening_tru {o t : Int} {l : List Sale} (hv : Valid o t l) {ps : List (Nat × Int)} (h : TruP t l ps) {ds : List Int} (hd : ∀ p, p ∈ ps → ds[p.1]? = some p.2) (on : Int) (ow : Nat) : stockR t l (eveL ds on l.length) ow = stocksOf t l (eveSet ps on) ow := by
  obtain ⟨d, hs⟩ := eve_same hv ds on l.length (Nat.le_refl _)
  have e : d = eveSet ps on := by
    apply Nat.eq_of_testBit_eq
    intro m
    unfold eveSet
    rw [hs.bits, dset_bit, Nat.zero_testBit, Bool.false_or, Bool.eq_iff_iff, hasI_iff, eveL_has, decide_eq_true_eq]
    constructor
    · rintro ⟨h1, h2⟩
      have hm : m ∈ ps.map (·.1) := (tru_iff.1 h).1.mem_iff.2 (List.mem_range.2 h1)
      obtain ⟨p, hp, rfl⟩ := List.mem_map.1 hm
      rw [hd p hp] at h2
      exact List.mem_map.2 ⟨p, List.mem_filter.2 ⟨hp, by simpa using h2⟩, rfl⟩
    · intro hm
      obtain ⟨p, hp, rfl⟩ := List.mem_map.1 hm
      obtain ⟨hp, hle⟩ := List.mem_filter.1 hp
      refine ⟨(tru_mem h hp).1, ?_⟩
      rw [hd p hp]
      simpa using hle
  rw [← e]
  exact (hs.st ow).symm
/-! Truths sale by sale. -/
def GoS : (Nat → Int) → Int → List (Sale × Int) → Prop
  | _, _, [] => True
  | st, x, p :: ps => p.1.many ≤ st p.1.src.toNat ∧ p.1.lo ≤ p.2 ∧ p.2 ≤ p.1.hi ∧ x ≤ p.2 ∧ GoS (sold st p.1) p.2 ps
def lastQ (x : Int) (ps : List (Sale × Int)) : Int := ps.foldl (fun _ p => p.2) x
theorem GoS.snoc : ∀ {ps : List (Sale × Int)} {st : Nat → Int} {x : Int} {p : Sale × Int}, GoS st x ps → p.1.many ≤ ps.foldl (fun st p => sold st p.1) st p.1.src.toNat → p.1.lo ≤ p.2 → p.2 ≤ p.1.hi → lastQ x ps ≤ p.2 → GoS st x (ps ++ [p])
  | [], _, _, _, _, h1, h2, h3, h4 => ⟨h1, h2, h3, h4, trivial⟩
  | q :: ps, st, x, p, ⟨a, b, c, d, e⟩, h1, h2, h3, h4 => ⟨a, b, c, d, GoS.snoc e h1 h2 h3 h4⟩
theorem lastQ_snoc (x : Int) (ps : List (Sale × Int)) (p : Sale × Int) : lastQ x (ps ++ [p]) = p.2 := by simp [lastQ]
theorem GoS.fair {o t : Int} : ∀ {ps : List (Sale × Int)} {st : Nat → Int} {x : Int}, GoS st x ps → (∀ p, p ∈ ps → saleOk o p.1 = true) → Fair o t st → Fair o t (ps.foldl (fun st p => sold st p.1) st)
  | [], _, _, _, _, h => h
  | p :: ps, st, x, ⟨a, b, c, d, e⟩, hok, h => by
    have hf := saleOk_facts (hok p List.mem_cons_self)
    rw [List.foldl_cons]
    exact GoS.fair (ps := ps) e (fun q hq => hok q (List.mem_cons_of_mem _ hq)) (h.sold ⟨hf.1, hf.2.1⟩ ⟨hf.2.2.1, hf.2.2.2.1⟩ hf.2.2.2.2.1 (by omega) a)
theorem fold_zip : ∀ (l : List Sale) (ds : List Int) (st : Nat → Int), ds.length = l.length → (l.zip ds).foldl (fun st p => sold st p.1) st = l.foldl sold st
  | [], _, _, _ => by simp
  | s :: l, [], _, h => by simp at h
  | s :: l, d :: ds, st, h => by
    rw [List.zip_cons_cons, List.foldl_cons, List.foldl_cons]
    exact fold_zip l ds _ (by simpa using h)
/-- The numbers of all sales. -/
def upTo : Nat → List Int
  | 0 => []
  | k + 1 => upTo k ++ [(k : Int)]
theorem upTo_length : ∀ k, (upTo k).length = k
  | 0 => rfl
  | k + 1 => by simp [upTo, upTo_length k]
theorem upTo_mem : ∀ {k : Nat} {d : Int}, d ∈ upTo k → 0 ≤ d ∧ d < k
  | 0, d, h => by simp [upTo] at h
  | k + 1, d, h => by
    rcases List.mem_append.1 h with h | h
    · have := upTo_mem h
      omega
    · simp at h
      omega
theorem stock_fold {o t : Int} {l : List Sale} (hv : Valid o t l) (i : Nat) : ∀ k, k ≤ l.length → stockR t l (upTo k) i = ((l.take k).foldl sold (upd (fun _ => 0) 0 t)) i
  | 0, _ => by
    unfold stockR upTo upd
    simp
  | k + 1, hk => by
    have hf := saleOf_valid hv (show k < l.length by omega)
    unfold upTo
    rw [stockR_app, List.take_succ_eq_append_getElem (by omega), List.foldl_append, List.foldl_cons, List.foldl_nil, ← saleOf_eq (List.getElem?_eq_getElem (show k < l.length by omega))]
    exact (sold_step (by omega) hf.1 hf.2.2.1 hf.2.2.2.2.1 (stock_fold hv i k (by omega)).symm).symm
/-- One word of Truly: the sales, their days, the day. -/
def trStep (o t : Int) (s : List Sale × List Int × Int) (w : Nat) : List Sale × List Int × Int :=
  if (w : Int) % o = (w : Int) / 8 % o ∨ stockR t s.1 (upTo s.1.length) ((w : Int) % o) = 0 then s
  else (s.1 ++ [⟨(w : Int) % o, (w : Int) / 8 % o, 1 + (w : Int) / 256 % stockR t s.1 (upTo s.1.length) ((w : Int) % o), max 0 (min 100 (s.2.2 + (w : Int) / 64 % 4) - (w : Int) / 512 % 4), min 100 (min 100 (s.2.2 + (w : Int) / 64 % 4) + (w : Int) / 2048 % 4)⟩],
    s.2.1 ++ [min 100 (s.2.2 + (w : Int) / 64 % 4)], min 100 (s.2.2 + (w : Int) / 64 % 4))
structure TrI (o t : Int) (i : Nat) (s : List Sale × List Int × Int) : Prop where
  o1 : 1 ≤ o
  o6 : o ≤ 6
  t0 : 0 ≤ t
  t1 : t ≤ 1000
  len : s.1.length ≤ i
  ok : ∀ x, x ∈ s.1 → saleOk o x = true
  days : s.2.1.length = s.1.length
  day : 0 ≤ s.2.2 ∧ s.2.2 ≤ 100
  run : GoS (upd (fun _ => 0) 0 t) 0 (s.1.zip s.2.1)
  last : lastQ 0 (s.1.zip s.2.1) ≤ s.2.2
theorem TrI.valid {o t : Int} {i : Nat} {s : List Sale × List Int × Int} (h : TrI o t i s) (hi : i ≤ 8) : Valid o t s.1 := ⟨h.o1, h.o6, h.t0, h.t1, by have := h.len; omega, h.ok⟩
theorem TrI.stock {o t : Int} {i : Nat} {s : List Sale × List Int × Int} (h : TrI o t i s) (hi : i ≤ 8) {ow : Int} (h0 : 0 ≤ ow) (h1 : ow < o) : 0 ≤ stockR t s.1 (upTo s.1.length) ow ∧ stockR t s.1 (upTo s.1.length) ow ≤ t ∧ stockR t s.1 (upTo s.1.length) ow = ((s.1.zip s.2.1).foldl (fun st p => sold st p.1) (upd (fun _ => 0) 0 t)) ow.toNat := by
  have hv := h.valid hi
  have e : stockR t s.1 (upTo s.1.length) ow = ((s.1.zip s.2.1).foldl (fun st p => sold st p.1) (upd (fun _ => 0) 0 t)) ow.toNat := by
    have := stock_fold hv ow.toNat s.1.length (Nat.le_refl _)
    rw [Int.toNat_of_nonneg h0, List.take_length] at this
    rw [this, fold_zip _ _ _ h.days]
  have hz : stocksOf t s.1 0 = upd (fun _ => 0) 0 t := stocks_zero t s.1
  have hfa := h.run.fair (o := o) (t := t) (fun p hp => h.ok _ (List.of_mem_zip hp).1) (by rw [← hz]; exact fair_begun hv)
  rw [e]
  exact ⟨hfa.pos _, hfa.le (by omega), rfl⟩
theorem trI_zero {o t : Int} (h1 : 1 ≤ o) (h2 : o ≤ 6) (h3 : 0 ≤ t) (h4 : t ≤ 1000) : TrI o t 0 ([], [], 0) :=
  ⟨h1, h2, h3, h4, Nat.le_refl _, fun x hx => by simp at hx, rfl, ⟨by decide, by decide⟩, trivial, by simp [lastQ]⟩
theorem trI_step {o t : Int} {i : Nat} {s : List Sale × List Int × Int} (h : TrI o t i s) (hi : i < 8) (w : Nat) : TrI o t (i + 1) (trStep o t s w) := by
  have ho := h.o1
  have hf0 : 0 ≤ (w : Int) % o := Int.emod_nonneg _ (by omega)
  have hf1 : (w : Int) % o < o := Int.emod_lt_of_pos _ (by omega)
  have ht0 : 0 ≤ (w : Int) / 8 % o := Int.emod_nonneg _ (by omega)
  have ht1 : (w : Int) / 8 % o < o := Int.emod_lt_of_pos _ (by omega)
  obtain ⟨s0, s1, s2⟩ := h.stock (by omega) hf0 hf1
  have hT := h.t1
  have hdy := h.day
  have hlast := h.last
  have hdl := h.days
  unfold trStep
  split
  · exact ⟨h.o1, h.o6, h.t0, h.t1, by have := h.len; omega, h.ok, h.days, h.day, h.run, h.last⟩
  · rename_i hne
    generalize hfr : (w : Int) % o = fr at *
    generalize hto : (w : Int) / 8 % o = to at *
    generalize hst : stockR t s.1 (upTo s.1.length) fr = st at *
    have hn1 : fr ≠ to ∧ st ≠ 0 := ⟨fun e => hne (.inl e), fun e => hne (.inr e)⟩
    have hq0 : 0 ≤ (w : Int) / 256 % st := Int.emod_nonneg _ (by omega)
    have hq1 : (w : Int) / 256 % st < st := Int.emod_lt_of_pos _ (by omega)
    generalize (w : Int) / 256 % st = qm at *
    obtain ⟨d1, hd1⟩ : ∃ d, (w : Int) / 64 % 4 = d := ⟨_, rfl⟩
    obtain ⟨d2, hd2⟩ : ∃ d, (w : Int) / 512 % 4 = d := ⟨_, rfl⟩
    obtain ⟨d3, hd3⟩ : ∃ d, (w : Int) / 2048 % 4 = d := ⟨_, rfl⟩
    have g1 : 0 ≤ d1 := by omega
    have g2 : 0 ≤ d2 := by omega
    have g3 : 0 ≤ d3 := by omega
    rw [hd1, hd2, hd3]
    obtain ⟨dy, hdy'⟩ : ∃ d, min 100 (s.2.2 + d1) = d := ⟨_, rfl⟩
    rw [hdy']
    have hz : (s.1 ++ [(⟨fr, to, 1 + qm, max 0 (dy - d2), min 100 (dy + d3)⟩ : Sale)]).zip (s.2.1 ++ [dy]) = s.1.zip s.2.1 ++ [(⟨fr, to, 1 + qm, max 0 (dy - d2), min 100 (dy + d3)⟩, dy)] := by
      rw [List.zip_append hdl.symm]
      rfl
    refine ⟨h.o1, h.o6, h.t0, h.t1, ?_, ?_, ?_, ?_, ?_, ?_⟩
    · have := h.len
      simp
      omega
    · intro x hx
      rcases List.mem_append.1 hx with hx | hx
      · exact h.ok x hx
      · simp at hx
        subst hx
        simp [saleOk, inR]
        omega
    · simp [hdl]
    · show 0 ≤ dy ∧ dy ≤ 100
      omega
    · show GoS _ _ (List.zip _ _)
      rw [hz]
      refine h.run.snoc ?_ ?_ ?_ ?_
      · show 1 + qm ≤ _
        rw [← s2]
        omega
      · show max 0 (dy - d2) ≤ dy
        omega
      · show dy ≤ min 100 (dy + d3)
        omega
      · show lastQ _ _ ≤ dy
        omega
    · show lastQ 0 (List.zip _ _) ≤ dy
      rw [hz, lastQ_snoc]
      exact Int.le_refl _
/-- All words; at most eight count. -/
def truly (o t : Int) (ws : List Nat) (i : Nat) : List Sale × List Int × Int := (ws.take i).foldl (trStep o t) ([], [], 0)
theorem truly_step {o t : Int} {ws : List Nat} {i : Nat} (h : i < ws.length) : truly o t ws (i + 1) = trStep o t (truly o t ws i) ws[i] := by
  unfold truly
  rw [List.take_succ_eq_append_getElem h, List.foldl_append]
  rfl
theorem truly_inv {o t : Int} (h1 : 1 ≤ o) (h2 : o ≤ 6) (h3 : 0 ≤ t) (h4 : t ≤ 1000) (ws : List Nat) : ∀ i, i ≤ 8 → i ≤ ws.length → TrI o t i (truly o t ws i)
  | 0, _, _ => trI_zero h1 h2 h3 h4
  | i + 1, h, hw => by
    rw [truly_step (by omega)]
    exact trI_step (truly_inv h1 h2 h3 h4 ws i (by omega) (by omega)) (by omega) _
/-- The days of all sales as a truth. -/
def dayPs (l : List Sale) (ds : List Int) : List (Nat × Int) := (List.range l.length).zip ds
theorem go_goS {l : List Sale} : ∀ {ps : List (Nat × Int)} {st : Nat → Int} {x : Int}, GoP l st x ps ↔ GoS st x (ps.map fun p => (saleOf l p.1, p.2))
  | [], _, _ => Iff.rfl
  | p :: ps, st, x => by
    unfold GoP
    rw [List.map_cons]
    unfold GoS
    rw [go_goS (ps := ps)]
theorem dayPs_mem {l : List Sale} {ds : List Int} {p : Nat × Int} (h : p ∈ dayPs l ds) : ds[p.1]? = some p.2 := by
  unfold dayPs at h
  obtain ⟨i, hi, he⟩ := List.getElem_of_mem h
  rw [List.getElem_zip] at he
  subst he
  have h2 : i < ds.length := by
    simp at hi
    omega
  simp [h2]
theorem tri_tru {o t : Int} {i : Nat} {s : List Sale × List Int × Int} (h : TrI o t i s) : TruP t s.1 (dayPs s.1 s.2.1) := by
  refine tru_iff.2 ⟨?_, go_goS.2 ?_⟩
  · have : (dayPs s.1 s.2.1).map (·.1) = List.range s.1.length := by
      unfold dayPs
      exact List.map_fst_zip (by simp [h.days])
    rw [this]
  · have : (dayPs s.1 s.2.1).map (fun p => (saleOf s.1 p.1, p.2)) = s.1.zip s.2.1 := by
      unfold dayPs
      have h2 := List.zip_map_left (f := saleOf s.1) (l₁ := List.range s.1.length) (l₂ := s.2.1)
      rw [map_range] at h2
      rw [h2]
      rfl
    rw [this]
    exact h.run
end Go.Proofs.Ytfcnombmphophaa
namespace Go.Proofs.Ytfcnombmphophaa
open Go.RowKit Go.Shelf
/-- A slice of words. -/
def WordsAt (w : World) (B : Nat) (A : Option Addr) (l : List Nat) : Prop := ∀ (k x : Nat), l[k]? = some x → x < 65536 ∧ ∃ b off, A = some ⟨b, off, none⟩ ∧ b < B ∧ w.cell? ⟨b, off + k, none⟩ = some (.int .u16 x)
set_option maxRecDepth 100000 in
theorem cv63 {k : Nat} (hk : k < 65536) (w : World) : (convert 63 3 (.int .u16 k)).run Try.prog w = .ok (.int .i64 k) w := by
  have h1 : IntKind.i64.wrap (k : Int) = k := by
    rw [IntKind.wrap_i64]
    omega
  go_simp
theorem ld63 {w : World} {p : Addr} {v : Value} (h : w.cell? p = some v) : (Instr.loadAt 63 (.pointer (some p))).run Try.prog w = .ok v w := by
  go_simp
theorem ix64 {b o n c : Nat} {i : Nat} (h : i < n) (w : World) : (Instr.indexAt 64 (.slice (some ⟨b, o, none⟩) n c) (.int .i64 i)).run Try.prog w = .ok (.pointer (some ⟨b, o + i, none⟩)) w := by
  go_simp
theorem ln64 (A : Option Addr) (n c : Nat) (ty : TypeId) (w : World) : (builtin .len #[64] ty #[false] #[.slice A n c]).run Try.prog w = .ok (.value (.int .i64 n)) w := by
  go_simp
theorem bd73 (a b m : Int) (x y : Int) (w : World) : (Instr.build 73 #[(0, .int .i64 a), (1, .int .i64 b), (2, .int .i64 m), (3, .agg #[.int .i64 x, .int .i64 y])]).run Try.prog w = .ok (.agg #[.int .i64 a, .int .i64 b, .int .i64 m, .int .i64 x, .int .i64 y]) w := by
  go_simp
theorem sale_new {w : World} {p : Nat} {s : Sale} (h : Whole w p 73 (saleC s)) : SalesAt w w.heap.size (some ⟨p, 0, none⟩) [s] := by
  intro k x hx
  cases k with
  | zero =>
    simp at hx
    subst hx
    exact ⟨p, 0, rfl, h.lt, h.cell 0, h.cell 1, h.cell 2, h.cell 3, h.cell 4⟩
  | succ k => simp at hx
theorem own_same {w w' : World} {B e sz n : Nat} {v : Value} {xs : List Value} (h : w.ownsRow B e sz v n xs) (hk : ∀ g, v.ownBlock = some g → w'.heap[g]? = w.heap[g]?) : w'.ownsRow B e sz v n xs := by
  refine ⟨h.1, ?_⟩
  rcases h.2 with hn | ⟨g, cap, cur, rfl, hb, hg, rest⟩
  · exact .inl hn
  · exact .inr ⟨g, cap, cur, rfl, hb, (hk g rfl).trans hg, rest⟩
noncomputable def opsTr8 : Array Oper := (Try.f39.body.bind (regionOf 8)).getD #[]
def wordsTr8 (wd : Nat) (o fr q8 to : Int) : Words := [fun v _ => v = .int .i64 wd, fun v _ => v = .int .i64 o, fun v _ => v = .int .i64 fr, fun v _ => v = .int .i64 wd, fun v _ => v = .int .i64 q8, fun v _ => v = .int .i64 o, fun v _ => v = .int .i64 to, fun v _ => v = .int .i64 fr, fun v _ => v = .int .i64 to]
set_option maxRecDepth 10000 in
theorem okTr8_0 {wd : Nat} {o fr q8 to : Int} {a : Act} {w : World} (t0 : a.eval (.tmp 0) = .int .i64 o) (t13 : a.eval (.tmp 13) = .int .i64 wd) (hwd : wd < 65536) (ho : 0 < o) (hfr : (↑wd : Int) % o = fr) (hq8 : (↑wd : Int) / 8 = q8) (hto : q8 % o = to) : OpOk Try.prog opsTr8 (wordsTr8 wd o fr q8 to) 109 a w 0 := by
  refine OpOk.gen rfl (fun a1 w1 H => ?_)
  have e13 : a1.eval (.tmp 13) = .int .i64 wd := (H.out 13 (by kernel_rfl)).trans t13
  refine gd_none ?_
  exact OpW.move e13 rfl
set_option maxRecDepth 10000 in
theorem okTr8_1 {wd : Nat} {o fr q8 to : Int} {a : Act} {w : World} (t0 : a.eval (.tmp 0) = .int .i64 o) (t13 : a.eval (.tmp 13) = .int .i64 wd) (hwd : wd < 65536) (ho : 0 < o) (hfr : (↑wd : Int) % o = fr) (hq8 : (↑wd : Int) / 8 = q8) (hto : q8 % o = to) : OpOk Try.prog opsTr8 (wordsTr8 wd o fr q8 to) 109 a w 1 := by
  refine OpOk.gen rfl (fun a1 w1 H => ?_)
  have e0 : a1.eval (.tmp 0) = .int .i64 o := (H.out 0 (by kernel_rfl)).trans t0
  refine gd_none ?_
  exact OpW.move e0 rfl
set_option maxRecDepth 10000 in
theorem okTr8_2 {wd : Nat} {o fr q8 to : Int} {a : Act} {w : World} (t0 : a.eval (.tmp 0) = .int .i64 o) (t13 : a.eval (.tmp 13) = .int .i64 wd) (hwd : wd < 65536) (ho : 0 < o) (hfr : (↑wd : Int) % o = fr) (hq8 : (↑wd : Int) / 8 = q8) (hto : q8 % o = to) : OpOk Try.prog opsTr8 (wordsTr8 wd o fr q8 to) 109 a w 2 := by
  refine OpOk.gen rfl (fun a1 w1 H => ?_)
  have d0 : a1.eval (.tmp 37) = .int .i64 wd := H.dep 0 37 rfl (by kernel_rfl)
  have d1 : a1.eval (.tmp 38) = .int .i64 o := H.dep 1 38 rfl (by kernel_rfl)
  refine gd_none ?_
  exact OpW.bin d0 d1 (rem3r (by omega) ho hfr _) rfl
set_option maxRecDepth 10000 in
theorem okTr8_3 {wd : Nat} {o fr q8 to : Int} {a : Act} {w : World} (t0 : a.eval (.tmp 0) = .int .i64 o) (t13 : a.eval (.tmp 13) = .int .i64 wd) (hwd : wd < 65536) (ho : 0 < o) (hfr : (↑wd : Int) % o = fr) (hq8 : (↑wd : Int) / 8 = q8) (hto : q8 % o = to) : OpOk Try.prog opsTr8 (wordsTr8 wd o fr q8 to) 109 a w 3 := by
  refine OpOk.gen rfl (fun a1 w1 H => ?_)
  have e13 : a1.eval (.tmp 13) = .int .i64 wd := (H.out 13 (by kernel_rfl)).trans t13
  refine gd_none ?_
  exact OpW.move e13 rfl
set_option maxRecDepth 10000 in
theorem okTr8_4 {wd : Nat} {o fr q8 to : Int} {a : Act} {w : World} (t0 : a.eval (.tmp 0) = .int .i64 o) (t13 : a.eval (.tmp 13) = .int .i64 wd) (hwd : wd < 65536) (ho : 0 < o) (hfr : (↑wd : Int) % o = fr) (hq8 : (↑wd : Int) / 8 = q8) (hto : q8 % o = to) : OpOk Try.prog opsTr8 (wordsTr8 wd o fr q8 to) 109 a w 4 := by
  refine OpOk.gen rfl (fun a1 w1 H => ?_)
  have d3 : a1.eval (.tmp 40) = .int .i64 wd := H.dep 3 40 rfl (by kernel_rfl)
  refine gd_none ?_
  exact OpW.bin d3 rfl (quo3r (by omega) (by omega) (by omega) hq8 _) rfl
set_option maxRecDepth 10000 in
theorem okTr8_5 {wd : Nat} {o fr q8 to : Int} {a : Act} {w : World} (t0 : a.eval (.tmp 0) = .int .i64 o) (t13 : a.eval (.tmp 13) = .int .i64 wd) (hwd : wd < 65536) (ho : 0 < o) (hfr : (↑wd : Int) % o = fr) (hq8 : (↑wd : Int) / 8 = q8) (hto : q8 % o = to) : OpOk Try.prog opsTr8 (wordsTr8 wd o fr q8 to) 109 a w 5 := by
  refine OpOk.gen rfl (fun a1 w1 H => ?_)
  have e0 : a1.eval (.tmp 0) = .int .i64 o := (H.out 0 (by kernel_rfl)).trans t0
  refine gd_none ?_
  exact OpW.move e0 rfl
set_option maxRecDepth 10000 in
theorem okTr8_6 {wd : Nat} {o fr q8 to : Int} {a : Act} {w : World} (t0 : a.eval (.tmp 0) = .int .i64 o) (t13 : a.eval (.tmp 13) = .int .i64 wd) (hwd : wd < 65536) (ho : 0 < o) (hfr : (↑wd : Int) % o = fr) (hq8 : (↑wd : Int) / 8 = q8) (hto : q8 % o = to) : OpOk Try.prog opsTr8 (wordsTr8 wd o fr q8 to) 109 a w 6 := by
  refine OpOk.gen rfl (fun a1 w1 H => ?_)
  have d4 : a1.eval (.tmp 41) = .int .i64 q8 := H.dep 4 41 rfl (by kernel_rfl)
  have d5 : a1.eval (.tmp 42) = .int .i64 o := H.dep 5 42 rfl (by kernel_rfl)
  refine gd_none ?_
  exact OpW.bin d4 d5 (rem3r (by omega) ho hto _) rfl
set_option maxRecDepth 10000 in
theorem okTr8_7 {wd : Nat} {o fr q8 to : Int} {a : Act} {w : World} (t0 : a.eval (.tmp 0) = .int .i64 o) (t13 : a.eval (.tmp 13) = .int .i64 wd) (hwd : wd < 65536) (ho : 0 < o) (hfr : (↑wd : Int) % o = fr) (hq8 : (↑wd : Int) / 8 = q8) (hto : q8 % o = to) : OpOk Try.prog opsTr8 (wordsTr8 wd o fr q8 to) 109 a w 7 := by
  refine OpOk.gen rfl (fun a1 w1 H => ?_)
  have d2 : a1.eval (.tmp 39) = .int .i64 fr := H.dep 2 39 rfl (by kernel_rfl)
  refine gd_none ?_
  exact OpW.assign d2 rfl
set_option maxRecDepth 10000 in
theorem okTr8_8 {wd : Nat} {o fr q8 to : Int} {a : Act} {w : World} (t0 : a.eval (.tmp 0) = .int .i64 o) (t13 : a.eval (.tmp 13) = .int .i64 wd) (hwd : wd < 65536) (ho : 0 < o) (hfr : (↑wd : Int) % o = fr) (hq8 : (↑wd : Int) / 8 = q8) (hto : q8 % o = to) : OpOk Try.prog opsTr8 (wordsTr8 wd o fr q8 to) 109 a w 8 := by
  refine OpOk.gen rfl (fun a1 w1 H => ?_)
  have d6 : a1.eval (.tmp 43) = .int .i64 to := H.dep 6 43 rfl (by kernel_rfl)
  refine gd_none ?_
  exact OpW.assign d6 rfl
set_option maxRecDepth 10000 in
theorem regionTr8 {F : Fence} {n : Nat} (hF : WideF F Try.prog) {Q : Exit → Act → World → Prop} {wd : Nat} {o fr q8 to : Int} {a : Act} {w : World} (hsz : a.tmps.size = 109)
    (t0 : a.eval (.tmp 0) = .int .i64 o) (t13 : a.eval (.tmp 13) = .int .i64 wd) (hwd : wd < 65536) (ho : 0 < o) (hfr : (↑wd : Int) % o = fr) (hq8 : (↑wd : Int) / 8 = q8) (hto : q8 % o = to)
    (hK : ∀ (a' : Act) (w' : World), a'.tmps.size = 109 → a'.defers = a.defers → Below w.heap.size w w' → (∀ e, ndstB opsTr8 e = true → a'.eval (.tmp e) = a.eval (.tmp e)) → (∀ (j d : Nat), (opsTr8[j]?).bind (·.dst) = some d → (wordsTr8 wd o fr q8 to).at_ j (a'.eval (.tmp d)) w') → Q .normal a' w') :
    (Code.region 8 opsTr8 true).wpIn F n Try.prog Q a w := by
  refine region_S (wordsTr8 wd o fr q8 to) 109 hF (by kernel_rfl) Try.mixed (by kernel_rfl) (by kernel_rfl) ?_ hsz 9 (by kernel_rfl) ?_ hK
  · exact ⟨(fun _ _ _ h _ => h), (fun _ _ _ h _ => h), (fun _ _ _ h _ => h), (fun _ _ _ h _ => h), (fun _ _ _ h _ => h), (fun _ _ _ h _ => h), (fun _ _ _ h _ => h), (fun _ _ _ h _ => h), (fun _ _ _ h _ => h), trivial⟩
  · exact ⟨⟨⟨⟨⟨⟨⟨⟨⟨trivial, okTr8_0 t0 t13 hwd ho hfr hq8 hto⟩, okTr8_1 t0 t13 hwd ho hfr hq8 hto⟩, okTr8_2 t0 t13 hwd ho hfr hq8 hto⟩, okTr8_3 t0 t13 hwd ho hfr hq8 hto⟩, okTr8_4 t0 t13 hwd ho hfr hq8 hto⟩, okTr8_5 t0 t13 hwd ho hfr hq8 hto⟩, okTr8_6 t0 t13 hwd ho hfr hq8 hto⟩, okTr8_7 t0 t13 hwd ho hfr hq8 hto⟩, okTr8_8 t0 t13 hwd ho hfr hq8 hto⟩
section
attribute [local irreducible] AnyK StepK
noncomputable def opsTr17 : Array Oper := (Try.f39.body.bind (regionOf 17)).getD #[]
set_option maxRecDepth 10000 in
set_option maxHeartbeats 2000000 in
theorem regionTr17 {F : Fence} {n : Nat} (hF : WideF F Try.prog) {Q : Exit → Act → World → Prop} {a : Act} {w : World} {p8 wd B : Nat} {dy fr to st q6 qm q5 m5 q2 m2 : Int} {v : Value} {l : List Sale} (hsz : a.tmps.size = 109)
    (t8 : a.eval (.tmp 8) = .pointer (some ⟨p8, 0, none⟩)) (t11 : a.eval (.tmp 11) = .int .i64 dy) (t13 : a.eval (.tmp 13) = .int .i64 wd) (t14 : a.eval (.tmp 14) = .int .i64 fr) (t15 : a.eval (.tmp 15) = .int .i64 to) (t18 : a.eval (.tmp 18) = .int .i64 st)
    (m0 : w.cell? ⟨p8, 2, none⟩ = some (v)) (hwd : wd < 65536) (hst : 0 < st ∧ st ≤ 1000) (hdy : 0 ≤ dy ∧ dy ≤ 100) (hq6 : (↑wd : Int) / 256 = q6) (hqm : q6 % st = qm) (hqb : 0 ≤ qm ∧ qm < st) (hq5 : (↑wd : Int) / 512 = q5) (hm5 : q5 % 4 = m5) (hq2 : (↑wd : Int) / 2048 = q2) (hm2 : q2 % 4 = m2) (ho : w.ownsRow B 73 5 v l.length (salesL l)) (hl : l.length ≤ 12) (hBw : B ≤ w.heap.size) (hp8 : p8 < B) (hpf : w.frozen? ⟨p8, 2, none⟩ = false)
    (hK : ∀ a' W' A2 c2, Below B w W' → (∀ q, q < w.heap.size → some q ≠ v.ownBlock → W'.heap[q]? = w.heap[q]?) → W'.ownsRow B 73 5 (.slice A2 (l ++ [(⟨fr, to, 1 + qm, max 0 (dy - m5), min 100 (dy + m2)⟩ : Sale)]).length c2) (l ++ [(⟨fr, to, 1 + qm, max 0 (dy - m5), min 100 (dy + m2)⟩ : Sale)]).length (salesL (l ++ [(⟨fr, to, 1 + qm, max 0 (dy - m5), min 100 (dy + m2)⟩ : Sale)])) → a'.tmps.size = 109 → a'.defers = a.defers → (∀ e : Nat, e < 72 → a'.eval (.tmp e) = a.eval (.tmp e)) → Q .normal a' (W'.setCell ⟨p8, 2, none⟩ (.slice A2 (l ++ [(⟨fr, to, 1 + qm, max 0 (dy - m5), min 100 (dy + m2)⟩ : Sale)]).length c2))) :
    (Code.region 17 opsTr17 true).wpIn F n Try.prog Q a w := by
  have hR : (fun w : World => w.cell? ⟨p8, 2, none⟩ = some (v)) w.drew := m0
  have hB : Below w.heap.size w w.drew := (Below.refl _ _).drew
  refine region_K (KpR (fun w => w.cell? ⟨p8, 2, none⟩ = some (v)) (fun j => j == 26)) hF (by kernel_rfl) Try.mixed ?_
  change AnyK _ _ _ _ 27 (Array.replicate 27 false) _ _
  generalize w.drew = W at *
  refine AnyK.field (i := 0) (may_free rfl (by kernel_rfl) (by kernel_rfl) (by kernel_rfl)) (u := .pointer (some ⟨p8, 0, none⟩)) (v := .pointer (some ⟨p8, 2, none⟩)) (by simp [t8]) (fun w => fa24_2 w) trivial ?_
  refine AnyK.load (i := 1) may_o (p := ⟨p8, 2, none⟩) (v := v) (by simp [hsz]) (fun w hw => ld22 hw) hR ?_
  refine AnyK.move (i := 2) (may_free rfl (by kernel_rfl) (by kernel_rfl) (by kernel_rfl)) (v := .int .i64 fr) (by simp [t14]) trivial ?_
  refine AnyK.move (i := 3) (may_free rfl (by kernel_rfl) (by kernel_rfl) (by kernel_rfl)) (v := .int .i64 to) (by simp [t15]) trivial ?_
  refine AnyK.move (i := 4) (may_free rfl (by kernel_rfl) (by kernel_rfl) (by kernel_rfl)) (v := .int .i64 wd) (by simp [t13]) trivial ?_
  refine AnyK.bin (i := 5) (may_free rfl (by kernel_rfl) (by kernel_rfl) (by kernel_rfl)) (u := .int .i64 wd) (u' := .int .i64 (256)) (v := .int .i64 q6) (by simp [hsz]) (by simp) (fun w => quo3r (by omega) (by omega) (by omega) hq6 w) trivial ?_
  refine AnyK.move (i := 6) (may_free rfl (by kernel_rfl) (by kernel_rfl) (by kernel_rfl)) (v := .int .i64 st) (by simp [t18]) trivial ?_
  refine AnyK.bin (i := 7) (may_free rfl (by kernel_rfl) (by kernel_rfl) (by kernel_rfl)) (u := .int .i64 q6) (u' := .int .i64 st) (v := .int .i64 qm) (by simp [hsz]) (by simp [hsz]) (fun w => rem3r (by omega) (by omega) hqm w) trivial ?_
  refine AnyK.bin (i := 8) (may_free rfl (by kernel_rfl) (by kernel_rfl) (by kernel_rfl)) (u := .int .i64 (1)) (u' := .int .i64 qm) (v := .int .i64 (1 + qm)) (by simp) (by simp [hsz]) (fun w => add3 (by omega) (by omega) w) trivial ?_
  refine AnyK.move (i := 9) (may_free rfl (by kernel_rfl) (by kernel_rfl) (by kernel_rfl)) (v := .int .i64 dy) (by simp [t11]) trivial ?_
  refine AnyK.move (i := 10) (may_free rfl (by kernel_rfl) (by kernel_rfl) (by kernel_rfl)) (v := .int .i64 wd) (by simp [t13]) trivial ?_
  refine AnyK.bin (i := 11) (may_free rfl (by kernel_rfl) (by kernel_rfl) (by kernel_rfl)) (u := .int .i64 wd) (u' := .int .i64 (512)) (v := .int .i64 q5) (by simp [hsz]) (by simp) (fun w => quo3r (by omega) (by omega) (by omega) hq5 w) trivial ?_
  refine AnyK.bin (i := 12) (may_free rfl (by kernel_rfl) (by kernel_rfl) (by kernel_rfl)) (u := .int .i64 q5) (u' := .int .i64 (4)) (v := .int .i64 m5) (by simp [hsz]) (by simp) (fun w => rem3r (by omega) (by omega) hm5 w) trivial ?_
  refine AnyK.bin (i := 13) (may_free rfl (by kernel_rfl) (by kernel_rfl) (by kernel_rfl)) (u := .int .i64 dy) (u' := .int .i64 m5) (v := .int .i64 (dy - m5)) (by simp [hsz]) (by simp [hsz]) (fun w => sub3 (by omega) (by omega) w) trivial ?_
  refine AnyK.bi2 (i := 14) (may_free rfl (by kernel_rfl) (by kernel_rfl) (by kernel_rfl)) (u := .int .i64 (dy - m5)) (v := .int .i64 (max 0 (dy - m5))) (by simp [hsz]) (fun w => mxc _ _ _ w) trivial ?_
  refine AnyK.move (i := 15) (may_free rfl (by kernel_rfl) (by kernel_rfl) (by kernel_rfl)) (v := .int .i64 dy) (by simp [t11]) trivial ?_
  refine AnyK.move (i := 16) (may_free rfl (by kernel_rfl) (by kernel_rfl) (by kernel_rfl)) (v := .int .i64 wd) (by simp [t13]) trivial ?_
  refine AnyK.bin (i := 17) (may_free rfl (by kernel_rfl) (by kernel_rfl) (by kernel_rfl)) (u := .int .i64 wd) (u' := .int .i64 (2048)) (v := .int .i64 q2) (by simp [hsz]) (by simp) (fun w => quo3r (by omega) (by omega) (by omega) hq2 w) trivial ?_
  refine AnyK.bin (i := 18) (may_free rfl (by kernel_rfl) (by kernel_rfl) (by kernel_rfl)) (u := .int .i64 q2) (u' := .int .i64 (4)) (v := .int .i64 m2) (by simp [hsz]) (by simp) (fun w => rem3r (by omega) (by omega) hm2 w) trivial ?_
  refine AnyK.bin (i := 19) (may_free rfl (by kernel_rfl) (by kernel_rfl) (by kernel_rfl)) (u := .int .i64 dy) (u' := .int .i64 m2) (v := .int .i64 (dy + m2)) (by simp [hsz]) (by simp [hsz]) (fun w => add3 (by omega) (by omega) w) trivial ?_
  refine AnyK.bi2 (i := 20) (may_free rfl (by kernel_rfl) (by kernel_rfl) (by kernel_rfl)) (u := .int .i64 (dy + m2)) (v := .int .i64 (min 100 (dy + m2))) (by simp [hsz]) (fun w => mnc _ _ _ w) trivial ?_
  refine AnyK.bld (i := 21) (may_free rfl (by kernel_rfl) (by kernel_rfl) (by kernel_rfl)) (ps := #[(0, .int .i64 (max 0 (dy - m5))), (1, .int .i64 (min 100 (dy + m2)))]) (v := .agg #[.int .i64 (max 0 (dy - m5)), .int .i64 (min 100 (dy + m2))]) (by simp [hsz]) (fun w => bd71 _ _ w) trivial ?_
  refine AnyK.bld (i := 22) (may_free rfl (by kernel_rfl) (by kernel_rfl) (by kernel_rfl)) (ps := #[(0, .int .i64 fr), (1, .int .i64 to), (2, .int .i64 (1 + qm)), (3, .agg #[.int .i64 (max 0 (dy - m5)), .int .i64 (min 100 (dy + m2))])]) (v := .agg #[.int .i64 fr, .int .i64 to, .int .i64 (1 + qm), .int .i64 (max 0 (dy - m5)), .int .i64 (min 100 (dy + m2))]) (by simp [hsz]) (fun w => bd73 _ _ _ _ _ w) trivial ?_
  refine AnyK.pick1 (i := 23) (by kernel_rfl) ?_
  refine StepK.buildG (i := 23) (ps := #[(0, .agg #[.int .i64 fr, .int .i64 to, .int .i64 (1 + qm), .int .i64 (max 0 (dy - m5)), .int .i64 (min 100 (dy + m2))])]) (v := .slice (some ⟨W.heap.size, 0, none⟩) 1 1) rfl (by simp [hsz]) (bs22_1 (⟨fr, to, 1 + qm, max 0 (dy - m5), min 100 (dy + m2)⟩ : Sale) W) (fun _ hw => cell_alloc_l _ hw) ?_
  have tw := Whole.new W 73 (saleC (⟨fr, to, 1 + qm, max 0 (dy - m5), min 100 (dy + m2)⟩ : Sale))
  replace hR : (fun w : World => w.cell? ⟨p8, 2, none⟩ = some (v)) (W.alloc (.cells (saleC (⟨fr, to, 1 + qm, max 0 (dy - m5), min 100 (dy + m2)⟩ : Sale)) 73)) := cell_alloc_l _ hR
  replace hB := hB.alloc hB.size (.cells (saleC (⟨fr, to, 1 + qm, max 0 (dy - m5), min 100 (dy + m2)⟩ : Sale)) 73)
  generalize W.heap.size = p23 at *
  generalize W.alloc (.cells (saleC (⟨fr, to, 1 + qm, max 0 (dy - m5), min 100 (dy + m2)⟩ : Sale)) 73) = W23 at *
  clear W
  obtain ⟨W, rfl⟩ : ∃ W, W = W23 := ⟨_, rfl⟩
  refine AnyK.pick1 (i := 24) (by kernel_rfl) ?_
  have hoW := ho.kept (grown_of_below hB) (by cases v.ownBlock <;> simp)
  have hbW : B ≤ W.heap.size := by have := hB.size; omega
  obtain ⟨v24, W24, hr24, ho24, hg24, hv24⟩ := app22_run W 22 (xs := l) (ys := [(⟨fr, to, 1 + qm, max 0 (dy - m5), min 100 (dy + m2)⟩ : Sale)]) (A := some ⟨p23, 0, none⟩) (c := 1) hoW (sale_new tw) (by omega) (by simp) hbW
  have hk24 : ∀ q : Addr, q.block < B → W24.cell? q = W.cell? q := fun q hq => World.cell?_of_block (hg24.block _ (by omega) (fun e => by have := (hoW.lt _ e.symm).1; omega))
  refine StepK.app22r (i := 24) (v := v) (v2 := .slice (some ⟨p23, 0, none⟩) 1 1) rfl (by simp [hsz]) (by simp [hsz]) hr24 (fun _ hw => (hk24 _ (by show p8 < B; omega)).trans hw) ?_
  replace hR : (fun w : World => w.cell? ⟨p8, 2, none⟩ = some (v)) (W24) := (hk24 _ (by show p8 < B; omega)).trans hR
  have hBB : Below B w W24 := (hB.mono hBw).grown hg24 hbW (fun q e => (hoW.lt _ e).1)
  have hsm : ∀ q, q < w.heap.size → some q ≠ v.ownBlock → W24.heap[q]? = w.heap[q]? := fun q hq hne => (hg24.block q (by have := hB.size; omega) hne).trans (hB.block q hq)
  clear hoW hr24 hg24 hv24 hk24 hB tw hbW
  clear W
  obtain ⟨W, rfl⟩ : ∃ W, W = W24 := ⟨_, rfl⟩
  refine AnyK.field (i := 25) (may_free rfl (by kernel_rfl) (by kernel_rfl) (by kernel_rfl)) (u := .pointer (some ⟨p8, 0, none⟩)) (v := .pointer (some ⟨p8, 2, none⟩)) (by simp [t8]) (fun w => fa24_2 w) trivial ?_
  refine AnyK.pick1 (i := 26) (by kernel_rfl) ?_
  obtain ⟨A2, c2, e2, _⟩ := sales_of_owns73 ho24
  subst e2
  refine StepK.store (i := 26) (u := .pointer (some ⟨p8, 2, none⟩)) (u' := .slice A2 (l ++ [(⟨fr, to, 1 + qm, max 0 (dy - m5), min 100 (dy + m2)⟩ : Sale)]).length c2) rfl (by simp [hsz]) (by simp [hsz]) (st22 hR ((hBB.frozen (p := ⟨p8, 2, none⟩) hp8).trans hpf)) (fun h => by cases h) ?_
  refine AnyK.done (by kernel_rfl) (hK _ _ _ _ hBB hsm ho24 ?_ ?_ ?_)
  · simp only [size_put, hsz]
  · simp only [defers_put]
  · intro e he
    iterate 26 refine (ev_ne (by omega)).trans ?_
    rfl

end
end Go.Proofs.Ytfcnombmphophaa
namespace Go.Proofs.Ytfcnombmphophaa
open Go.RowKit Go.Shelf
noncomputable def opsTy0 : Array Oper := (Try.f39.body.bind (regionOf 0)).getD #[]
noncomputable def opsTy1 : Array Oper := (Try.f39.body.bind (regionOf 1)).getD #[]
noncomputable def opsTy2 : Array Oper := (Try.f39.body.bind (regionOf 2)).getD #[]
noncomputable def opsTy3 : Array Oper := (Try.f39.body.bind (regionOf 3)).getD #[]
noncomputable def opsTy4 : Array Oper := (Try.f39.body.bind (regionOf 4)).getD #[]
noncomputable def opsTy5 : Array Oper := (Try.f39.body.bind (regionOf 5)).getD #[]
noncomputable def opsTy6 : Array Oper := (Try.f39.body.bind (regionOf 6)).getD #[]
noncomputable def opsTy7 : Array Oper := (Try.f39.body.bind (regionOf 7)).getD #[]
noncomputable def opsTy9 : Array Oper := (Try.f39.body.bind (regionOf 9)).getD #[]
noncomputable def opsTy10 : Array Oper := (Try.f39.body.bind (regionOf 10)).getD #[]
noncomputable def opsTy11 : Array Oper := (Try.f39.body.bind (regionOf 11)).getD #[]
noncomputable def opsTy12 : Array Oper := (Try.f39.body.bind (regionOf 12)).getD #[]
noncomputable def opsTy13 : Array Oper := (Try.f39.body.bind (regionOf 13)).getD #[]
noncomputable def opsTy14 : Array Oper := (Try.f39.body.bind (regionOf 14)).getD #[]
noncomputable def opsTy15 : Array Oper := (Try.f39.body.bind (regionOf 15)).getD #[]
noncomputable def opsTy16 : Array Oper := (Try.f39.body.bind (regionOf 16)).getD #[]
noncomputable def opsTy18 : Array Oper := (Try.f39.body.bind (regionOf 18)).getD #[]
noncomputable def opsTy19 : Array Oper := (Try.f39.body.bind (regionOf 19)).getD #[]
noncomputable def tr_d : Code := (.seq (.region 19 opsTy19 false) .ret)
noncomputable def code39 : Code := (.seq (.region 0 opsTy0 false) (.seq (.region 1 opsTy1 false) (.seq (.region 2 opsTy2 false) (.seq (.region 3 opsTy3 false) (.seq (.seq (.region 4 opsTy4 false) (.block 0 (.loop (.seq (.seq (.region 5 opsTy5 false) (.cond (.tmp 29) .skip (.exit 0))) (.seq (.block 1 (.seq (.region 7 opsTy7 false) (.seq (.region 8 opsTr8 true) (.seq (.region 9 opsTy9 false) (.seq (.seq (.region 10 opsTy10 false) (.block 2 (.loop (.seq (.seq (.region 11 opsTy11 false) (.cond (.tmp 48) .skip (.exit 2))) (.seq (.block 3 (.region 13 opsTy13 false)) (.region 12 opsTy12 false)))))) (.seq (.region 14 opsTy14 false) (.seq (.seq (.region 15 opsTy15 false) (.cond (.tmp 65) (.exit 1) .skip)) (.seq (.region 16 opsTy16 false) (.seq (.region 17 opsTr17 true) (.region 18 opsTy18 false)))))))))) (.region 6 opsTy6 false)))))) tr_d)))))
theorem body39 : Try.f39.body = some code39 := by kernel_rfl
def TrG (o : Int) (A1 : Option Addr) (n c1 p6 p8 : Nat) (vo vd : Value) (dy : Int) (i : Nat) (a : Act) : Prop := a.tmps.size = 109 ∧ a.defers = [] ∧ a.eval (.tmp 0) = .int .i64 o ∧ a.eval (.tmp 2) = .slice A1 n c1 ∧ a.eval (.tmp 6) = .pointer (some ⟨p6, 0, none⟩) ∧ a.eval (.tmp 8) = .pointer (some ⟨p8, 0, none⟩) ∧ a.eval (.tmp 9) = vo ∧ a.eval (.tmp 10) = vd ∧ a.eval (.tmp 11) = .int .i64 dy ∧ a.eval (.tmp 12) = .int .i64 i
def TrF (o : Int) (A1 : Option Addr) (n c1 p6 p8 : Nat) (vo vd : Value) (dy : Int) (i wd : Nat) (fr to : Int) (a : Act) : Prop := a.tmps.size = 109 ∧ a.defers = [] ∧ a.eval (.tmp 0) = .int .i64 o ∧ a.eval (.tmp 2) = .slice A1 n c1 ∧ a.eval (.tmp 6) = .pointer (some ⟨p6, 0, none⟩) ∧ a.eval (.tmp 8) = .pointer (some ⟨p8, 0, none⟩) ∧ a.eval (.tmp 9) = vo ∧ a.eval (.tmp 10) = vd ∧ a.eval (.tmp 11) = .int .i64 dy ∧ a.eval (.tmp 12) = .int .i64 i ∧ a.eval (.tmp 13) = .int .i64 wd ∧ a.eval (.tmp 14) = .int .i64 fr ∧ a.eval (.tmp 15) = .int .i64 to
/-- The memory: the batch and its sales. -/
structure TrK (W : World) (p6 p8 : Nat) (o t : Int) (vs : Value) (l : List Sale) (W' : World) : Prop where
  low : Below W.heap.size W W'
  k6 : Whole W' p6 24 #[.int .i64 0, .int .i64 0, .slice none 0 0]
  k8 : Whole W' p8 24 #[.int .i64 o, .int .i64 t, vs]
  os : W'.ownsRow (p8 + 1) 73 5 vs l.length (salesL l)
  p6W : W.heap.size ≤ p6
  p68 : p6 < p8
theorem own_cells {w : World} {B e sz n : Nat} {v : Value} {xs : List Value} (h : w.ownsRow B e sz v n xs) {g : Nat} (hg : v.ownBlock = some g) : B ≤ g ∧ ∃ cur, w.heap[g]? = some (.cells cur e (0, 0)) := by
  rcases h.2 with ⟨rfl, _⟩ | ⟨g', cap, cur, rfl, hb, hgg, _⟩
  · cases hg
  · cases hg
    exact ⟨hb, cur, hgg⟩
theorem own_apart {w : World} {B e sz n B' e' sz' n' : Nat} {v v' : Value} {xs ys : List Value} (h : w.ownsRow B e sz v n xs) (h' : w.ownsRow B' e' sz' v' n' ys) (he : e ≠ e') {g : Nat} (hg : v.ownBlock = some g) : some g ≠ v'.ownBlock := by
  intro hg'
  obtain ⟨_, cur, h1⟩ := own_cells h hg
  obtain ⟨_, cur', h2⟩ := own_cells h' hg'.symm
  rw [h1] at h2
  cases h2
  exact he rfl
theorem own_whole {w : World} {B e sz n g0 t : Nat} {v : Value} {xs : List Value} {cs : Array Value} (h : w.ownsRow B e sz v n xs) (hw : Whole w g0 t cs) (he : e ≠ t) : some g0 ≠ v.ownBlock := by
  intro hg
  obtain ⟨_, cur, h1⟩ := own_cells h hg.symm
  unfold Whole at hw
  rw [h1] at hw
  cases hw
  exact he rfl
section
variable {W W' W'' W2 : World} {p6 p8 : Nat} {o t : Int} {vs vo vd v : Value} {l : List Sale} {n : Nat} {xs : List Value}
theorem TrK.below (h : TrK W p6 p8 o t vs l W') (hb : Below W'.heap.size W' W'') : TrK W p6 p8 o t vs l W'' :=
  ⟨h.low.trans (hb.mono h.low.size), h.k6.below hb h.k6.lt, h.k8.below hb h.k8.lt, h.os.kept (grown_of_below hb) (by cases vs.ownBlock <;> simp), h.p6W, h.p68⟩
theorem TrK.grow (h : TrK W p6 p8 o t vs l W') (hv : W'.ownsRow p8 3 1 v n xs) (hg : W'.grownBy W'' v.ownBlock) : TrK W p6 p8 o t vs l W'' := by
  have e6 := own_whole hv h.k6 (by decide)
  have e8 := own_whole hv h.k8 (by decide)
  have h1 := h.p6W
  have h2 := h.p68
  refine ⟨h.low.grown hg h.low.size (fun k e => by have := (own_cells hv e).1; omega), (hg.block _ h.k6.lt e6).trans h.k6, (hg.block _ h.k8.lt e8).trans h.k8, own_same h.os fun g e => hg.block g (h.os.lt g e).2 (own_apart h.os hv (by decide) e), h.p6W, h.p68⟩
end
section
variable {o t dy fr to : Int} {A A1 : Option Addr} {n c c1 p6 p8 i wd k : Nat} {vo vd v : Value} {l : List Sale} {a1 : Act} {W Wr W1 : World} {Q : Exit → Act → World → Prop}
set_option maxRecDepth 10000 in
theorem tr12 (hk : k < l.length) (hl : l.length ≤ 12) (hf : TrF o A1 n c1 p6 p8 vo vd dy i wd fr to a1) (h16 : a1.eval (.tmp 16) = v) (h17 : a1.eval (.tmp 17) = .int .i64 k) (hQ : ∀ a', TrF o A1 n c1 p6 p8 vo vd dy i wd fr to a' → a'.eval (.tmp 16) = v → a'.eval (.tmp 17) = .int .i64 ((k + 1 : Nat) : Int) → Q .normal a' W) : (Code.region 12 opsTy12 false).wpIn Fence.wide 5 Try.prog Q a1 W := by
  obtain ⟨hz_a1, hd_a1, u0, u2, u6, u8, u9, u10, u11, u12, u13, u14, u15⟩ := hf
  refine region_p 3 ?_
  intro K hK
  refine ListK.move (i := 0) (v := .int .i64 k) rfl (by simp [h17]) ?_
  refine ListK.bin (i := 1) (u := .int .i64 k) (u' := .int .i64 1) (v := .int .i64 (k + 1)) rfl (by simp [hz_a1]) (by simp) (add3 (by omega) (by omega) _) ?_
  refine ListK.assign (i := 2) (v := .int .i64 ((k + 1 : Nat) : Int)) rfl (by simp [hz_a1]) ?_
  skip
  exact ListK.done (hK _ _ (hQ _ ⟨(by simp only [size_put, hz_a1]), (by simp only [defers_put, hd_a1]), (by simp [u0]), (by simp [u2]), (by simp [u6]), (by simp [u8]), (by simp [u9]), (by simp [u10]), (by simp [u11]), (by simp [u12]), (by simp [u13]), (by simp [u14]), (by simp [u15])⟩ (by simp [h16]) (by simp [hz_a1])))
set_option maxRecDepth 10000 in
set_option maxHeartbeats 1000000 in
/-- The numbers of all sales so far. -/
theorem tr10 (hl : l.length ≤ 12) (hf : TrF o A1 n c1 p6 p8 vo vd dy i wd fr to a1) (h16 : a1.eval (.tmp 16) = .slice none 0 0) (k8 : Whole Wr p8 24 #[.int .i64 o, .int .i64 t, .slice A l.length c])
    (hQ : ∀ a' W' v, TrF o A1 n c1 p6 p8 vo vd dy i wd fr to a' → a'.eval (.tmp 16) = v → OL Wr v (upTo l.length) W' → Q .normal a' W') :
    (Code.seq (.region 10 opsTy10 false) (.block 2 (.loop (.seq (.seq (.region 11 opsTy11 false) (.cond (.tmp 48) .skip (.exit 2))) (.seq (.block 3 (.region 13 opsTy13 false)) (.region 12 opsTy12 false)))))).wpIn Fence.wide 5 Try.prog Q a1 Wr := by
  obtain ⟨hz_a1, hd_a1, u0, u2, u6, u8, u9, u10, u11, u12, u13, u14, u15⟩ := hf
  refine wpIn_seq (region_p 1 ?_)
  intro K hK
  refine ListK.assign (i := 0) (v := .int .i64 0) rfl (by simp) ?_
  refine ListK.done (hK _ _ ?_)
  clear hK K
  refine wpIn_block (wpIn_loop (fun a W' => ∃ (k : Nat) (v : Value), k ≤ l.length ∧ TrF o A1 n c1 p6 p8 vo vd dy i wd fr to a ∧ a.eval (.tmp 16) = v ∧ a.eval (.tmp 17) = .int .i64 k ∧ OL Wr v (upTo k) W') (fun a _ => l.length - (intOf (a.eval (.tmp 17))).toNat)
    ⟨0, .slice none 0 0, Nat.zero_le _, ⟨(by simp only [size_put, hz_a1]), (by simp only [defers_put, hd_a1]), (by simp [u0]), (by simp [u2]), (by simp [u6]), (by simp [u8]), (by simp [u9]), (by simp [u10]), (by simp [u11]), (by simp [u12]), (by simp [u13]), (by simp [u14]), (by simp [u15])⟩, (by simp [h16]), (by simp [hz_a1]), ⟨Below.refl _ _, World.ownsRow_nil _ _ _ _⟩⟩ ?_)
  clear hz_a1 hd_a1 u0 u2 u6 u8 u9 u10 u11 u12 u13 u14 u15 h16
  rintro a2 W2 ⟨k, v, hk, hf, h16, h17, hol⟩
  obtain ⟨hz_a2, hd_a2, u0, u2, u6, u8, u9, u10, u11, u12, u13, u14, u15⟩ := hf
  have k82 := k8.below hol.low k8.lt
  refine wpIn_seq (wpIn_seq (region_p 5 ?_))
  intro K hK
  refine ListK.move (i := 0) (v := .int .i64 k) rfl (by simp [h17]) ?_
  refine ListK.field (i := 1) (u := .pointer (some ⟨p8, 0, none⟩)) (v := .pointer (some ⟨p8, 2, none⟩)) rfl (by simp [u8]) (fa24_2 _) ?_
  refine ListK.load (i := 2) (p := ⟨p8, 2, none⟩) (v := .slice A l.length c) rfl (by simp [hz_a2]) (ld22 (k82.cell 2)) ?_
  refine ListK.len (i := 3) (u := .slice A l.length c) (v := .int .i64 l.length) rfl (by simp [hz_a2]) (ln22 _ _ _ _ _) rfl ?_
  refine ListK.bin (i := 4) (u := .int .i64 k) (u' := .int .i64 (l.length : Int)) (v := .bool (decide (k < (l.length : Int)))) rfl (by simp [hz_a2]) (by simp [hz_a2]) (lss3 _) ?_
  refine ListK.done (hK _ _ ?_)
  clear hK K
  by_cases hkl : k < l.length
  · refine wpIn_cond (t := true) (by simp [hz_a2]; omega) (wpIn_skip ?_)
    generalize hA : Act.put _ _ _ = a3
    have hz_a3 : a3.tmps.size = 109 := by rw [← hA]; simp only [size_put, hz_a2]
    have x0 : a3.eval (.tmp 0) = .int .i64 o := by rw [← hA]; exact (by simp [u0])
    have x2 : a3.eval (.tmp 2) = .slice A1 n c1 := by rw [← hA]; exact (by simp [u2])
    have x6 : a3.eval (.tmp 6) = .pointer (some ⟨p6, 0, none⟩) := by rw [← hA]; exact (by simp [u6])
    have x8 : a3.eval (.tmp 8) = .pointer (some ⟨p8, 0, none⟩) := by rw [← hA]; exact (by simp [u8])
    have x9 : a3.eval (.tmp 9) = vo := by rw [← hA]; exact (by simp [u9])
    have x10 : a3.eval (.tmp 10) = vd := by rw [← hA]; exact (by simp [u10])
    have x11 : a3.eval (.tmp 11) = .int .i64 dy := by rw [← hA]; exact (by simp [u11])
    have x12 : a3.eval (.tmp 12) = .int .i64 i := by rw [← hA]; exact (by simp [u12])
    have x13 : a3.eval (.tmp 13) = .int .i64 wd := by rw [← hA]; exact (by simp [u13])
    have x14 : a3.eval (.tmp 14) = .int .i64 fr := by rw [← hA]; exact (by simp [u14])
    have x15 : a3.eval (.tmp 15) = .int .i64 to := by rw [← hA]; exact (by simp [u15])
    have x16 : a3.eval (.tmp 16) = v := by rw [← hA]; exact (by simp [h16])
    have x17 : a3.eval (.tmp 17) = .int .i64 k := by rw [← hA]; exact (by simp [h17])
    have hd_a3 : a3.defers = [] := by rw [← hA]; simp only [defers_put, hd_a2]
    clear hA
    show (Code.seq _ _).wpIn _ _ _ _ _ _
    have hll := upTo_length k
    have hol1 := hol.below ((Below.refl _ W2).alloc (Nat.le_refl _) (.cells #[.int .i64 k] 3))
    refine wpIn_seq (wpIn_block (region_p 5 ?_))
    intro K6 hK6
    refine ListK.move (i := 0) (v := v) rfl (by simp [x16]) ?_
    refine ListK.move (i := 1) (v := .int .i64 k) rfl (by simp [x17]) ?_
    refine ListK.bsl (i := 2) (ps := #[(0, .int .i64 k)]) (v := .slice (some ⟨W2.heap.size, 0, none⟩) 1 1) rfl (by simp [hz_a3]) (bs25_1 _ _) ?_
    refine ListK.append (i := 3) rfl hol1.own (by simp [hz_a3]) ⟨W2.heap.size, 0, none⟩ 1 [.int .i64 k] (by simp [hz_a3]) rfl (news1 (cell_new1 W2 _ _)) (by simp [Value.oneCell']) (by unfold maxLen; omega) (by omega) hol1.low.size ?_
    intro g cap W3 hown hgr hat
    refine ListK.assign (i := 4) (v := .slice (some ⟨g, 0, none⟩) ((upTo k).length + 1) cap) rfl (by simp [hz_a3]) ?_
    refine ListK.done (hK6 _ _ ?_)
    refine tr12 (n := n) (c1 := c1) (p6 := p6) (vo := vo) (vd := vd) (dy := dy) (i := i) (v := .slice (some ⟨g, 0, none⟩) ((upTo k).length + 1) cap) hkl hl ⟨(by simp only [size_put, hz_a3]), (by simp only [defers_put, hd_a3]), (by simp [x0]), (by simp [x2]), (by simp [x6]), (by simp [x8]), (by simp [x9]), (by simp [x10]), (by simp [x11]), (by simp [x12]), (by simp [x13]), (by simp [x14]), (by simp [x15])⟩ (by simp [hz_a3]) (by simp [x17]) fun a4 f4 e16 e17 => ⟨⟨k + 1, _, by omega, f4, e16, e17, hol1.app hown hgr⟩, ?_⟩
    rw [e17, h17]
    simp only [intOf]
    omega
  · obtain rfl : k = l.length := by omega
    refine wpIn_cond (t := false) (by simp [hz_a2]) (wpIn_exit ?_)
    exact hQ _ _ v ⟨(by simp only [size_put, hz_a2]), (by simp only [defers_put, hd_a2]), (by simp [u0]), (by simp [u2]), (by simp [u6]), (by simp [u8]), (by simp [u9]), (by simp [u10]), (by simp [u11]), (by simp [u12]), (by simp [u13]), (by simp [u14]), (by simp [u15])⟩ (by simp [h16]) hol
end
end Go.Proofs.Ytfcnombmphophaa
namespace Go.Proofs.Ytfcnombmphophaa
open Go.RowKit Go.Shelf
section
variable {o t dy : Int} {A1 : Option Addr} {c1 p6 p8 i : Nat} {vs vo vd : Value} {l : List Sale} {ds : List Int} {ws : List Nat} {a1 : Act} {W Wb W1 : World} {Q : Exit → Act → World → Prop}
set_option maxRecDepth 10000 in
theorem tr6 (hi : i < 8) (hf : TrG o A1 ws.length c1 p6 p8 vo vd dy i a1) (hQ : ∀ a', TrG o A1 ws.length c1 p6 p8 vo vd dy (i + 1) a' → Q .normal a' W) : (Code.region 6 opsTy6 false).wpIn Fence.wide 5 Try.prog Q a1 W := by
  obtain ⟨hz_a1, hd_a1, u0, u2, u6, u8, u9, u10, u11, u12⟩ := hf
  refine region_p 3 ?_
  intro K hK
  refine ListK.move (i := 0) (v := .int .i64 i) rfl (by simp [u12]) ?_
  refine ListK.bin (i := 1) (u := .int .i64 i) (u' := .int .i64 1) (v := .int .i64 (i + 1)) rfl (by simp [hz_a1]) (by simp) (add3 (by omega) (by omega) _) ?_
  refine ListK.assign (i := 2) (v := .int .i64 ((i + 1 : Nat) : Int)) rfl (by simp [hz_a1]) ?_
  skip
  exact ListK.done (hK _ _ (hQ _ ⟨(by simp only [size_put, hz_a1]), (by simp only [defers_put, hd_a1]), (by simp [u0]), (by simp [u2]), (by simp [u6]), (by simp [u8]), (by simp [u9]), (by simp [u10]), (by simp [u11]), (by simp [hz_a1])⟩))
set_option maxRecDepth 10000 in
set_option maxHeartbeats 4000000 in
theorem tr7 (hi8 : i < 8) (hiw : i < ws.length) (hw : WordsAt W W.heap.size A1 ws) (hI : TrI o t i (l, ds, dy)) (hWb : Wb.heap.size = p8) (hf : TrG o A1 ws.length c1 p6 p8 vo vd dy i a1) (hk : TrK W p6 p8 o t vs l W1) (hr : RM Wb vo vd (upTo l.length) ds W1)
    (hQ1 : ∀ a' W' vs' vo' vd', TrG o A1 ws.length c1 p6 p8 vo' vd' (trStep o t (l, ds, dy) ws[i]).2.2 i a' → TrK W p6 p8 o t vs' (trStep o t (l, ds, dy) ws[i]).1 W' → RM Wb vo' vd' (upTo (trStep o t (l, ds, dy) ws[i]).1.length) (trStep o t (l, ds, dy) ws[i]).2.1 W' → Q .normal a' W')
    (hQ2 : ∀ a' W' vs' vo' vd', TrG o A1 ws.length c1 p6 p8 vo' vd' (trStep o t (l, ds, dy) ws[i]).2.2 i a' → TrK W p6 p8 o t vs' (trStep o t (l, ds, dy) ws[i]).1 W' → RM Wb vo' vd' (upTo (trStep o t (l, ds, dy) ws[i]).1.length) (trStep o t (l, ds, dy) ws[i]).2.1 W' → Q (.exit 1) a' W') :
    (Code.seq (.region 7 opsTy7 false) (.seq (.region 8 opsTr8 true) (.seq (.region 9 opsTy9 false) (.seq (Code.seq (.region 10 opsTy10 false) (.block 2 (.loop (.seq (.seq (.region 11 opsTy11 false) (.cond (.tmp 48) .skip (.exit 2))) (.seq (.block 3 (.region 13 opsTy13 false)) (.region 12 opsTy12 false)))))) (.seq (.region 14 opsTy14 false) (.seq (.seq (.region 15 opsTy15 false) (.cond (.tmp 65) (.exit 1) .skip)) (.seq (.region 16 opsTy16 false) (.seq (.region 17 opsTr17 true) (.region 18 opsTy18 false))))))))).wpIn Fence.wide 5 Try.prog Q a1 W1 := by
  obtain ⟨hz_a1, hd_a1, u0, u2, u6, u8, u9, u10, u11, u12⟩ := hf
  have hv := hI.valid (by omega)
  have hl8 : l.length ≤ 8 := hv.len
  have ho1 := hv.o1
  have ho6 := hv.o6
  have hT0 := hv.t0
  have hT1 := hv.t1
  have hm : ∀ s, s ∈ l → 0 ≤ s.many ∧ s.many ≤ 1000 := fun s hs => by
    have := saleOk_facts (hv.ok s hs)
    omega
  have hday : 0 ≤ dy ∧ dy ≤ 100 := hI.day
  obtain ⟨wd, hwd'⟩ : ∃ wd, ws[i] = wd := ⟨_, rfl⟩
  rw [hwd'] at hQ1 hQ2
  obtain ⟨hwd, b, off, rfl, hbW, hcW⟩ := hw i ws[i] (List.getElem?_eq_getElem hiw)
  rw [hwd'] at hwd hcW
  have hc1 := (hk.low.cell (p := ⟨b, off + i, none⟩) hbW).trans hcW
  refine wpIn_seq (region_p 6 ?_)
  intro K hK
  refine ListK.move (i := 0) (v := .slice (some ⟨b, off, none⟩) ws.length c1) rfl (by simp [u2]) ?_
  refine ListK.move (i := 1) (v := .int .i64 i) rfl (by simp [u12]) ?_
  refine ListK.index (i := 2) (u := .slice (some ⟨b, off, none⟩) ws.length c1) (u' := .int .i64 i) (v := .pointer (some ⟨b, off + i, none⟩)) rfl (by simp [hz_a1]) (by simp [hz_a1]) (ix64 hiw _) ?_
  refine ListK.load (i := 3) (p := ⟨b, off + i, none⟩) (v := .int .u16 wd) rfl (by simp [hz_a1]) (ld63 (hc1)) ?_
  refine ListK.conv (i := 4) (u := .int .u16 wd) (v := .int .i64 wd) rfl (by simp [hz_a1]) (cv63 hwd _) ?_
  refine ListK.assign (i := 5) (v := .int .i64 wd) rfl (by simp [hz_a1]) ?_
  refine ListK.done (hK _ _ ?_)
  clear hK K
  generalize hA : Act.put _ _ _ = a2
  have hz_a2 : a2.tmps.size = 109 := by rw [← hA]; simp only [size_put, hz_a1]
  have v0 : a2.eval (.tmp 0) = .int .i64 o := by rw [← hA]; exact (by simp [u0])
  have v2 : a2.eval (.tmp 2) = .slice (some ⟨b, off, none⟩) ws.length c1 := by rw [← hA]; exact (by simp [u2])
  have v6 : a2.eval (.tmp 6) = .pointer (some ⟨p6, 0, none⟩) := by rw [← hA]; exact (by simp [u6])
  have v8 : a2.eval (.tmp 8) = .pointer (some ⟨p8, 0, none⟩) := by rw [← hA]; exact (by simp [u8])
  have v9 : a2.eval (.tmp 9) = vo := by rw [← hA]; exact (by simp [u9])
  have v10 : a2.eval (.tmp 10) = vd := by rw [← hA]; exact (by simp [u10])
  have v11 : a2.eval (.tmp 11) = .int .i64 dy := by rw [← hA]; exact (by simp [u11])
  have v12 : a2.eval (.tmp 12) = .int .i64 i := by rw [← hA]; exact (by simp [u12])
  have v13 : a2.eval (.tmp 13) = .int .i64 wd := by rw [← hA]; exact (by simp [hz_a1])
  have hd_a2 : a2.defers = [] := by rw [← hA]; simp only [defers_put, hd_a1]
  clear hA
  obtain ⟨fr, hfr⟩ : ∃ f : Int, (wd : Int) % o = f := ⟨_, rfl⟩
  obtain ⟨q8, hq8⟩ : ∃ f : Int, (wd : Int) / 8 = f := ⟨_, rfl⟩
  obtain ⟨to, hto⟩ : ∃ f : Int, q8 % o = f := ⟨_, rfl⟩
  have hfr0 : 0 ≤ fr ∧ fr < o := by
    rw [← hfr]
    exact ⟨Int.emod_nonneg _ (by omega), Int.emod_lt_of_pos _ (by omega)⟩
  refine wpIn_seq (regionTr8 (wideF_plain _) hz_a2 v0 v13 hwd (by omega) hfr hq8 hto ?_)
  intro a3 W3 hz_a3 hd3 hb3 hr3 hw3
  have hd_a3 : a3.defers = [] := hd3.trans hd_a2
  have x0 : a3.eval (.tmp 0) = .int .i64 o := (hr3 0 (by kernel_rfl)).trans v0
  have x2 : a3.eval (.tmp 2) = .slice (some ⟨b, off, none⟩) ws.length c1 := (hr3 2 (by kernel_rfl)).trans v2
  have x6 : a3.eval (.tmp 6) = .pointer (some ⟨p6, 0, none⟩) := (hr3 6 (by kernel_rfl)).trans v6
  have x8 : a3.eval (.tmp 8) = .pointer (some ⟨p8, 0, none⟩) := (hr3 8 (by kernel_rfl)).trans v8
  have x9 : a3.eval (.tmp 9) = vo := (hr3 9 (by kernel_rfl)).trans v9
  have x10 : a3.eval (.tmp 10) = vd := (hr3 10 (by kernel_rfl)).trans v10
  have x11 : a3.eval (.tmp 11) = .int .i64 dy := (hr3 11 (by kernel_rfl)).trans v11
  have x12 : a3.eval (.tmp 12) = .int .i64 i := (hr3 12 (by kernel_rfl)).trans v12
  have x13 : a3.eval (.tmp 13) = .int .i64 wd := (hr3 13 (by kernel_rfl)).trans v13
  have x14 : a3.eval (.tmp 14) = .int .i64 fr := hw3 7 14 (by kernel_rfl)
  have x15 : a3.eval (.tmp 15) = .int .i64 to := hw3 8 15 (by kernel_rfl)
  replace hk := hk.below hb3
  replace hr := hr.below hb3
  clear hr3 hw3 hb3 hc1
  refine wpIn_seq (region_p 1 ?_)
  intro K hK
  refine ListK.assign (i := 0) (v := .slice none 0 0) rfl (by simp) ?_
  refine ListK.done (hK _ _ ?_)
  clear hK K
  generalize hA : Act.put _ _ _ = a4
  have hz_a4 : a4.tmps.size = 109 := by rw [← hA]; simp only [size_put, hz_a3]
  have y0 : a4.eval (.tmp 0) = .int .i64 o := by rw [← hA]; exact (by simp [x0])
  have y2 : a4.eval (.tmp 2) = .slice (some ⟨b, off, none⟩) ws.length c1 := by rw [← hA]; exact (by simp [x2])
  have y6 : a4.eval (.tmp 6) = .pointer (some ⟨p6, 0, none⟩) := by rw [← hA]; exact (by simp [x6])
  have y8 : a4.eval (.tmp 8) = .pointer (some ⟨p8, 0, none⟩) := by rw [← hA]; exact (by simp [x8])
  have y9 : a4.eval (.tmp 9) = vo := by rw [← hA]; exact (by simp [x9])
  have y10 : a4.eval (.tmp 10) = vd := by rw [← hA]; exact (by simp [x10])
  have y11 : a4.eval (.tmp 11) = .int .i64 dy := by rw [← hA]; exact (by simp [x11])
  have y12 : a4.eval (.tmp 12) = .int .i64 i := by rw [← hA]; exact (by simp [x12])
  have y13 : a4.eval (.tmp 13) = .int .i64 wd := by rw [← hA]; exact (by simp [x13])
  have y14 : a4.eval (.tmp 14) = .int .i64 fr := by rw [← hA]; exact (by simp [x14])
  have y15 : a4.eval (.tmp 15) = .int .i64 to := by rw [← hA]; exact (by simp [x15])
  have y16 : a4.eval (.tmp 16) = .slice none 0 0 := by rw [← hA]; exact (by simp [hz_a3])
  have hd_a4 : a4.defers = [] := by rw [← hA]; simp only [defers_put, hd_a3]
  clear hA
  obtain ⟨A, c, e, _⟩ := sales_of_owns73 hk.os
  subst e
  refine wpIn_seq (tr10 (by omega) ⟨hz_a4, hd_a4, y0, y2, y6, y8, y9, y10, y11, y12, y13, y14, y15⟩ y16 hk.k8 fun a5 W5 vn f5 e16 hol => ?_)
  obtain ⟨hz_a5, hd_a5, z0, z2, z6, z8, z9, z10, z11, z12, z13, z14, z15⟩ := f5
  replace hk := hk.below hol.low
  replace hr := hr.below hol.low
  obtain ⟨Ad, cd, rfl, hcd, hid⟩ := hol.ints
  obtain ⟨A', c', e, hs⟩ := sales_of_owns73 hk.os
  cases e
  have hul := upTo_length l.length
  refine wpIn_seq (region_p 5 ?_)
  intro K hK
  refine ListK.load (i := 0) (p := ⟨p8, 0, none⟩) (v := .agg #[.int .i64 o, .int .i64 t, .slice A l.length c]) rfl (by simp [z8]) (ld24 ⟨hk.k8.cell 0, hk.k8.cell 1, hk.k8.cell 2⟩) ?_
  refine ListK.move (i := 1) (v := .slice Ad (upTo l.length).length cd) rfl (by simp [e16]) ?_
  refine ListK.move (i := 2) (v := .int .i64 fr) rfl (by simp [z14]) ?_
  refine ListK.call (i := 3) (vs := #[.agg #[.int .i64 o, .int .i64 t, .slice A l.length c], .slice Ad (upTo l.length).length cd, .int .i64 fr]) rfl (enters_of Try.func69 (by kernel_rfl) rfl) (by simp [hz_a5]) (((stockR_any o t fr A Ad l (upTo l.length) c cd W5 (by omega) (by omega) hT0 hT1 hm (fun d h => by have := upTo_mem h; omega) hs hid)).mono ?_)
  rintro _ W6 ⟨rfl, hb6⟩
  replace hk := hk.below hb6
  replace hr := hr.below hb6
  refine ⟨_, rfl, ?_⟩
  refine ListK.assign (i := 4) (v := .int .i64 (stockR t l (upTo l.length) fr)) rfl (by simp [hz_a5]) ?_
  refine ListK.done (hK _ _ ?_)
  clear hK K
  generalize hA : Act.put _ _ _ = a6
  have hz_a6 : a6.tmps.size = 109 := by rw [← hA]; simp only [size_put, hz_a5]
  have q0 : a6.eval (.tmp 0) = .int .i64 o := by rw [← hA]; exact (by simp [z0])
  have q2 : a6.eval (.tmp 2) = .slice (some ⟨b, off, none⟩) ws.length c1 := by rw [← hA]; exact (by simp [z2])
  have q6 : a6.eval (.tmp 6) = .pointer (some ⟨p6, 0, none⟩) := by rw [← hA]; exact (by simp [z6])
  have q8 : a6.eval (.tmp 8) = .pointer (some ⟨p8, 0, none⟩) := by rw [← hA]; exact (by simp [z8])
  have q9 : a6.eval (.tmp 9) = vo := by rw [← hA]; exact (by simp [z9])
  have q10 : a6.eval (.tmp 10) = vd := by rw [← hA]; exact (by simp [z10])
  have q11 : a6.eval (.tmp 11) = .int .i64 dy := by rw [← hA]; exact (by simp [z11])
  have q12 : a6.eval (.tmp 12) = .int .i64 i := by rw [← hA]; exact (by simp [z12])
  have q13 : a6.eval (.tmp 13) = .int .i64 wd := by rw [← hA]; exact (by simp [z13])
  have q14 : a6.eval (.tmp 14) = .int .i64 fr := by rw [← hA]; exact (by simp [z14])
  have q15 : a6.eval (.tmp 15) = .int .i64 to := by rw [← hA]; exact (by simp [z15])
  have q18 : a6.eval (.tmp 18) = .int .i64 (stockR t l (upTo l.length) fr) := by rw [← hA]; exact (by simp [hz_a5])
  have hd_a6 : a6.defers = [] := by rw [← hA]; simp only [defers_put, hd_a5]
  clear hA
  obtain ⟨hst0, hst1, _⟩ := hI.stock (by omega) hfr0.1 hfr0.2
  change 0 ≤ stockR t l (upTo l.length) fr at hst0
  change stockR t l (upTo l.length) fr ≤ t at hst1
  have hstep : trStep o t (l, ds, dy) wd = if fr = to ∨ stockR t l (upTo l.length) fr = 0 then (l, ds, dy) else (l ++ [⟨fr, to, 1 + (wd : Int) / 256 % stockR t l (upTo l.length) fr, max 0 (min 100 (dy + (wd : Int) / 64 % 4) - (wd : Int) / 512 % 4), min 100 (min 100 (dy + (wd : Int) / 64 % 4) + (wd : Int) / 2048 % 4)⟩], ds ++ [min 100 (dy + (wd : Int) / 64 % 4)], min 100 (dy + (wd : Int) / 64 % 4)) := by
    unfold trStep
    rw [hfr, hq8, hto]
  rw [hstep] at hQ1 hQ2
  clear hstep
  generalize stockR t l (upTo l.length) fr = st at *
  by_cases h1 : fr = to
  · rw [if_pos (.inl h1)] at hQ2
    refine wpIn_seq (wpIn_seq (region_p 7 ?_))
    intro K hK
    refine ListK.move (i := 0) (v := .int .i64 fr) rfl (by simp [q14]) ?_
    refine ListK.move (i := 1) (v := .int .i64 to) rfl (by simp [q15]) ?_
    refine ListK.bin (i := 2) (u := .int .i64 fr) (u' := .int .i64 to) (v := .bool true) rfl (by simp [hz_a6]) (by simp [hz_a6]) (eql3T h1 _) ?_
    refine ListK.move (i := 3) (v := .bool true) rfl (by simp [hz_a6]) ?_
    refine ListK.passG (i := 4) (e := 62) (b' := true) rfl rfl (by simp [hz_a6]) rfl ?_
    refine ListK.passG (i := 5) (e := 62) (b' := true) rfl rfl (by simp [hz_a6]) rfl ?_
    refine ListK.pick (i := 6) (b := true) (v := .bool true) rfl (by simp [hz_a6]) (by simp) ?_
    refine ListK.done (hK _ _ ?_)
    clear hK K
    refine wpIn_cond (t := true) (by simp [hz_a6]) (wpIn_exit ?_)
    exact hQ2 _ _ _ vo vd ⟨(by simp only [size_put, hz_a6]), (by simp only [defers_put, hd_a6]), (by simp [q0]), (by simp [q2]), (by simp [q6]), (by simp [q8]), (by simp [q9]), (by simp [q10]), (by simp [q11]), (by simp [q12])⟩ hk hr
  · by_cases h2 : st = 0
    · rw [if_pos (.inr h2)] at hQ2
      refine wpIn_seq (wpIn_seq (region_p 7 ?_))
      intro K hK
      refine ListK.move (i := 0) (v := .int .i64 fr) rfl (by simp [q14]) ?_
      refine ListK.move (i := 1) (v := .int .i64 to) rfl (by simp [q15]) ?_
      refine ListK.bin (i := 2) (u := .int .i64 fr) (u' := .int .i64 to) (v := .bool false) rfl (by simp [hz_a6]) (by simp [hz_a6]) (eql3F h1 _) ?_
      refine ListK.move (i := 3) (v := .bool false) rfl (by simp [hz_a6]) ?_
      refine ListK.move (i := 4) (v := .int .i64 st) rfl (by simp [q18]) ?_ (hw := wanted_g (e := 62) (b' := false) rfl (by simp [hz_a6]) rfl)
      refine ListK.bin (i := 5) (u := .int .i64 st) (u' := .int .i64 0) (v := .bool true) rfl (by simp [hz_a6]) (by simp) (eql3T h2 _) ?_ (hw := wanted_g (e := 62) (b' := false) rfl (by simp [hz_a6]) rfl)
      refine ListK.pick (i := 6) (b := false) (v := .bool true) rfl (by simp [hz_a6]) (by simp [hz_a6]) ?_
      refine ListK.done (hK _ _ ?_)
      clear hK K
      refine wpIn_cond (t := true) (by simp [hz_a6]) (wpIn_exit ?_)
      exact hQ2 _ _ _ vo vd ⟨(by simp only [size_put, hz_a6]), (by simp only [defers_put, hd_a6]), (by simp [q0]), (by simp [q2]), (by simp [q6]), (by simp [q8]), (by simp [q9]), (by simp [q10]), (by simp [q11]), (by simp [q12])⟩ hk hr
    · rw [if_neg (by rintro (h | h); exact h1 h; exact h2 h)] at hQ1
      refine wpIn_seq (wpIn_seq (region_p 7 ?_))
      intro K hK
      refine ListK.move (i := 0) (v := .int .i64 fr) rfl (by simp [q14]) ?_
      refine ListK.move (i := 1) (v := .int .i64 to) rfl (by simp [q15]) ?_
      refine ListK.bin (i := 2) (u := .int .i64 fr) (u' := .int .i64 to) (v := .bool false) rfl (by simp [hz_a6]) (by simp [hz_a6]) (eql3F h1 _) ?_
      refine ListK.move (i := 3) (v := .bool false) rfl (by simp [hz_a6]) ?_
      refine ListK.move (i := 4) (v := .int .i64 st) rfl (by simp [q18]) ?_ (hw := wanted_g (e := 62) (b' := false) rfl (by simp [hz_a6]) rfl)
      refine ListK.bin (i := 5) (u := .int .i64 st) (u' := .int .i64 0) (v := .bool false) rfl (by simp [hz_a6]) (by simp) (eql3F h2 _) ?_ (hw := wanted_g (e := 62) (b' := false) rfl (by simp [hz_a6]) rfl)
      refine ListK.pick (i := 6) (b := false) (v := .bool false) rfl (by simp [hz_a6]) (by simp [hz_a6]) ?_
      refine ListK.done (hK _ _ ?_)
      clear hK K
      refine wpIn_cond (t := false) (by simp [hz_a6]) (wpIn_skip ?_)
      show (Code.seq _ _).wpIn _ _ _ _ _ _
      generalize hA : Act.put _ _ _ = a7
      have hz_a7 : a7.tmps.size = 109 := by rw [← hA]; simp only [size_put, hz_a6]
      have pp0 : a7.eval (.tmp 0) = .int .i64 o := by rw [← hA]; exact (by simp [q0])
      have pp2 : a7.eval (.tmp 2) = .slice (some ⟨b, off, none⟩) ws.length c1 := by rw [← hA]; exact (by simp [q2])
      have pp6 : a7.eval (.tmp 6) = .pointer (some ⟨p6, 0, none⟩) := by rw [← hA]; exact (by simp [q6])
      have pp8 : a7.eval (.tmp 8) = .pointer (some ⟨p8, 0, none⟩) := by rw [← hA]; exact (by simp [q8])
      have pp9 : a7.eval (.tmp 9) = vo := by rw [← hA]; exact (by simp [q9])
      have pp10 : a7.eval (.tmp 10) = vd := by rw [← hA]; exact (by simp [q10])
      have pp11 : a7.eval (.tmp 11) = .int .i64 dy := by rw [← hA]; exact (by simp [q11])
      have pp12 : a7.eval (.tmp 12) = .int .i64 i := by rw [← hA]; exact (by simp [q12])
      have pp13 : a7.eval (.tmp 13) = .int .i64 wd := by rw [← hA]; exact (by simp [q13])
      have pp14 : a7.eval (.tmp 14) = .int .i64 fr := by rw [← hA]; exact (by simp [q14])
      have pp15 : a7.eval (.tmp 15) = .int .i64 to := by rw [← hA]; exact (by simp [q15])
      have pp18 : a7.eval (.tmp 18) = .int .i64 st := by rw [← hA]; exact (by simp [q18])
      have hd_a7 : a7.defers = [] := by rw [← hA]; simp only [defers_put, hd_a6]
      clear hA
      obtain ⟨q64, hq64⟩ : ∃ f : Int, (wd : Int) / 64 = f := ⟨_, rfl⟩
      obtain ⟨d1, hd1⟩ : ∃ f : Int, q64 % 4 = f := ⟨_, rfl⟩
      obtain ⟨q6, hq6⟩ : ∃ f : Int, (wd : Int) / 256 = f := ⟨_, rfl⟩
      obtain ⟨qm, hqm⟩ : ∃ f : Int, q6 % st = f := ⟨_, rfl⟩
      obtain ⟨q5, hq5⟩ : ∃ f : Int, (wd : Int) / 512 = f := ⟨_, rfl⟩
      obtain ⟨m5, hm5⟩ : ∃ f : Int, q5 % 4 = f := ⟨_, rfl⟩
      obtain ⟨q2, hq2⟩ : ∃ f : Int, (wd : Int) / 2048 = f := ⟨_, rfl⟩
      obtain ⟨m2, hm2⟩ : ∃ f : Int, q2 % 4 = f := ⟨_, rfl⟩
      have hqb : 0 ≤ qm ∧ qm < st := by
        rw [← hqm]
        exact ⟨Int.emod_nonneg _ h2, Int.emod_lt_of_pos _ (by omega)⟩
      rw [hq64, hd1, hq6, hqm, hq5, hm5, hq2, hm2] at hQ1
      refine wpIn_seq (region_p 7 ?_)
      intro K hK
      refine ListK.move (i := 0) (v := .int .i64 dy) rfl (by simp [pp11]) ?_
      refine ListK.move (i := 1) (v := .int .i64 wd) rfl (by simp [pp13]) ?_
      refine ListK.bin (i := 2) (u := .int .i64 wd) (u' := .int .i64 64) (v := .int .i64 q64) rfl (by simp [hz_a7]) (by simp) (quo3r (by omega) (by omega) (by omega) hq64 _) ?_
      refine ListK.bin (i := 3) (u := .int .i64 q64) (u' := .int .i64 4) (v := .int .i64 d1) rfl (by simp [hz_a7]) (by simp) (rem3r (by omega) (by omega) hd1 _) ?_
      refine ListK.bin (i := 4) (u := .int .i64 dy) (u' := .int .i64 d1) (v := .int .i64 (dy + d1)) rfl (by simp [hz_a7]) (by simp [hz_a7]) (add3 (by omega) (by omega) _) ?_
      refine ListK.bi2 (i := 5) (u := .int .i64 (dy + d1)) (v := .int .i64 (min 100 (dy + d1))) rfl (by simp [hz_a7]) (mnc _ _ _ _) ?_
      refine ListK.assign (i := 6) (v := .int .i64 (min 100 (dy + d1))) rfl (by simp [hz_a7]) ?_
      refine ListK.done (hK _ _ ?_)
      clear hK K
      obtain ⟨dn, hdn⟩ : ∃ f : Int, min 100 (dy + d1) = f := ⟨_, rfl⟩
      rw [hdn] at hQ1
      simp only [hdn]
      generalize hA : Act.put _ _ _ = a8
      have hz_a8 : a8.tmps.size = 109 := by rw [← hA]; simp only [size_put, hz_a7]
      have r0 : a8.eval (.tmp 0) = .int .i64 o := by rw [← hA]; exact (by simp [pp0])
      have r2 : a8.eval (.tmp 2) = .slice (some ⟨b, off, none⟩) ws.length c1 := by rw [← hA]; exact (by simp [pp2])
      have r6 : a8.eval (.tmp 6) = .pointer (some ⟨p6, 0, none⟩) := by rw [← hA]; exact (by simp [pp6])
      have r8 : a8.eval (.tmp 8) = .pointer (some ⟨p8, 0, none⟩) := by rw [← hA]; exact (by simp [pp8])
      have r9 : a8.eval (.tmp 9) = vo := by rw [← hA]; exact (by simp [pp9])
      have r10 : a8.eval (.tmp 10) = vd := by rw [← hA]; exact (by simp [pp10])
      have r11 : a8.eval (.tmp 11) = .int .i64 dn := by rw [← hA]; exact (by simp [hz_a7])
      have r12 : a8.eval (.tmp 12) = .int .i64 i := by rw [← hA]; exact (by simp [pp12])
      have r13 : a8.eval (.tmp 13) = .int .i64 wd := by rw [← hA]; exact (by simp [pp13])
      have r14 : a8.eval (.tmp 14) = .int .i64 fr := by rw [← hA]; exact (by simp [pp14])
      have r15 : a8.eval (.tmp 15) = .int .i64 to := by rw [← hA]; exact (by simp [pp15])
      have r18 : a8.eval (.tmp 18) = .int .i64 st := by rw [← hA]; exact (by simp [pp18])
      have hd_a8 : a8.defers = [] := by rw [← hA]; simp only [defers_put, hd_a7]
      clear hA
      refine wpIn_seq (regionTr17 (p8 := p8) (wd := wd) (B := p8 + 1) (dy := dn) (v := .slice A l.length c) (wideF_plain _) hz_a8 r8 r11 r13 r14 r15 r18 (hk.k8.cell 2) hwd ⟨by omega, by omega⟩ (by omega) hq6 hqm hqb hq5 hm5 hq2 hm2 hk.os (by omega) hk.k8.lt (by omega) (hk.k8.frozen 2) ?_)
      intro a9 W9 A9 c9 hBB hsm ho9 hz_a9 hd9 hr9
      have hd_a9 : a9.defers = [] := hd9.trans hd_a8
      have s0 : a9.eval (.tmp 0) = .int .i64 o := (hr9 0 (by omega)).trans r0
      have s2 : a9.eval (.tmp 2) = .slice (some ⟨b, off, none⟩) ws.length c1 := (hr9 2 (by omega)).trans r2
      have s6 : a9.eval (.tmp 6) = .pointer (some ⟨p6, 0, none⟩) := (hr9 6 (by omega)).trans r6
      have s8 : a9.eval (.tmp 8) = .pointer (some ⟨p8, 0, none⟩) := (hr9 8 (by omega)).trans r8
      have s9 : a9.eval (.tmp 9) = vo := (hr9 9 (by omega)).trans r9
      have s10 : a9.eval (.tmp 10) = vd := (hr9 10 (by omega)).trans r10
      have s11 : a9.eval (.tmp 11) = .int .i64 dn := (hr9 11 (by omega)).trans r11
      have s12 : a9.eval (.tmp 12) = .int .i64 i := (hr9 12 (by omega)).trans r12
      have hp8W := hk.k8.lt
      have hp68 := hk.p68
      have hp6W := hk.p6W
      have hW1 := hk.low.size
      have oe := hr.oe
      have os := hr.os
      obtain ⟨sn, hsn⟩ : ∃ s : Sale, (⟨fr, to, 1 + qm, max 0 (dn - m5), min 100 (dn + m2)⟩ : Sale) = s := ⟨_, rfl⟩
      rw [hsn] at hQ1 ho9 ⊢
      have hk9 : TrK W p6 p8 o t (.slice A9 (l ++ [sn]).length c9) (l ++ [sn]) (W9.setCell ⟨p8, 2, none⟩ (.slice A9 (l ++ [sn]).length c9)) := by
        refine ⟨(hk.low.trans (hBB.mono (by omega))).setCell (p := ⟨p8, 2, none⟩) (by show W.heap.size ≤ p8; omega) _, (hk.k6.below hBB (by omega)).far (by show p6 ≠ p8; omega) _, ?_, ho9.kept (grown_set _ _ _) (.inr fun e => by have := (ho9.lt p8 e).1; omega), hp6W, hp68⟩
        have := (hk.k8.below hBB (by omega)).set 2 (.slice A9 (l ++ [sn]).length c9)
        simpa using this
      have hr9' : RM Wb vo vd (upTo l.length) ds (W9.setCell ⟨p8, 2, none⟩ (.slice A9 (l ++ [sn]).length c9)) := by
        have h1 := own_same oe (w' := W9) fun q e => hsm q (oe.lt q e).2 (own_apart oe hk.os (by decide) e)
        have h2 := own_same os (w' := W9) fun q e => hsm q (os.lt q e).2 (own_apart os hk.os (by decide) e)
        have k89 := hk.k8.below hBB (by omega)
        exact ⟨(hr.low.trans (hBB.mono (by omega))).setCell (p := ⟨p8, 2, none⟩) (by show Wb.heap.size ≤ p8; omega) _, h1.kept (grown_set _ _ _) (.inr fun e => own_whole h1 k89 (by decide) e.symm), h2.kept (grown_set _ _ _) (.inr fun e => own_whole h2 k89 (by decide) e.symm), hr.ne⟩
      clear hsm hBB ho9 hr hk oe os hr9 hs hid hol
      generalize W9.setCell ⟨p8, 2, none⟩ (.slice A9 (l ++ [sn]).length c9) = W10 at *
      obtain ⟨⟨Ao, co, e, _, _⟩, _⟩ := hr9'.ri
      subst e
      obtain ⟨ln, hln⟩ : ∃ ln : Int, ((upTo l.length).length : Int) = ln := ⟨_, rfl⟩
      have hal := (Below.refl W10.heap.size W10).alloc (Nat.le_refl _) (.cells #[.int .i64 (upTo l.length).length] 3)
      have rm1 := hr9'.below hal
      have tk1 := hk9.below hal
      have hdsl : ds.length = l.length := hI.days
      refine region_p 11 ?_
      intro K hK
      refine ListK.move (i := 0) (v := .slice Ao (upTo l.length).length co) rfl (by simp [s9]) ?_
      refine ListK.move (i := 1) (v := .slice Ao (upTo l.length).length co) rfl (by simp [s9]) ?_
      refine ListK.len (i := 2) (u := .slice Ao (upTo l.length).length co) (v := .int .i64 (upTo l.length).length) rfl (by simp [hz_a9]) (ln25 _ _ _ _ _) rfl ?_
      refine ListK.bsl (i := 3) (ps := #[(0, .int .i64 (upTo l.length).length)]) (v := .slice (some ⟨W10.heap.size, 0, none⟩) 1 1) rfl (by simp [hz_a9]) (bs25_1 _ _) ?_
      refine ListK.append (i := 4) rfl rm1.oe (by simp [hz_a9]) ⟨W10.heap.size, 0, none⟩ 1 [.int .i64 (upTo l.length).length] (by simp [hz_a9]) rfl (news1 (cell_new1 W10 _ _)) (by simp [Value.oneCell']) (by unfold maxLen; omega) (by omega) rm1.low.size ?_
      intro g1 k1 W11 hown1 hgr1 hat1
      have rm2 := rm1.appE hown1 hgr1 hat1
      have oe1 := rm1.oe
      rw [hWb] at oe1
      have tk2 := tk1.grow oe1 hgr1
      have hal2 := (Below.refl W11.heap.size W11).alloc (Nat.le_refl _) (.cells #[.int .i64 dn] 3)
      have rm3 := rm2.below hal2
      have tk3 := tk2.below hal2
      refine ListK.move (i := 5) (v := vd) rfl (by simp [s10]) ?_
      refine ListK.move (i := 6) (v := .int .i64 dn) rfl (by simp [s11]) ?_
      refine ListK.bsl (i := 7) (ps := #[(0, .int .i64 dn)]) (v := .slice (some ⟨W11.heap.size, 0, none⟩) 1 1) rfl (by simp [hz_a9]) (bs25_1 _ _) ?_
      refine ListK.append (i := 8) rfl rm3.os (by simp [hz_a9]) ⟨W11.heap.size, 0, none⟩ 1 [.int .i64 dn] (by simp [hz_a9]) rfl (news1 (cell_new1 W11 _ _)) (by simp [Value.oneCell']) (by unfold maxLen; omega) (by omega) rm3.low.size ?_
      intro g2 k2 W12 hown2 hgr2 hat2
      have rm4 := rm3.appS hown2 hgr2 hat2
      have os3 := rm3.os
      rw [hWb] at os3
      have tk4 := tk3.grow os3 hgr2
      refine ListK.assign (i := 9) (v := .slice (some ⟨g1, 0, none⟩) ((upTo l.length).length + 1) k1) rfl (by simp [hz_a9]) ?_
      refine ListK.assign (i := 10) (v := .slice (some ⟨g2, 0, none⟩) (ds.length + 1) k2) rfl (by simp [hz_a9]) ?_
      refine ListK.done (hK _ _ ?_)
      refine hQ1 _ _ _ (.slice (some ⟨g1, 0, none⟩) ((upTo l.length).length + 1) k1) (.slice (some ⟨g2, 0, none⟩) (ds.length + 1) k2) ⟨(by simp only [size_put, hz_a9]), (by simp only [defers_put, hd_a9]), (by simp [s0]), (by simp [s2]), (by simp [s6]), (by simp [s8]), (by simp [hz_a9]), (by simp [hz_a9]), (by simp [s11]), (by simp [s12])⟩ tk4 ?_
      have eu : upTo (l ++ [sn]).length = upTo l.length ++ [((upTo l.length).length : Int)] := by
        rw [List.length_append, upTo_length]
        rfl
      show RM Wb _ _ (upTo (l ++ [sn]).length) (ds ++ [dn]) W12
      rw [eu]
      exact rm4
end
end Go.Proofs.Ytfcnombmphophaa
namespace Go.Proofs.Ytfcnombmphophaa
open Go.RowKit Go.Shelf
noncomputable def opsDw0 : Array Oper := (Try.f38.body.bind (regionOf 0)).getD #[]
noncomputable def opsDw1 : Array Oper := (Try.f38.body.bind (regionOf 1)).getD #[]
noncomputable def code38 : Code := (.seq (.region 0 opsDw0 false) (.seq (.region 1 opsDw1 false) .ret))
theorem body38 : Try.f38.body = some code38 := by kernel_rfl
theorem res2t {fn : Func} {i j : Nat} {W : World} {a : Act} {x y : Value} (h : fn.results = #[.tmp i, .tmp j]) (hi : a.eval (.tmp i) = x) (hj : a.eval (.tmp j) = y) : (results fn a.tmps).run Try.prog W = .ok (.tuple #[x, y]) W := by
  have e1 : a.tmps[i]?.getD undef = x := by simpa [Act.eval] using hi
  have e2 : a.tmps[j]?.getD undef = y := by simpa [Act.eval] using hj
  simp only [results, h]
  simp [e1, e2]
theorem res24b {fn : Func} {k b j : Nat} {W : World} {a : Act} {x y z u : Value} (h : fn.results = #[.cell k 24, .tmp j]) (he : a.eval (.tmp k) = .pointer (some ⟨b, 0, none⟩)) (hj : a.eval (.tmp j) = u) (h0 : W.cell? ⟨b, 0, none⟩ = some x) (h1 : W.cell? ⟨b, 1, none⟩ = some y) (h2 : W.cell? ⟨b, 2, none⟩ = some z) :
    (results fn a.tmps).run Try.prog W = .ok (.tuple #[.agg #[x, y, z], u]) W := by
  have he' : a.tmps[k]?.getD undef = .pointer (some ⟨b, 0, none⟩) := by simpa [Act.eval] using he
  have hj' : a.tmps[j]?.getD undef = u := by simpa [Act.eval] using hj
  simp only [results, h]
  simp [he', hj']
  go_simp
set_option maxRecDepth 10000 in
theorem drawn_any (no nt : Nat) (W : World) (h1 : no < 256) (h2 : nt < 65536) :
    Calls Try.prog 38 #[.int .u8 no, .int .u16 nt] W fun e w' => e = .returned (.tuple #[.int .i64 (1 + (no : Int) % 6), .int .i64 ((nt : Int) % 1001)]) ∧ Below W.heap.size W w' := by
  refine (callsIn_wide (n := 5)).1 (callsIn_of_wp Try.func38 body38 trivial ?_ rfl)
  obtain ⟨a, ha⟩ : ∃ a : Act, a = { tmps := #[.int .u8 no, .int .u16 nt] ++ Array.replicate (Try.f38.ntmps - (#[.int .u8 no, .int .u16 nt] : Array Value).size) undef, defers := [] } := ⟨_, rfl⟩
  have hsz : a.tmps.size = 13 := by rw [ha]; simp [Try.ntmps38]
  have t0 : a.eval (.tmp 0) = .int .u8 no := by rw [ha]; simp [Act.eval]
  have t1 : a.eval (.tmp 1) = .int .u16 nt := by rw [ha]; simp [Act.eval]
  have hdf : a.defers = [] := by rw [ha]
  rw [← ha]
  clear ha
  unfold code38
  refine wpIn_seq (region_p 2 ?_)
  intro K hK
  refine ListK.assign (i := 0) (v := .int .i64 0) rfl (by simp) ?_
  refine ListK.assign (i := 1) (v := .int .i64 0) rfl (by simp) ?_
  refine ListK.done (hK _ _ ?_)
  clear hK K
  generalize hA : Act.put _ _ _ = a1
  have hz_a1 : a1.tmps.size = 13 := by rw [← hA]; simp only [size_put, hsz]
  have u0 : a1.eval (.tmp 0) = .int .u8 no := by rw [← hA]; exact (by simp [t0])
  have u1 : a1.eval (.tmp 1) = .int .u16 nt := by rw [← hA]; exact (by simp [t1])
  have hd_a1 : a1.defers = [] := by rw [← hA]; simp only [defers_put, hdf]
  clear hA
  refine wpIn_seq (region_p 9 ?_)
  intro K hK
  refine ListK.move (i := 0) (v := .int .u8 no) rfl (by simp [u0]) ?_
  refine ListK.conv (i := 1) (u := .int .u8 no) (v := .int .i64 no) rfl (by simp [hz_a1]) (cvu8 h1 _) ?_
  refine ListK.bin (i := 2) (u := .int .i64 no) (u' := .int .i64 6) (v := .int .i64 ((no : Int) % 6)) rfl (by simp [hz_a1]) (by simp) (rem3r (by omega) (by omega) rfl _) ?_
  refine ListK.bin (i := 3) (u := .int .i64 1) (u' := .int .i64 ((no : Int) % 6)) (v := .int .i64 (1 + (no : Int) % 6)) rfl (by simp) (by simp [hz_a1]) (add3 (by omega) (by omega) _) ?_
  refine ListK.move (i := 4) (v := .int .u16 nt) rfl (by simp [u1]) ?_
  refine ListK.conv (i := 5) (u := .int .u16 nt) (v := .int .i64 nt) rfl (by simp [hz_a1]) (cv63 h2 _) ?_
  refine ListK.bin (i := 6) (u := .int .i64 nt) (u' := .int .i64 1001) (v := .int .i64 ((nt : Int) % 1001)) rfl (by simp [hz_a1]) (by simp) (rem3r (by omega) (by omega) rfl _) ?_
  refine ListK.assign (i := 7) (v := .int .i64 (1 + (no : Int) % 6)) rfl (by simp [hz_a1]) ?_
  refine ListK.assign (i := 8) (v := .int .i64 ((nt : Int) % 1001)) rfl (by simp [hz_a1]) ?_
  refine ListK.done (hK _ _ (wpIn_ret ?_))
  exact bodyPost_ret (v := .tuple #[.int .i64 (1 + (no : Int) % 6), .int .i64 ((nt : Int) % 1001)]) (res2t Try.results38 (by simp [hz_a1]) (by simp [hz_a1])) (by simp only [defers_put, hd_a1]) ⟨rfl, Below.refl _ _⟩
/-- What Truly gives. -/
def TyP (W : World) (o t : Int) (ws : List Nat) : Ending → World → Prop := fun e w' => ∃ i A2 c2 A3 c3, i ≤ 8 ∧ i ≤ ws.length ∧ e = .returned (.tuple #[.agg #[.int .i64 o, .int .i64 t, .slice A2 (truly o t ws i).1.length c2], .slice A3 (truly o t ws i).2.1.length c3]) ∧ SalesAt w' w'.heap.size A2 (truly o t ws i).1 ∧ IntsAt w' w'.heap.size A3 (truly o t ws i).2.1 ∧ Below W.heap.size W w'
theorem own_set {w : World} {B e sz n : Nat} {v u : Value} {xs : List Value} {p : Addr} (h : w.ownsRow B e sz v n xs) (hp : p.block < B) : (w.setCell p u).ownsRow B e sz v n xs :=
  h.kept (grown_set w p u) (.inr fun e => by have := (h.lt p.block e).1; omega)
theorem ints_own {w : World} {B c : Nat} {A : Option Addr} {xs : List Int} (h : w.ownsRow B 3 1 (.slice A xs.length c) xs.length (xs.map (Value.int .i64))) : IntsAt w w.heap.size A xs := by
  intro k x hx
  have hk := (List.getElem?_eq_some_iff.1 hx).1
  rcases h.2 with ⟨e, h0⟩ | ⟨g, cap, cur, e, hb, hg, _⟩
  · omega
  · cases e
    refine ⟨g, 0, rfl, (Array.getElem?_eq_some_iff.1 hg).1, ?_⟩
    rw [Nat.zero_add, h.cellAt k (by omega), List.getElem?_map, hx]
    rfl
set_option maxRecDepth 10000 in
set_option maxHeartbeats 4000000 in
theorem truly_any (o t : Int) (A1 : Option Addr) (ws : List Nat) (c1 : Nat) (W : World) (h1 : 1 ≤ o) (h2 : o ≤ 6) (h3 : 0 ≤ t) (h4 : t ≤ 1000) (hw : WordsAt W W.heap.size A1 ws) :
    Calls Try.prog 39 #[.int .i64 o, .int .i64 t, .slice A1 ws.length c1] W (TyP W o t ws) := by
  refine (callsIn_wide (n := 5)).1 (callsIn_of_wp Try.func39 body39 trivial ?_ rfl)
  obtain ⟨a, ha⟩ : ∃ a : Act, a = { tmps := #[.int .i64 o, .int .i64 t, .slice A1 ws.length c1] ++ Array.replicate (Try.f39.ntmps - (#[.int .i64 o, .int .i64 t, .slice A1 ws.length c1] : Array Value).size) undef, defers := [] } := ⟨_, rfl⟩
  have hsz : a.tmps.size = 109 := by rw [ha]; simp [Try.ntmps39]
  have t0 : a.eval (.tmp 0) = .int .i64 o := by rw [ha]; simp [Act.eval]
  have t1 : a.eval (.tmp 1) = .int .i64 t := by rw [ha]; simp [Act.eval]
  have t2 : a.eval (.tmp 2) = .slice A1 ws.length c1 := by rw [ha]; simp [Act.eval]
  have hdf : a.defers = [] := by rw [ha]
  rw [← ha]
  clear ha
  unfold code39
  refine wpIn_seq (region_p 2 ?_)
  intro K hK
  refine ListK.alloc (i := 0) rfl (al24 W) ?_
  refine ListK.assign (i := 1) (v := .slice none 0 0) rfl (by simp) ?_
  refine ListK.done (hK _ _ ?_)
  clear hK K
  obtain ⟨W1, hW1⟩ : ∃ W1, W.alloc (.cells #[.int .i64 0, .int .i64 0, .slice none 0 0] 24) = W1 := ⟨_, rfl⟩
  have hb1 : Below W.heap.size W W1 := by rw [← hW1]; exact (Below.refl _ W).alloc (Nat.le_refl _) _
  have k6 : Whole W1 W.heap.size 24 #[.int .i64 0, .int .i64 0, .slice none 0 0] := by rw [← hW1]; exact Whole.new W 24 _
  rw [hW1]
  obtain ⟨p6, hp6⟩ : ∃ p, W.heap.size = p := ⟨_, rfl⟩
  rw [hp6] at k6
  simp only [hp6]
  generalize hA : Act.put _ _ _ = a1
  have hz_a1 : a1.tmps.size = 109 := by rw [← hA]; simp only [size_put, hsz]
  have u0 : a1.eval (.tmp 0) = .int .i64 o := by rw [← hA]; exact (by simp [t0])
  have u1 : a1.eval (.tmp 1) = .int .i64 t := by rw [← hA]; exact (by simp [t1])
  have u2 : a1.eval (.tmp 2) = .slice A1 ws.length c1 := by rw [← hA]; exact (by simp [t2])
  have u6 : a1.eval (.tmp 6) = .pointer (some ⟨p6, 0, none⟩) := by rw [← hA]; exact (by simp [hsz])
  have hd_a1 : a1.defers = [] := by rw [← hA]; simp only [defers_put, hdf]
  clear hA
  refine wpIn_seq (region_p 5 ?_)
  intro K hK
  refine ListK.move (i := 0) (v := .int .i64 o) rfl (by simp [u0]) ?_
  refine ListK.move (i := 1) (v := .int .i64 t) rfl (by simp [u1]) ?_
  refine ListK.bld (i := 2) (ps := #[(0, .int .i64 o), (1, .int .i64 t)]) (v := .agg #[.int .i64 o, .int .i64 t, .slice none 0 0]) rfl (by simp [hz_a1]) (bd24 _ _ _) ?_
  refine ListK.alloc (i := 3) rfl (al24 W1) ?_
  refine ListK.store (i := 4) (u := .pointer (some ⟨W1.heap.size, 0, none⟩)) (u' := .agg #[.int .i64 o, .int .i64 t, .slice none 0 0]) rfl (by simp [hz_a1]) (by simp [hz_a1]) (st24n W1 o t none 0 0) ?_
  refine ListK.done (hK _ _ ?_)
  clear hK K
  obtain ⟨W2, hW2⟩ : ∃ W2, W1.alloc (.cells #[.int .i64 o, .int .i64 t, .slice none 0 0] 24) = W2 := ⟨_, rfl⟩
  have hb2 : Below W1.heap.size W1 W2 := by rw [← hW2]; exact (Below.refl _ W1).alloc (Nat.le_refl _) _
  have k8 : Whole W2 W1.heap.size 24 #[.int .i64 o, .int .i64 t, .slice none 0 0] := by rw [← hW2]; exact Whole.new W1 24 _
  rw [hW2]
  obtain ⟨p8, hp8⟩ : ∃ p, W1.heap.size = p := ⟨_, rfl⟩
  rw [hp8] at k8
  simp only [hp8]
  have h68 : p6 < p8 := by have := k6.lt; omega
  have tk0 : TrK W p6 p8 o t (.slice none 0 0) [] W2 := ⟨hb1.trans (hb2.mono (by have := hb1.size; omega)), k6.below hb2 k6.lt, k8, World.ownsRow_nil _ _ _ _, by omega, h68⟩
  have rm0 : RM W1 (.slice none 0 0) (.slice none 0 0) (upTo 0) [] W2 := ⟨hb2, World.ownsRow_nil _ _ _ _, World.ownsRow_nil _ _ _ _, .inl rfl⟩
  generalize hA : Act.put _ _ _ = a2
  have hz_a2 : a2.tmps.size = 109 := by rw [← hA]; simp only [size_put, hz_a1]
  have v0 : a2.eval (.tmp 0) = .int .i64 o := by rw [← hA]; exact (by simp [u0])
  have v2 : a2.eval (.tmp 2) = .slice A1 ws.length c1 := by rw [← hA]; exact (by simp [u2])
  have v6 : a2.eval (.tmp 6) = .pointer (some ⟨p6, 0, none⟩) := by rw [← hA]; exact (by simp [u6])
  have v8 : a2.eval (.tmp 8) = .pointer (some ⟨p8, 0, none⟩) := by rw [← hA]; exact (by simp [hz_a1])
  have hd_a2 : a2.defers = [] := by rw [← hA]; simp only [defers_put, hd_a1]
  clear hA
  refine wpIn_seq (region_p 2 ?_)
  intro K hK
  refine ListK.assign (i := 0) (v := .slice none 0 0) rfl (by simp) ?_
  refine ListK.assign (i := 1) (v := .slice none 0 0) rfl (by simp) ?_
  refine ListK.done (hK _ _ ?_)
  clear hK K
  generalize hA : Act.put _ _ _ = a3
  have hz_a3 : a3.tmps.size = 109 := by rw [← hA]; simp only [size_put, hz_a2]
  have x0 : a3.eval (.tmp 0) = .int .i64 o := by rw [← hA]; exact (by simp [v0])
  have x2 : a3.eval (.tmp 2) = .slice A1 ws.length c1 := by rw [← hA]; exact (by simp [v2])
  have x6 : a3.eval (.tmp 6) = .pointer (some ⟨p6, 0, none⟩) := by rw [← hA]; exact (by simp [v6])
  have x8 : a3.eval (.tmp 8) = .pointer (some ⟨p8, 0, none⟩) := by rw [← hA]; exact (by simp [v8])
  have x9 : a3.eval (.tmp 9) = .slice none 0 0 := by rw [← hA]; exact (by simp [hz_a2])
  have x10 : a3.eval (.tmp 10) = .slice none 0 0 := by rw [← hA]; exact (by simp [hz_a2])
  have hd_a3 : a3.defers = [] := by rw [← hA]; simp only [defers_put, hd_a2]
  clear hA
  refine wpIn_seq (region_p 1 ?_)
  intro K hK
  refine ListK.assign (i := 0) (v := .int .i64 0) rfl (by simp) ?_
  refine ListK.done (hK _ _ ?_)
  clear hK K
  generalize hA : Act.put _ _ _ = a4
  have hz_a4 : a4.tmps.size = 109 := by rw [← hA]; simp only [size_put, hz_a3]
  have y0 : a4.eval (.tmp 0) = .int .i64 o := by rw [← hA]; exact (by simp [x0])
  have y2 : a4.eval (.tmp 2) = .slice A1 ws.length c1 := by rw [← hA]; exact (by simp [x2])
  have y6 : a4.eval (.tmp 6) = .pointer (some ⟨p6, 0, none⟩) := by rw [← hA]; exact (by simp [x6])
  have y8 : a4.eval (.tmp 8) = .pointer (some ⟨p8, 0, none⟩) := by rw [← hA]; exact (by simp [x8])
  have y9 : a4.eval (.tmp 9) = .slice none 0 0 := by rw [← hA]; exact (by simp [x9])
  have y10 : a4.eval (.tmp 10) = .slice none 0 0 := by rw [← hA]; exact (by simp [x10])
  have y11 : a4.eval (.tmp 11) = .int .i64 0 := by rw [← hA]; exact (by simp [hz_a3])
  have hd_a4 : a4.defers = [] := by rw [← hA]; simp only [defers_put, hd_a3]
  clear hA
  refine wpIn_seq (wpIn_seq (region_p 1 ?_))
  intro K hK
  refine ListK.assign (i := 0) (v := .int .i64 0) rfl (by simp) ?_
  refine ListK.done (hK _ _ ?_)
  clear hK K
  clear k6 k8 hb1 hb2 hW1 hW2
  refine wpIn_block (wpIn_loop (fun a W' => ∃ i vs vo vd, i ≤ 8 ∧ i ≤ ws.length ∧ TrG o A1 ws.length c1 p6 p8 vo vd (truly o t ws i).2.2 i a ∧ TrK W p6 p8 o t vs (truly o t ws i).1 W' ∧ RM W1 vo vd (upTo (truly o t ws i).1.length) (truly o t ws i).2.1 W') (fun a _ => ws.length - (intOf (a.eval (.tmp 12))).toNat)
    ⟨0, .slice none 0 0, .slice none 0 0, .slice none 0 0, by omega, Nat.zero_le _, ⟨(by simp only [size_put, hz_a4]), (by simp only [defers_put, hd_a4]), (by simp [y0]), (by simp [y2]), (by simp [y6]), (by simp [y8]), (by simp [y9]), (by simp [y10]), (by show _ = Value.int .i64 0; exact (by simp [y11])), (by simp [hz_a4])⟩, tk0, rm0⟩ ?_)
  clear hsz t0 t1 t2 hdf hz_a1 hd_a1 u0 u1 u2 u6 hz_a2 hd_a2 v0 v2 v6 v8 hz_a3 hd_a3 x0 x2 x6 x8 x9 x10 hz_a4 hd_a4 y0 y2 y6 y8 y9 y10 y11 tk0 rm0
  rintro b1 W3 ⟨i, vs, vo, vd, hi8, hiw, hf, hk, hr⟩
  have hI := truly_inv h1 h2 h3 h4 ws i hi8 hiw
  obtain ⟨hz_b1, hd_b1, u0, u2, u6, u8, u9, u10, u11, u12⟩ := hf
  have hout : ∀ (a' : Act), TrG o A1 ws.length c1 p6 p8 vo vd (truly o t ws i).2.2 i a' → tr_d.wpIn Fence.wide 5 Try.prog (bodyPost Try.prog Try.f39 (TyP W o t ws)) a' W3 := by
    intro c1' hf'
    obtain ⟨hz_c, hd_c, w0, w2, w6, w8, w9, w10, w11, w12⟩ := hf'
    obtain ⟨A, c, e, hs⟩ := sales_of_owns73 hk.os
    subst e
    obtain ⟨_, Ad, cd, e, hcd, hid⟩ := hr.ri
    subst e
    unfold tr_d
    refine wpIn_seq (region_p 4 ?_)
    intro K hK
    refine ListK.load (i := 0) (p := ⟨p8, 0, none⟩) (v := .agg #[.int .i64 o, .int .i64 t, .slice A (truly o t ws i).1.length c]) rfl (by simp [w8]) (ld24 ⟨hk.k8.cell 0, hk.k8.cell 1, hk.k8.cell 2⟩) ?_
    refine ListK.move (i := 1) (v := .slice Ad (truly o t ws i).2.1.length cd) rfl (by simp [w10]) ?_
    refine ListK.store (i := 2) (u := .pointer (some ⟨p6, 0, none⟩)) (u' := .agg #[.int .i64 o, .int .i64 t, .slice A (truly o t ws i).1.length c]) rfl (by simp [w6]) (by simp [hz_c]) (st24 (hk.k6.cell 0) (hk.k6.cell 1) (hk.k6.cell 2) (hk.k6.frozen 0) (hk.k6.frozen 1) (hk.k6.frozen 2)) ?_
    refine ListK.assign (i := 3) (v := .slice Ad (truly o t ws i).2.1.length cd) rfl (by simp [hz_c]) ?_
    refine ListK.done (hK _ _ (wpIn_ret ?_))
    have hp68 := hk.p68
    have hp6W := hk.p6W
    have kk := ((hk.k6.set 0 (.int .i64 o)).set 1 (.int .i64 t)).set 2 (.slice A (truly o t ws i).1.length c)
    have oss := own_set (p := ⟨p6, 2, none⟩) (u := .slice A (truly o t ws i).1.length c) (own_set (p := ⟨p6, 1, none⟩) (u := .int .i64 t) (own_set (p := ⟨p6, 0, none⟩) (u := .int .i64 o) hk.os (by show p6 < p8 + 1; omega)) (by show p6 < p8 + 1; omega)) (by show p6 < p8 + 1; omega)
    have oo := hr.os
    rw [hp8] at oo
    have odd := own_set (p := ⟨p6, 2, none⟩) (u := .slice A (truly o t ws i).1.length c) (own_set (p := ⟨p6, 1, none⟩) (u := .int .i64 t) (own_set (p := ⟨p6, 0, none⟩) (u := .int .i64 o) oo (by show p6 < p8; omega)) (by show p6 < p8; omega)) (by show p6 < p8; omega)
    have hlow := ((hk.low.setCell (p := ⟨p6, 0, none⟩) (by show W.heap.size ≤ p6; omega) (.int .i64 o)).setCell (p := ⟨p6, 1, none⟩) (by show W.heap.size ≤ p6; omega) (.int .i64 t)).setCell (p := ⟨p6, 2, none⟩) (by show W.heap.size ≤ p6; omega) (.slice A (truly o t ws i).1.length c)
    generalize ((W3.setCell ⟨p6, 0, none⟩ (.int .i64 o)).setCell ⟨p6, 1, none⟩ (.int .i64 t)).setCell ⟨p6, 2, none⟩ (.slice A (truly o t ws i).1.length c) = W4 at *
    obtain ⟨A4, c4, e4, hs4⟩ := sales_of_owns73 oss
    cases e4
    have hi5 := ints_own odd
    exact bodyPost_ret (v := .tuple #[.agg #[.int .i64 o, .int .i64 t, .slice A (truly o t ws i).1.length c], .slice Ad (truly o t ws i).2.1.length cd]) (res24b (b := p6) Try.results39 (by simp [w6]) (by simp [hz_c]) (by have := kk.cell 0; simpa using this) (by have := kk.cell 1; simpa using this) (by have := kk.cell 2; simpa using this)) (by simp only [defers_put, hd_c]) ⟨i, A, c, Ad, cd, hi8, hiw, rfl, hs4, hi5, hlow⟩
  by_cases hil : i < ws.length
  · by_cases hi9 : i < 8
    · skip
      refine wpIn_seq (wpIn_seq (region_p 8 ?_))
      intro K hK
      refine ListK.move (i := 0) (v := .int .i64 i) rfl (by simp [u12]) ?_
      refine ListK.move (i := 1) (v := .slice A1 ws.length c1) rfl (by simp [u2]) ?_
      refine ListK.len (i := 2) (u := .slice A1 ws.length c1) (v := .int .i64 ws.length) rfl (by simp [hz_b1]) (ln64 _ _ _ _ _) rfl ?_
      refine ListK.bin (i := 3) (u := .int .i64 i) (u' := .int .i64 ws.length) (v := .bool true) rfl (by simp [hz_b1]) (by simp [hz_b1]) (lssT (by omega) _) ?_
      refine ListK.move (i := 4) (v := .bool true) rfl (by simp [hz_b1]) ?_
      refine ListK.move (i := 5) (v := .int .i64 i) rfl (by simp [u12]) ?_ (hw := wanted_g (e := 26) (b' := true) rfl (by simp [hz_b1]) rfl)
      refine ListK.bin (i := 6) (u := .int .i64 i) (u' := .int .i64 8) (v := .bool true) rfl (by simp [hz_b1]) (by simp) (lssT (by omega) _) ?_ (hw := wanted_g (e := 26) (b' := true) rfl (by simp [hz_b1]) rfl)
      refine ListK.pick (i := 7) (b := true) (v := .bool true) rfl (by simp [hz_b1]) (by simp [hz_b1]) ?_
      refine ListK.done (hK _ _ ?_)
      clear hK K
      refine wpIn_cond (t := true) (by simp [hz_b1]) (wpIn_skip ?_)
      show (Code.seq _ _).wpIn _ _ _ _ _ _
      refine wpIn_seq (wpIn_block ?_)
      have hlast : ∀ (Q : Exit → Act → World → Prop), (∀ a' W', (∃ i vs vo vd, i ≤ 8 ∧ i ≤ ws.length ∧ TrG o A1 ws.length c1 p6 p8 vo vd (truly o t ws i).2.2 i a' ∧ TrK W p6 p8 o t vs (truly o t ws i).1 W' ∧ RM W1 vo vd (upTo (truly o t ws i).1.length) (truly o t ws i).2.1 W') → ws.length - (intOf (a'.eval (.tmp 12))).toNat < ws.length - (intOf (b1.eval (.tmp 12))).toNat → Q .normal a' W') →
          ∀ a' W' vs' vo' vd', TrG o A1 ws.length c1 p6 p8 vo' vd' (trStep o t ((truly o t ws i).1, (truly o t ws i).2.1, (truly o t ws i).2.2) ws[i]).2.2 i a' → TrK W p6 p8 o t vs' (trStep o t ((truly o t ws i).1, (truly o t ws i).2.1, (truly o t ws i).2.2) ws[i]).1 W' → RM W1 vo' vd' (upTo (trStep o t ((truly o t ws i).1, (truly o t ws i).2.1, (truly o t ws i).2.2) ws[i]).1.length) (trStep o t ((truly o t ws i).1, (truly o t ws i).2.1, (truly o t ws i).2.2) ws[i]).2.1 W' →
          (Code.region 6 opsTy6 false).wpIn Fence.wide 5 Try.prog Q a' W' := by
        intro Q hQ a' W' vs' vo' vd' f' k' r'
        have e : trStep o t ((truly o t ws i).1, (truly o t ws i).2.1, (truly o t ws i).2.2) ws[i] = truly o t ws (i + 1) := (truly_step hil).symm
        rw [e] at f' k' r'
        refine tr6 hi9 f' fun a2 f2 => hQ _ _ ⟨i + 1, vs', vo', vd', by omega, by omega, f2, k', r'⟩ ?_
        rw [f2.2.2.2.2.2.2.2.2.2, u12]
        simp only [intOf]
        omega
      refine tr7 (dy := (truly o t ws i).2.2) (l := (truly o t ws i).1) (ds := (truly o t ws i).2.1) (p6 := p6) (c1 := c1) (vo := vo) (vd := vd) (i := i) hi9 hil hw hI hp8 ⟨(by simp only [size_put, hz_b1]), (by simp only [defers_put, hd_b1]), (by simp [u0]), (by simp [u2]), (by simp [u6]), (by simp [u8]), (by simp [u9]), (by simp [u10]), (by simp [u11]), (by simp [u12])⟩ hk hr (fun a' W' vs' vo' vd' f' k' r' => ?_) (fun a' W' vs' vo' vd' f' k' r' => ?_)
      · exact hlast _ (fun a2 W2 h e => ⟨h, e⟩) a' W' vs' vo' vd' f' k' r'
      · exact hlast _ (fun a2 W2 h e => ⟨h, e⟩) a' W' vs' vo' vd' f' k' r'
    · skip
      refine wpIn_seq (wpIn_seq (region_p 8 ?_))
      intro K hK
      refine ListK.move (i := 0) (v := .int .i64 i) rfl (by simp [u12]) ?_
      refine ListK.move (i := 1) (v := .slice A1 ws.length c1) rfl (by simp [u2]) ?_
      refine ListK.len (i := 2) (u := .slice A1 ws.length c1) (v := .int .i64 ws.length) rfl (by simp [hz_b1]) (ln64 _ _ _ _ _) rfl ?_
      refine ListK.bin (i := 3) (u := .int .i64 i) (u' := .int .i64 ws.length) (v := .bool true) rfl (by simp [hz_b1]) (by simp [hz_b1]) (lssT (by omega) _) ?_
      refine ListK.move (i := 4) (v := .bool true) rfl (by simp [hz_b1]) ?_
      refine ListK.move (i := 5) (v := .int .i64 i) rfl (by simp [u12]) ?_ (hw := wanted_g (e := 26) (b' := true) rfl (by simp [hz_b1]) rfl)
      refine ListK.bin (i := 6) (u := .int .i64 i) (u' := .int .i64 8) (v := .bool false) rfl (by simp [hz_b1]) (by simp) (lssF (by omega) _) ?_ (hw := wanted_g (e := 26) (b' := true) rfl (by simp [hz_b1]) rfl)
      refine ListK.pick (i := 7) (b := true) (v := .bool false) rfl (by simp [hz_b1]) (by simp [hz_b1]) ?_
      refine ListK.done (hK _ _ ?_)
      clear hK K
      refine wpIn_cond (t := false) (by simp [hz_b1]) (wpIn_exit ?_)
      exact hout _ ⟨(by simp only [size_put, hz_b1]), (by simp only [defers_put, hd_b1]), (by simp [u0]), (by simp [u2]), (by simp [u6]), (by simp [u8]), (by simp [u9]), (by simp [u10]), (by simp [u11]), (by simp [u12])⟩
  · skip
    refine wpIn_seq (wpIn_seq (region_p 8 ?_))
    intro K hK
    refine ListK.move (i := 0) (v := .int .i64 i) rfl (by simp [u12]) ?_
    refine ListK.move (i := 1) (v := .slice A1 ws.length c1) rfl (by simp [u2]) ?_
    refine ListK.len (i := 2) (u := .slice A1 ws.length c1) (v := .int .i64 ws.length) rfl (by simp [hz_b1]) (ln64 _ _ _ _ _) rfl ?_
    refine ListK.bin (i := 3) (u := .int .i64 i) (u' := .int .i64 ws.length) (v := .bool false) rfl (by simp [hz_b1]) (by simp [hz_b1]) (lssF (by omega) _) ?_
    refine ListK.move (i := 4) (v := .bool false) rfl (by simp [hz_b1]) ?_
    refine ListK.passG (i := 5) (e := 26) (b' := false) rfl rfl (by simp [hz_b1]) rfl ?_
    refine ListK.passG (i := 6) (e := 26) (b' := false) rfl rfl (by simp [hz_b1]) rfl ?_
    refine ListK.pick (i := 7) (b := false) (v := .bool false) rfl (by simp [hz_b1]) (by simp) ?_
    refine ListK.done (hK _ _ ?_)
    clear hK K
    refine wpIn_cond (t := false) (by simp [hz_b1]) (wpIn_exit ?_)
    exact hout _ ⟨(by simp only [size_put, hz_b1]), (by simp only [defers_put, hd_b1]), (by simp [u0]), (by simp [u2]), (by simp [u6]), (by simp [u8]), (by simp [u9]), (by simp [u10]), (by simp [u11]), (by simp [u12])⟩
end Go.Proofs.Ytfcnombmphophaa
namespace Go.Proofs.Ytfcnombmphophaa
open Go.RowKit Go.Shelf
theorem eve_fair {o t : Int} {l : List Sale} (hv : Valid o t l) {ps : List (Nat × Int)} (hp : TruP t l ps) {on : Int} (h0 : 0 ≤ on) (h1 : on ≤ 100) : Fair o t (stocksOf t l (eveSet ps on)) := by
  obtain ⟨_, e2⟩ := tru_eve hv hp h0 h1
  unfold eveB at e2
  rw [Bool.and_eq_true, decide_eq_true_eq] at e2
  exact fair_early hv (d := eveSet ps on) (by omega)
theorem hold_facts {o t : Int} {l : List Sale} (hv : Valid o t l) {ps : List (Nat × Int)} (hp : TruP t l ps) {on : Int} (h0 : 0 ≤ on) (h1 : on ≤ 100) {ow : Nat} (ho : (ow : Int) < o) :
    0 ≤ (holdsR t l ow on).1 ∧ (holdsR t l ow on).1 ≤ stocksOf t l (eveSet ps on) ow ∧ stocksOf t l (eveSet ps on) ow ≤ (holdsR t l ow on).2 ∧ (holdsR t l ow on).2 ≤ 1000 := by
  have hF : fitsB t l = true := (fits_tru hv).2 ⟨ps, hp⟩
  obtain ⟨a, ⟨qs, b1, b2⟩, rs, c1, c2⟩ := holds_sem hv hF ho h0 h1
  have h2 := (eve_fair hv b1 h0 h1).pos ow
  have h3 := (eve_fair hv c1 h0 h1).le (i := ow) (by omega)
  have h4 := a ps hp
  have h5 := hv.t1
  omega
end Go.Proofs.Ytfcnombmphophaa
namespace Go.Proofs.Ytfcnombmphophaa
open Go.RowKit Go.Shelf
section
attribute [local irreducible] AnyK StepK
end
end Go.Proofs.Ytfcnombmphophaa
namespace Go.Proofs.Ytfcnombmphophaa
open Go.RowKit Go.Shelf
theorem WordsAt.below {w w' : World} {B B' : Nat} {A : Option Addr} {l : List Nat} (h : WordsAt w B A l) (hb : Below B w w') (hB : B ≤ B') : WordsAt w' B' A l := by
  intro k x hx
  obtain ⟨h1, b, off, e, hlt, hc⟩ := h k x hx
  exact ⟨h1, b, off, e, by omega, (hb.cell (p := ⟨b, off + k, none⟩) hlt).trans hc⟩
/-- A truth by words. -/
theorem truth_by (o t : Int) (A1 : Option Addr) (ws : List Nat) (c1 : Nat) (W : World) (h1 : 1 ≤ o) (h2 : o ≤ 6) (h3 : 0 ≤ t) (h4 : t ≤ 1000) (hw : WordsAt W W.heap.size A1 ws) :
    Calls Try.prog 39 #[.int .i64 o, .int .i64 t, .slice A1 ws.length c1] W fun e w' => ∃ (l : List Sale) (ds : List Int) (A : Option Addr) (c : Nat) (A3 : Option Addr) (c3 : Nat), e = .returned (.tuple #[.agg #[.int .i64 o, .int .i64 t, .slice A l.length c], .slice A3 ds.length c3]) ∧ SalesAt w' w'.heap.size A l ∧ IntsAt w' w'.heap.size A3 ds ∧ Below W.heap.size W w' ∧ Valid o t l ∧ TruP t l (dayPs l ds) ∧ ds.length = l.length := by
  refine (truly_any o t A1 ws c1 W h1 h2 h3 h4 hw).mono ?_
  rintro e w' ⟨i, A, c, A3, c3, hi8, hiw, rfl, hs, hi3, hb⟩
  have hI := truly_inv h1 h2 h3 h4 ws i hi8 hiw
  exact ⟨_, _, A, c, A3, c3, rfl, hs, hi3, hb, hI.valid hi8, tri_tru hI, hI.days⟩
section
variable {o t on : Int} {A A3 : Option Addr} {l : List Sale} {ds : List Int} {c c3 nd pb k : Nat} {a1 : Act} {W W1 : World} {Q : Exit → Act → World → Prop}
end
end Go.Proofs.Ytfcnombmphophaa
namespace Go.Proofs.Ytfcnombmphophaa
open Go.RowKit Go.Shelf
theorem gtrB {x y : Operand} {m n : Int} {b : Bool} (h : decide (n < m) = b) (w : World) : (do eqGuard .gtr 3 x y (.int .i64 m) (.int .i64 n); binOp .gtr 3 (.int .i64 m) (.int .i64 n) : Sem Value).run Try.prog w = .ok (.bool b) w := by
  rw [gtr3, h]
theorem eq3B {x y : Operand} {m n : Int} {b : Bool} (h : decide (m = n) = b) (w : World) : (do eqGuard .eql 3 x y (.int .i64 m) (.int .i64 n); binOp .eql 3 (.int .i64 m) (.int .i64 n) : Sem Value).run Try.prog w = .ok (.bool b) w := by
  rw [eq3d, h]
theorem nq4S {x y : Operand} (b : Bool) (w : World) : (do eqGuard .neq 4 x y (.bool b) (.bool b); binOp .neq 4 (.bool b) (.bool b) : Sem Value).run Try.prog w = .ok (.bool false) w := by
  cases b <;> go_simp
noncomputable def opsTt11 : Array Oper := (Try.f8.body.bind (regionOf 11)).getD #[]
def wordsTt11 (bd od nd c3 k p1 : Nat) (e dk x1 y1 : Int) : Words := [fun v _ => v = .int .i64 e, fun v _ => v = .bool false, fun v _ => v = .bool false, fun v _ => v = .slice (some ⟨bd, od, none⟩) nd c3, fun v _ => v = .int .i64 k, fun v _ => v = .pointer (some ⟨bd, od + k, none⟩), fun v _ => v = .int .i64 dk, fun v _ => v = .pointer (some ⟨p1, 0, none⟩), fun v _ => v = .int .i64 x1, fun v _ => v = .bool false, fun v _ => v = .bool false, fun v _ => v = .bool false, fun v _ => v = .slice (some ⟨bd, od, none⟩) nd c3, fun v _ => v = .int .i64 k, fun v _ => v = .pointer (some ⟨bd, od + k, none⟩), fun v _ => v = .int .i64 dk, fun v _ => v = .pointer (some ⟨p1, 1, none⟩), fun v _ => v = .int .i64 y1, fun v _ => v = .bool false, fun v _ => v = .bool false]
set_option maxRecDepth 10000 in
theorem okTt11_0 {bd od nd c3 k p1 : Nat} {e dk x1 y1 : Int} {a : Act} {w : World} (t12 : a.eval (.tmp 12) = .slice (some ⟨bd, od, none⟩) nd c3) (t17 : a.eval (.tmp 17) = .int .i64 k) (t18 : a.eval (.tmp 18) = .pointer (some ⟨p1, 0, none⟩)) (t19 : a.eval (.tmp 19) = .int .i64 e) (md : w.cell? ⟨bd, od + k, none⟩ = some (.int .i64 dk)) (m0 : w.cell? ⟨p1, 0, none⟩ = some (.int .i64 x1)) (m1 : w.cell? ⟨p1, 1, none⟩ = some (.int .i64 y1)) (he : e = 0) (hk : k < nd) (h1 : x1 ≤ dk) (h2 : dk ≤ y1) : OpOk Try.prog opsTt11 (wordsTt11 bd od nd c3 k p1 e dk x1 y1) 153 a w 0 := by
  refine OpOk.gen rfl (fun a1 w1 H => ?_)
  have e19 : a1.eval (.tmp 19) = .int .i64 e := (H.out 19 (by kernel_rfl)).trans t19
  refine gd_none ?_
  exact OpW.move e19 rfl
set_option maxRecDepth 10000 in
theorem okTt11_1 {bd od nd c3 k p1 : Nat} {e dk x1 y1 : Int} {a : Act} {w : World} (t12 : a.eval (.tmp 12) = .slice (some ⟨bd, od, none⟩) nd c3) (t17 : a.eval (.tmp 17) = .int .i64 k) (t18 : a.eval (.tmp 18) = .pointer (some ⟨p1, 0, none⟩)) (t19 : a.eval (.tmp 19) = .int .i64 e) (md : w.cell? ⟨bd, od + k, none⟩ = some (.int .i64 dk)) (m0 : w.cell? ⟨p1, 0, none⟩ = some (.int .i64 x1)) (m1 : w.cell? ⟨p1, 1, none⟩ = some (.int .i64 y1)) (he : e = 0) (hk : k < nd) (h1 : x1 ≤ dk) (h2 : dk ≤ y1) : OpOk Try.prog opsTt11 (wordsTt11 bd od nd c3 k p1 e dk x1 y1) 153 a w 1 := by
  refine OpOk.gen rfl (fun a1 w1 H => ?_)
  have d0 : a1.eval (.tmp 63) = .int .i64 e := H.dep 0 63 rfl (by kernel_rfl)
  refine gd_none ?_
  exact OpW.bin d0 rfl (nqF he _) rfl
set_option maxRecDepth 10000 in
theorem okTt11_2 {bd od nd c3 k p1 : Nat} {e dk x1 y1 : Int} {a : Act} {w : World} (t12 : a.eval (.tmp 12) = .slice (some ⟨bd, od, none⟩) nd c3) (t17 : a.eval (.tmp 17) = .int .i64 k) (t18 : a.eval (.tmp 18) = .pointer (some ⟨p1, 0, none⟩)) (t19 : a.eval (.tmp 19) = .int .i64 e) (md : w.cell? ⟨bd, od + k, none⟩ = some (.int .i64 dk)) (m0 : w.cell? ⟨p1, 0, none⟩ = some (.int .i64 x1)) (m1 : w.cell? ⟨p1, 1, none⟩ = some (.int .i64 y1)) (he : e = 0) (hk : k < nd) (h1 : x1 ≤ dk) (h2 : dk ≤ y1) : OpOk Try.prog opsTt11 (wordsTt11 bd od nd c3 k p1 e dk x1 y1) 153 a w 2 := by
  refine OpOk.gen rfl (fun a1 w1 H => ?_)
  have d1 : a1.eval (.tmp 64) = .bool false := H.dep 1 64 rfl (by kernel_rfl)
  refine gd_none ?_
  exact OpW.move d1 rfl
set_option maxRecDepth 10000 in
theorem okTt11_3 {bd od nd c3 k p1 : Nat} {e dk x1 y1 : Int} {a : Act} {w : World} (t12 : a.eval (.tmp 12) = .slice (some ⟨bd, od, none⟩) nd c3) (t17 : a.eval (.tmp 17) = .int .i64 k) (t18 : a.eval (.tmp 18) = .pointer (some ⟨p1, 0, none⟩)) (t19 : a.eval (.tmp 19) = .int .i64 e) (md : w.cell? ⟨bd, od + k, none⟩ = some (.int .i64 dk)) (m0 : w.cell? ⟨p1, 0, none⟩ = some (.int .i64 x1)) (m1 : w.cell? ⟨p1, 1, none⟩ = some (.int .i64 y1)) (he : e = 0) (hk : k < nd) (h1 : x1 ≤ dk) (h2 : dk ≤ y1) : OpOk Try.prog opsTt11 (wordsTt11 bd od nd c3 k p1 e dk x1 y1) 153 a w 3 := by
  refine OpOk.gen rfl (fun a1 w1 H => ?_)
  have d2 : a1.eval (.tmp 65) = .bool false := H.dep 2 65 rfl (by kernel_rfl)
  have e12 : a1.eval (.tmp 12) = .slice (some ⟨bd, od, none⟩) nd c3 := (H.out 12 (by kernel_rfl)).trans t12
  refine gd_true rfl d2 ?_
  exact OpW.move e12 rfl
set_option maxRecDepth 10000 in
theorem okTt11_4 {bd od nd c3 k p1 : Nat} {e dk x1 y1 : Int} {a : Act} {w : World} (t12 : a.eval (.tmp 12) = .slice (some ⟨bd, od, none⟩) nd c3) (t17 : a.eval (.tmp 17) = .int .i64 k) (t18 : a.eval (.tmp 18) = .pointer (some ⟨p1, 0, none⟩)) (t19 : a.eval (.tmp 19) = .int .i64 e) (md : w.cell? ⟨bd, od + k, none⟩ = some (.int .i64 dk)) (m0 : w.cell? ⟨p1, 0, none⟩ = some (.int .i64 x1)) (m1 : w.cell? ⟨p1, 1, none⟩ = some (.int .i64 y1)) (he : e = 0) (hk : k < nd) (h1 : x1 ≤ dk) (h2 : dk ≤ y1) : OpOk Try.prog opsTt11 (wordsTt11 bd od nd c3 k p1 e dk x1 y1) 153 a w 4 := by
  refine OpOk.gen rfl (fun a1 w1 H => ?_)
  have d2 : a1.eval (.tmp 65) = .bool false := H.dep 2 65 rfl (by kernel_rfl)
  have e17 : a1.eval (.tmp 17) = .int .i64 k := (H.out 17 (by kernel_rfl)).trans t17
  refine gd_true rfl d2 ?_
  exact OpW.move e17 rfl
set_option maxRecDepth 10000 in
theorem okTt11_5 {bd od nd c3 k p1 : Nat} {e dk x1 y1 : Int} {a : Act} {w : World} (t12 : a.eval (.tmp 12) = .slice (some ⟨bd, od, none⟩) nd c3) (t17 : a.eval (.tmp 17) = .int .i64 k) (t18 : a.eval (.tmp 18) = .pointer (some ⟨p1, 0, none⟩)) (t19 : a.eval (.tmp 19) = .int .i64 e) (md : w.cell? ⟨bd, od + k, none⟩ = some (.int .i64 dk)) (m0 : w.cell? ⟨p1, 0, none⟩ = some (.int .i64 x1)) (m1 : w.cell? ⟨p1, 1, none⟩ = some (.int .i64 y1)) (he : e = 0) (hk : k < nd) (h1 : x1 ≤ dk) (h2 : dk ≤ y1) : OpOk Try.prog opsTt11 (wordsTt11 bd od nd c3 k p1 e dk x1 y1) 153 a w 5 := by
  refine OpOk.gen rfl (fun a1 w1 H => ?_)
  have d2 : a1.eval (.tmp 65) = .bool false := H.dep 2 65 rfl (by kernel_rfl)
  have d3 : a1.eval (.tmp 66) = .slice (some ⟨bd, od, none⟩) nd c3 := H.dep 3 66 rfl (by kernel_rfl)
  have d4 : a1.eval (.tmp 67) = .int .i64 k := H.dep 4 67 rfl (by kernel_rfl)
  refine gd_true rfl d2 ?_
  exact OpW.index d3 d4 (ix25o hk _) rfl
set_option maxRecDepth 10000 in
theorem okTt11_6 {bd od nd c3 k p1 : Nat} {e dk x1 y1 : Int} {a : Act} {w : World} (t12 : a.eval (.tmp 12) = .slice (some ⟨bd, od, none⟩) nd c3) (t17 : a.eval (.tmp 17) = .int .i64 k) (t18 : a.eval (.tmp 18) = .pointer (some ⟨p1, 0, none⟩)) (t19 : a.eval (.tmp 19) = .int .i64 e) (md : w.cell? ⟨bd, od + k, none⟩ = some (.int .i64 dk)) (m0 : w.cell? ⟨p1, 0, none⟩ = some (.int .i64 x1)) (m1 : w.cell? ⟨p1, 1, none⟩ = some (.int .i64 y1)) (he : e = 0) (hk : k < nd) (h1 : x1 ≤ dk) (h2 : dk ≤ y1) : OpOk Try.prog opsTt11 (wordsTt11 bd od nd c3 k p1 e dk x1 y1) 153 a w 6 := by
  refine OpOk.gen rfl (fun a1 w1 H => ?_)
  have d2 : a1.eval (.tmp 65) = .bool false := H.dep 2 65 rfl (by kernel_rfl)
  have d5 : a1.eval (.tmp 68) = .pointer (some ⟨bd, od + k, none⟩) := H.dep 5 68 rfl (by kernel_rfl)
  refine gd_true rfl d2 ?_
  exact OpW.load d5 (ld3 (H.cell md)) rfl
set_option maxRecDepth 10000 in
theorem okTt11_7 {bd od nd c3 k p1 : Nat} {e dk x1 y1 : Int} {a : Act} {w : World} (t12 : a.eval (.tmp 12) = .slice (some ⟨bd, od, none⟩) nd c3) (t17 : a.eval (.tmp 17) = .int .i64 k) (t18 : a.eval (.tmp 18) = .pointer (some ⟨p1, 0, none⟩)) (t19 : a.eval (.tmp 19) = .int .i64 e) (md : w.cell? ⟨bd, od + k, none⟩ = some (.int .i64 dk)) (m0 : w.cell? ⟨p1, 0, none⟩ = some (.int .i64 x1)) (m1 : w.cell? ⟨p1, 1, none⟩ = some (.int .i64 y1)) (he : e = 0) (hk : k < nd) (h1 : x1 ≤ dk) (h2 : dk ≤ y1) : OpOk Try.prog opsTt11 (wordsTt11 bd od nd c3 k p1 e dk x1 y1) 153 a w 7 := by
  refine OpOk.gen rfl (fun a1 w1 H => ?_)
  have d2 : a1.eval (.tmp 65) = .bool false := H.dep 2 65 rfl (by kernel_rfl)
  have e18 : a1.eval (.tmp 18) = .pointer (some ⟨p1, 0, none⟩) := (H.out 18 (by kernel_rfl)).trans t18
  refine gd_true rfl d2 ?_
  exact OpW.field e18 (fa46_0 _) rfl
set_option maxRecDepth 10000 in
theorem okTt11_8 {bd od nd c3 k p1 : Nat} {e dk x1 y1 : Int} {a : Act} {w : World} (t12 : a.eval (.tmp 12) = .slice (some ⟨bd, od, none⟩) nd c3) (t17 : a.eval (.tmp 17) = .int .i64 k) (t18 : a.eval (.tmp 18) = .pointer (some ⟨p1, 0, none⟩)) (t19 : a.eval (.tmp 19) = .int .i64 e) (md : w.cell? ⟨bd, od + k, none⟩ = some (.int .i64 dk)) (m0 : w.cell? ⟨p1, 0, none⟩ = some (.int .i64 x1)) (m1 : w.cell? ⟨p1, 1, none⟩ = some (.int .i64 y1)) (he : e = 0) (hk : k < nd) (h1 : x1 ≤ dk) (h2 : dk ≤ y1) : OpOk Try.prog opsTt11 (wordsTt11 bd od nd c3 k p1 e dk x1 y1) 153 a w 8 := by
  refine OpOk.gen rfl (fun a1 w1 H => ?_)
  have d2 : a1.eval (.tmp 65) = .bool false := H.dep 2 65 rfl (by kernel_rfl)
  have d7 : a1.eval (.tmp 70) = .pointer (some ⟨p1, 0, none⟩) := H.dep 7 70 rfl (by kernel_rfl)
  refine gd_true rfl d2 ?_
  exact OpW.load d7 (ld3 (H.cell m0)) rfl
set_option maxRecDepth 10000 in
theorem okTt11_9 {bd od nd c3 k p1 : Nat} {e dk x1 y1 : Int} {a : Act} {w : World} (t12 : a.eval (.tmp 12) = .slice (some ⟨bd, od, none⟩) nd c3) (t17 : a.eval (.tmp 17) = .int .i64 k) (t18 : a.eval (.tmp 18) = .pointer (some ⟨p1, 0, none⟩)) (t19 : a.eval (.tmp 19) = .int .i64 e) (md : w.cell? ⟨bd, od + k, none⟩ = some (.int .i64 dk)) (m0 : w.cell? ⟨p1, 0, none⟩ = some (.int .i64 x1)) (m1 : w.cell? ⟨p1, 1, none⟩ = some (.int .i64 y1)) (he : e = 0) (hk : k < nd) (h1 : x1 ≤ dk) (h2 : dk ≤ y1) : OpOk Try.prog opsTt11 (wordsTt11 bd od nd c3 k p1 e dk x1 y1) 153 a w 9 := by
  refine OpOk.gen rfl (fun a1 w1 H => ?_)
  have d2 : a1.eval (.tmp 65) = .bool false := H.dep 2 65 rfl (by kernel_rfl)
  have d6 : a1.eval (.tmp 69) = .int .i64 dk := H.dep 6 69 rfl (by kernel_rfl)
  have d8 : a1.eval (.tmp 71) = .int .i64 x1 := H.dep 8 71 rfl (by kernel_rfl)
  refine gd_true rfl d2 ?_
  exact OpW.bin d6 d8 (lssF (by omega) _) rfl
set_option maxRecDepth 10000 in
theorem okTt11_10 {bd od nd c3 k p1 : Nat} {e dk x1 y1 : Int} {a : Act} {w : World} (t12 : a.eval (.tmp 12) = .slice (some ⟨bd, od, none⟩) nd c3) (t17 : a.eval (.tmp 17) = .int .i64 k) (t18 : a.eval (.tmp 18) = .pointer (some ⟨p1, 0, none⟩)) (t19 : a.eval (.tmp 19) = .int .i64 e) (md : w.cell? ⟨bd, od + k, none⟩ = some (.int .i64 dk)) (m0 : w.cell? ⟨p1, 0, none⟩ = some (.int .i64 x1)) (m1 : w.cell? ⟨p1, 1, none⟩ = some (.int .i64 y1)) (he : e = 0) (hk : k < nd) (h1 : x1 ≤ dk) (h2 : dk ≤ y1) : OpOk Try.prog opsTt11 (wordsTt11 bd od nd c3 k p1 e dk x1 y1) 153 a w 10 := by
  refine OpOk.gen rfl (fun a1 w1 H => ?_)
  have d2 : a1.eval (.tmp 65) = .bool false := H.dep 2 65 rfl (by kernel_rfl)
  have d9 : a1.eval (.tmp 72) = .bool false := H.dep 9 72 rfl (by kernel_rfl)
  refine gd_none ?_
  exact OpW.pick (b := false) d2 d9
set_option maxRecDepth 10000 in
theorem okTt11_11 {bd od nd c3 k p1 : Nat} {e dk x1 y1 : Int} {a : Act} {w : World} (t12 : a.eval (.tmp 12) = .slice (some ⟨bd, od, none⟩) nd c3) (t17 : a.eval (.tmp 17) = .int .i64 k) (t18 : a.eval (.tmp 18) = .pointer (some ⟨p1, 0, none⟩)) (t19 : a.eval (.tmp 19) = .int .i64 e) (md : w.cell? ⟨bd, od + k, none⟩ = some (.int .i64 dk)) (m0 : w.cell? ⟨p1, 0, none⟩ = some (.int .i64 x1)) (m1 : w.cell? ⟨p1, 1, none⟩ = some (.int .i64 y1)) (he : e = 0) (hk : k < nd) (h1 : x1 ≤ dk) (h2 : dk ≤ y1) : OpOk Try.prog opsTt11 (wordsTt11 bd od nd c3 k p1 e dk x1 y1) 153 a w 11 := by
  refine OpOk.gen rfl (fun a1 w1 H => ?_)
  have d10 : a1.eval (.tmp 73) = .bool false := H.dep 10 73 rfl (by kernel_rfl)
  refine gd_none ?_
  exact OpW.move d10 rfl
set_option maxRecDepth 10000 in
theorem okTt11_12 {bd od nd c3 k p1 : Nat} {e dk x1 y1 : Int} {a : Act} {w : World} (t12 : a.eval (.tmp 12) = .slice (some ⟨bd, od, none⟩) nd c3) (t17 : a.eval (.tmp 17) = .int .i64 k) (t18 : a.eval (.tmp 18) = .pointer (some ⟨p1, 0, none⟩)) (t19 : a.eval (.tmp 19) = .int .i64 e) (md : w.cell? ⟨bd, od + k, none⟩ = some (.int .i64 dk)) (m0 : w.cell? ⟨p1, 0, none⟩ = some (.int .i64 x1)) (m1 : w.cell? ⟨p1, 1, none⟩ = some (.int .i64 y1)) (he : e = 0) (hk : k < nd) (h1 : x1 ≤ dk) (h2 : dk ≤ y1) : OpOk Try.prog opsTt11 (wordsTt11 bd od nd c3 k p1 e dk x1 y1) 153 a w 12 := by
  refine OpOk.gen rfl (fun a1 w1 H => ?_)
  have d11 : a1.eval (.tmp 74) = .bool false := H.dep 11 74 rfl (by kernel_rfl)
  have e12 : a1.eval (.tmp 12) = .slice (some ⟨bd, od, none⟩) nd c3 := (H.out 12 (by kernel_rfl)).trans t12
  refine gd_true rfl d11 ?_
  exact OpW.move e12 rfl
set_option maxRecDepth 10000 in
theorem okTt11_13 {bd od nd c3 k p1 : Nat} {e dk x1 y1 : Int} {a : Act} {w : World} (t12 : a.eval (.tmp 12) = .slice (some ⟨bd, od, none⟩) nd c3) (t17 : a.eval (.tmp 17) = .int .i64 k) (t18 : a.eval (.tmp 18) = .pointer (some ⟨p1, 0, none⟩)) (t19 : a.eval (.tmp 19) = .int .i64 e) (md : w.cell? ⟨bd, od + k, none⟩ = some (.int .i64 dk)) (m0 : w.cell? ⟨p1, 0, none⟩ = some (.int .i64 x1)) (m1 : w.cell? ⟨p1, 1, none⟩ = some (.int .i64 y1)) (he : e = 0) (hk : k < nd) (h1 : x1 ≤ dk) (h2 : dk ≤ y1) : OpOk Try.prog opsTt11 (wordsTt11 bd od nd c3 k p1 e dk x1 y1) 153 a w 13 := by
  refine OpOk.gen rfl (fun a1 w1 H => ?_)
  have d11 : a1.eval (.tmp 74) = .bool false := H.dep 11 74 rfl (by kernel_rfl)
  have e17 : a1.eval (.tmp 17) = .int .i64 k := (H.out 17 (by kernel_rfl)).trans t17
  refine gd_true rfl d11 ?_
  exact OpW.move e17 rfl
set_option maxRecDepth 10000 in
theorem okTt11_14 {bd od nd c3 k p1 : Nat} {e dk x1 y1 : Int} {a : Act} {w : World} (t12 : a.eval (.tmp 12) = .slice (some ⟨bd, od, none⟩) nd c3) (t17 : a.eval (.tmp 17) = .int .i64 k) (t18 : a.eval (.tmp 18) = .pointer (some ⟨p1, 0, none⟩)) (t19 : a.eval (.tmp 19) = .int .i64 e) (md : w.cell? ⟨bd, od + k, none⟩ = some (.int .i64 dk)) (m0 : w.cell? ⟨p1, 0, none⟩ = some (.int .i64 x1)) (m1 : w.cell? ⟨p1, 1, none⟩ = some (.int .i64 y1)) (he : e = 0) (hk : k < nd) (h1 : x1 ≤ dk) (h2 : dk ≤ y1) : OpOk Try.prog opsTt11 (wordsTt11 bd od nd c3 k p1 e dk x1 y1) 153 a w 14 := by
  refine OpOk.gen rfl (fun a1 w1 H => ?_)
  have d11 : a1.eval (.tmp 74) = .bool false := H.dep 11 74 rfl (by kernel_rfl)
  have d12 : a1.eval (.tmp 75) = .slice (some ⟨bd, od, none⟩) nd c3 := H.dep 12 75 rfl (by kernel_rfl)
  have d13 : a1.eval (.tmp 76) = .int .i64 k := H.dep 13 76 rfl (by kernel_rfl)
  refine gd_true rfl d11 ?_
  exact OpW.index d12 d13 (ix25o hk _) rfl
set_option maxRecDepth 10000 in
theorem okTt11_15 {bd od nd c3 k p1 : Nat} {e dk x1 y1 : Int} {a : Act} {w : World} (t12 : a.eval (.tmp 12) = .slice (some ⟨bd, od, none⟩) nd c3) (t17 : a.eval (.tmp 17) = .int .i64 k) (t18 : a.eval (.tmp 18) = .pointer (some ⟨p1, 0, none⟩)) (t19 : a.eval (.tmp 19) = .int .i64 e) (md : w.cell? ⟨bd, od + k, none⟩ = some (.int .i64 dk)) (m0 : w.cell? ⟨p1, 0, none⟩ = some (.int .i64 x1)) (m1 : w.cell? ⟨p1, 1, none⟩ = some (.int .i64 y1)) (he : e = 0) (hk : k < nd) (h1 : x1 ≤ dk) (h2 : dk ≤ y1) : OpOk Try.prog opsTt11 (wordsTt11 bd od nd c3 k p1 e dk x1 y1) 153 a w 15 := by
  refine OpOk.gen rfl (fun a1 w1 H => ?_)
  have d11 : a1.eval (.tmp 74) = .bool false := H.dep 11 74 rfl (by kernel_rfl)
  have d14 : a1.eval (.tmp 77) = .pointer (some ⟨bd, od + k, none⟩) := H.dep 14 77 rfl (by kernel_rfl)
  refine gd_true rfl d11 ?_
  exact OpW.load d14 (ld3 (H.cell md)) rfl
set_option maxRecDepth 10000 in
theorem okTt11_16 {bd od nd c3 k p1 : Nat} {e dk x1 y1 : Int} {a : Act} {w : World} (t12 : a.eval (.tmp 12) = .slice (some ⟨bd, od, none⟩) nd c3) (t17 : a.eval (.tmp 17) = .int .i64 k) (t18 : a.eval (.tmp 18) = .pointer (some ⟨p1, 0, none⟩)) (t19 : a.eval (.tmp 19) = .int .i64 e) (md : w.cell? ⟨bd, od + k, none⟩ = some (.int .i64 dk)) (m0 : w.cell? ⟨p1, 0, none⟩ = some (.int .i64 x1)) (m1 : w.cell? ⟨p1, 1, none⟩ = some (.int .i64 y1)) (he : e = 0) (hk : k < nd) (h1 : x1 ≤ dk) (h2 : dk ≤ y1) : OpOk Try.prog opsTt11 (wordsTt11 bd od nd c3 k p1 e dk x1 y1) 153 a w 16 := by
  refine OpOk.gen rfl (fun a1 w1 H => ?_)
  have d11 : a1.eval (.tmp 74) = .bool false := H.dep 11 74 rfl (by kernel_rfl)
  have e18 : a1.eval (.tmp 18) = .pointer (some ⟨p1, 0, none⟩) := (H.out 18 (by kernel_rfl)).trans t18
  refine gd_true rfl d11 ?_
  exact OpW.field e18 (fa46_1 _) rfl
set_option maxRecDepth 10000 in
theorem okTt11_17 {bd od nd c3 k p1 : Nat} {e dk x1 y1 : Int} {a : Act} {w : World} (t12 : a.eval (.tmp 12) = .slice (some ⟨bd, od, none⟩) nd c3) (t17 : a.eval (.tmp 17) = .int .i64 k) (t18 : a.eval (.tmp 18) = .pointer (some ⟨p1, 0, none⟩)) (t19 : a.eval (.tmp 19) = .int .i64 e) (md : w.cell? ⟨bd, od + k, none⟩ = some (.int .i64 dk)) (m0 : w.cell? ⟨p1, 0, none⟩ = some (.int .i64 x1)) (m1 : w.cell? ⟨p1, 1, none⟩ = some (.int .i64 y1)) (he : e = 0) (hk : k < nd) (h1 : x1 ≤ dk) (h2 : dk ≤ y1) : OpOk Try.prog opsTt11 (wordsTt11 bd od nd c3 k p1 e dk x1 y1) 153 a w 17 := by
  refine OpOk.gen rfl (fun a1 w1 H => ?_)
  have d11 : a1.eval (.tmp 74) = .bool false := H.dep 11 74 rfl (by kernel_rfl)
  have d16 : a1.eval (.tmp 79) = .pointer (some ⟨p1, 1, none⟩) := H.dep 16 79 rfl (by kernel_rfl)
  refine gd_true rfl d11 ?_
  exact OpW.load d16 (ld3 (H.cell m1)) rfl
set_option maxRecDepth 10000 in
theorem okTt11_18 {bd od nd c3 k p1 : Nat} {e dk x1 y1 : Int} {a : Act} {w : World} (t12 : a.eval (.tmp 12) = .slice (some ⟨bd, od, none⟩) nd c3) (t17 : a.eval (.tmp 17) = .int .i64 k) (t18 : a.eval (.tmp 18) = .pointer (some ⟨p1, 0, none⟩)) (t19 : a.eval (.tmp 19) = .int .i64 e) (md : w.cell? ⟨bd, od + k, none⟩ = some (.int .i64 dk)) (m0 : w.cell? ⟨p1, 0, none⟩ = some (.int .i64 x1)) (m1 : w.cell? ⟨p1, 1, none⟩ = some (.int .i64 y1)) (he : e = 0) (hk : k < nd) (h1 : x1 ≤ dk) (h2 : dk ≤ y1) : OpOk Try.prog opsTt11 (wordsTt11 bd od nd c3 k p1 e dk x1 y1) 153 a w 18 := by
  refine OpOk.gen rfl (fun a1 w1 H => ?_)
  have d11 : a1.eval (.tmp 74) = .bool false := H.dep 11 74 rfl (by kernel_rfl)
  have d15 : a1.eval (.tmp 78) = .int .i64 dk := H.dep 15 78 rfl (by kernel_rfl)
  have d17 : a1.eval (.tmp 80) = .int .i64 y1 := H.dep 17 80 rfl (by kernel_rfl)
  refine gd_true rfl d11 ?_
  exact OpW.bin d15 d17 (gtrFx (by omega) _) rfl
set_option maxRecDepth 10000 in
theorem okTt11_19 {bd od nd c3 k p1 : Nat} {e dk x1 y1 : Int} {a : Act} {w : World} (t12 : a.eval (.tmp 12) = .slice (some ⟨bd, od, none⟩) nd c3) (t17 : a.eval (.tmp 17) = .int .i64 k) (t18 : a.eval (.tmp 18) = .pointer (some ⟨p1, 0, none⟩)) (t19 : a.eval (.tmp 19) = .int .i64 e) (md : w.cell? ⟨bd, od + k, none⟩ = some (.int .i64 dk)) (m0 : w.cell? ⟨p1, 0, none⟩ = some (.int .i64 x1)) (m1 : w.cell? ⟨p1, 1, none⟩ = some (.int .i64 y1)) (he : e = 0) (hk : k < nd) (h1 : x1 ≤ dk) (h2 : dk ≤ y1) : OpOk Try.prog opsTt11 (wordsTt11 bd od nd c3 k p1 e dk x1 y1) 153 a w 19 := by
  refine OpOk.gen rfl (fun a1 w1 H => ?_)
  have d11 : a1.eval (.tmp 74) = .bool false := H.dep 11 74 rfl (by kernel_rfl)
  have d18 : a1.eval (.tmp 81) = .bool false := H.dep 18 81 rfl (by kernel_rfl)
  refine gd_none ?_
  exact OpW.pick (b := false) d11 d18
set_option maxRecDepth 10000 in
theorem regionTt11 {F : Fence} {n : Nat} (hF : WideF F Try.prog) {Q : Exit → Act → World → Prop} {bd od nd c3 k p1 : Nat} {e dk x1 y1 : Int} {a : Act} {w : World} (hsz : a.tmps.size = 153)
    (t12 : a.eval (.tmp 12) = .slice (some ⟨bd, od, none⟩) nd c3) (t17 : a.eval (.tmp 17) = .int .i64 k) (t18 : a.eval (.tmp 18) = .pointer (some ⟨p1, 0, none⟩)) (t19 : a.eval (.tmp 19) = .int .i64 e) (md : w.cell? ⟨bd, od + k, none⟩ = some (.int .i64 dk)) (m0 : w.cell? ⟨p1, 0, none⟩ = some (.int .i64 x1)) (m1 : w.cell? ⟨p1, 1, none⟩ = some (.int .i64 y1)) (he : e = 0) (hk : k < nd) (h1 : x1 ≤ dk) (h2 : dk ≤ y1)
    (hK : ∀ (a' : Act) (w' : World), a'.tmps.size = 153 → a'.defers = a.defers → Below w.heap.size w w' → (∀ e, ndstB opsTt11 e = true → a'.eval (.tmp e) = a.eval (.tmp e)) → (∀ (j d : Nat), (opsTt11[j]?).bind (·.dst) = some d → (wordsTt11 bd od nd c3 k p1 e dk x1 y1).at_ j (a'.eval (.tmp d)) w') → Q .normal a' w') :
    (Code.region 11 opsTt11 true).wpIn F n Try.prog Q a w := by
  refine region_S (wordsTt11 bd od nd c3 k p1 e dk x1 y1) 153 hF (by kernel_rfl) Try.mixed (by kernel_rfl) (by kernel_rfl) ?_ hsz 20 (by kernel_rfl) ?_ hK
  · exact ⟨(fun _ _ _ h _ => h), (fun _ _ _ h _ => h), (fun _ _ _ h _ => h), (fun _ _ _ h _ => h), (fun _ _ _ h _ => h), (fun _ _ _ h _ => h), (fun _ _ _ h _ => h), (fun _ _ _ h _ => h), (fun _ _ _ h _ => h), (fun _ _ _ h _ => h), (fun _ _ _ h _ => h), (fun _ _ _ h _ => h), (fun _ _ _ h _ => h), (fun _ _ _ h _ => h), (fun _ _ _ h _ => h), (fun _ _ _ h _ => h), (fun _ _ _ h _ => h), (fun _ _ _ h _ => h), (fun _ _ _ h _ => h), (fun _ _ _ h _ => h), trivial⟩
  · exact ⟨⟨⟨⟨⟨⟨⟨⟨⟨⟨⟨⟨⟨⟨⟨⟨⟨⟨⟨⟨trivial, okTt11_0 t12 t17 t18 t19 md m0 m1 he hk h1 h2⟩, okTt11_1 t12 t17 t18 t19 md m0 m1 he hk h1 h2⟩, okTt11_2 t12 t17 t18 t19 md m0 m1 he hk h1 h2⟩, okTt11_3 t12 t17 t18 t19 md m0 m1 he hk h1 h2⟩, okTt11_4 t12 t17 t18 t19 md m0 m1 he hk h1 h2⟩, okTt11_5 t12 t17 t18 t19 md m0 m1 he hk h1 h2⟩, okTt11_6 t12 t17 t18 t19 md m0 m1 he hk h1 h2⟩, okTt11_7 t12 t17 t18 t19 md m0 m1 he hk h1 h2⟩, okTt11_8 t12 t17 t18 t19 md m0 m1 he hk h1 h2⟩, okTt11_9 t12 t17 t18 t19 md m0 m1 he hk h1 h2⟩, okTt11_10 t12 t17 t18 t19 md m0 m1 he hk h1 h2⟩, okTt11_11 t12 t17 t18 t19 md m0 m1 he hk h1 h2⟩, okTt11_12 t12 t17 t18 t19 md m0 m1 he hk h1 h2⟩, okTt11_13 t12 t17 t18 t19 md m0 m1 he hk h1 h2⟩, okTt11_14 t12 t17 t18 t19 md m0 m1 he hk h1 h2⟩, okTt11_15 t12 t17 t18 t19 md m0 m1 he hk h1 h2⟩, okTt11_16 t12 t17 t18 t19 md m0 m1 he hk h1 h2⟩, okTt11_17 t12 t17 t18 t19 md m0 m1 he hk h1 h2⟩, okTt11_18 t12 t17 t18 t19 md m0 m1 he hk h1 h2⟩, okTt11_19 t12 t17 t18 t19 md m0 m1 he hk h1 h2⟩
noncomputable def opsTt18 : Array Oper := (Try.f8.body.bind (regionOf 18)).getD #[]
def wordsTt18 (p1 nC cC nS cS k : Nat) (AC AS : Option Addr) (e has x1 y1 : Int) (g1 g2 bC bS : Bool) : Words := [fun v _ => v = .int .i64 e, fun v _ => v = .bool false, fun v _ => v = .bool false, fun v _ => v = .int .i64 has, fun v _ => v = .pointer (some ⟨p1, 0, none⟩), fun v _ => v = .int .i64 x1, fun v _ => v = .bool false, fun v _ => v = .bool false, fun v _ => v = .bool false, fun v _ => v = .int .i64 has, fun v _ => v = .pointer (some ⟨p1, 1, none⟩), fun v _ => v = .int .i64 y1, fun v _ => v = .bool false, fun v _ => v = .bool false, fun v _ => v = .bool false, fun v _ => v = .int .i64 has, fun v _ => v = .bool g1, fun v _ => v = .bool g1, fun v _ => g1 = true → v = .slice AC nC cC, fun v _ => g1 = true → v = .int .i64 k, fun v _ => g1 = true → v = .bool bC, fun v _ => g1 = true → v = .bool (!bC), fun v _ => v = .bool false, fun v _ => v = .bool false, fun v _ => v = .bool false, fun v _ => v = .int .i64 has, fun v _ => v = .bool g2, fun v _ => v = .bool g2, fun v _ => g2 = true → v = .slice AS nS cS, fun v _ => g2 = true → v = .int .i64 k, fun v _ => g2 = true → v = .bool bS, fun v _ => v = .bool false, fun v _ => v = .bool false, fun v _ => v = .bool false, fun v _ => v = .slice AC nC cC, fun v _ => v = .int .i64 k, fun v _ => v = .bool bC, fun v _ => v = .pointer (some ⟨p1, 1, none⟩), fun v _ => v = .int .i64 y1, fun v _ => v = .bool bC, fun v _ => v = .bool false, fun v _ => v = .bool false, fun v _ => v = .bool false, fun v _ => v = .slice AS nS cS, fun v _ => v = .int .i64 k, fun v _ => v = .bool bS, fun v _ => v = .pointer (some ⟨p1, 0, none⟩), fun v _ => v = .int .i64 x1, fun v _ => v = .bool bS, fun v _ => v = .bool false, fun v _ => v = .bool false]
set_option maxRecDepth 10000 in
theorem okTt18_0 {p1 nC cC nS cS k : Nat} {AC AS : Option Addr} {e has x1 y1 : Int} {g1 g2 bC bS : Bool} {a : Act} {w : World} (t14 : a.eval (.tmp 14) = .slice AC nC cC) (t15 : a.eval (.tmp 15) = .slice AS nS cS) (t20 : a.eval (.tmp 20) = .int .i64 k) (t21 : a.eval (.tmp 21) = .pointer (some ⟨p1, 0, none⟩)) (t22 : a.eval (.tmp 22) = .int .i64 e) (t23 : a.eval (.tmp 23) = .int .i64 has) (m0 : w.cell? ⟨p1, 0, none⟩ = some (.int .i64 x1)) (m1 : w.cell? ⟨p1, 1, none⟩ = some (.int .i64 y1)) (he : e = 0) (h1 : x1 ≤ has) (h2 : has ≤ y1) (hg1 : decide (0 < has) = g1) (hg2 : decide (has = 0) = g2) (hbC : decide (0 < y1) = bC) (hbS : decide (0 < x1) = bS) (hi1 : g1 = true → bC = true) (hi2 : g2 = true → bS = false) (hvC : CV w 40 #[.slice AC nC cC, .int .i64 k] (.bool bC)) (hvS : CV w 40 #[.slice AS nS cS, .int .i64 k] (.bool bS)) : OpOk Try.prog opsTt18 (wordsTt18 p1 nC cC nS cS k AC AS e has x1 y1 g1 g2 bC bS) 153 a w 0 := by
  refine OpOk.gen rfl (fun a1 w1 H => ?_)
  have e22 : a1.eval (.tmp 22) = .int .i64 e := (H.out 22 (by kernel_rfl)).trans t22
  refine gd_none ?_
  exact OpW.move e22 rfl
set_option maxRecDepth 10000 in
theorem okTt18_1 {p1 nC cC nS cS k : Nat} {AC AS : Option Addr} {e has x1 y1 : Int} {g1 g2 bC bS : Bool} {a : Act} {w : World} (t14 : a.eval (.tmp 14) = .slice AC nC cC) (t15 : a.eval (.tmp 15) = .slice AS nS cS) (t20 : a.eval (.tmp 20) = .int .i64 k) (t21 : a.eval (.tmp 21) = .pointer (some ⟨p1, 0, none⟩)) (t22 : a.eval (.tmp 22) = .int .i64 e) (t23 : a.eval (.tmp 23) = .int .i64 has) (m0 : w.cell? ⟨p1, 0, none⟩ = some (.int .i64 x1)) (m1 : w.cell? ⟨p1, 1, none⟩ = some (.int .i64 y1)) (he : e = 0) (h1 : x1 ≤ has) (h2 : has ≤ y1) (hg1 : decide (0 < has) = g1) (hg2 : decide (has = 0) = g2) (hbC : decide (0 < y1) = bC) (hbS : decide (0 < x1) = bS) (hi1 : g1 = true → bC = true) (hi2 : g2 = true → bS = false) (hvC : CV w 40 #[.slice AC nC cC, .int .i64 k] (.bool bC)) (hvS : CV w 40 #[.slice AS nS cS, .int .i64 k] (.bool bS)) : OpOk Try.prog opsTt18 (wordsTt18 p1 nC cC nS cS k AC AS e has x1 y1 g1 g2 bC bS) 153 a w 1 := by
  refine OpOk.gen rfl (fun a1 w1 H => ?_)
  have d0 : a1.eval (.tmp 101) = .int .i64 e := H.dep 0 101 rfl (by kernel_rfl)
  refine gd_none ?_
  exact OpW.bin d0 rfl (nqF he _) rfl
set_option maxRecDepth 10000 in
theorem okTt18_2 {p1 nC cC nS cS k : Nat} {AC AS : Option Addr} {e has x1 y1 : Int} {g1 g2 bC bS : Bool} {a : Act} {w : World} (t14 : a.eval (.tmp 14) = .slice AC nC cC) (t15 : a.eval (.tmp 15) = .slice AS nS cS) (t20 : a.eval (.tmp 20) = .int .i64 k) (t21 : a.eval (.tmp 21) = .pointer (some ⟨p1, 0, none⟩)) (t22 : a.eval (.tmp 22) = .int .i64 e) (t23 : a.eval (.tmp 23) = .int .i64 has) (m0 : w.cell? ⟨p1, 0, none⟩ = some (.int .i64 x1)) (m1 : w.cell? ⟨p1, 1, none⟩ = some (.int .i64 y1)) (he : e = 0) (h1 : x1 ≤ has) (h2 : has ≤ y1) (hg1 : decide (0 < has) = g1) (hg2 : decide (has = 0) = g2) (hbC : decide (0 < y1) = bC) (hbS : decide (0 < x1) = bS) (hi1 : g1 = true → bC = true) (hi2 : g2 = true → bS = false) (hvC : CV w 40 #[.slice AC nC cC, .int .i64 k] (.bool bC)) (hvS : CV w 40 #[.slice AS nS cS, .int .i64 k] (.bool bS)) : OpOk Try.prog opsTt18 (wordsTt18 p1 nC cC nS cS k AC AS e has x1 y1 g1 g2 bC bS) 153 a w 2 := by
  refine OpOk.gen rfl (fun a1 w1 H => ?_)
  have d1 : a1.eval (.tmp 102) = .bool false := H.dep 1 102 rfl (by kernel_rfl)
  refine gd_none ?_
  exact OpW.move d1 rfl
set_option maxRecDepth 10000 in
theorem okTt18_3 {p1 nC cC nS cS k : Nat} {AC AS : Option Addr} {e has x1 y1 : Int} {g1 g2 bC bS : Bool} {a : Act} {w : World} (t14 : a.eval (.tmp 14) = .slice AC nC cC) (t15 : a.eval (.tmp 15) = .slice AS nS cS) (t20 : a.eval (.tmp 20) = .int .i64 k) (t21 : a.eval (.tmp 21) = .pointer (some ⟨p1, 0, none⟩)) (t22 : a.eval (.tmp 22) = .int .i64 e) (t23 : a.eval (.tmp 23) = .int .i64 has) (m0 : w.cell? ⟨p1, 0, none⟩ = some (.int .i64 x1)) (m1 : w.cell? ⟨p1, 1, none⟩ = some (.int .i64 y1)) (he : e = 0) (h1 : x1 ≤ has) (h2 : has ≤ y1) (hg1 : decide (0 < has) = g1) (hg2 : decide (has = 0) = g2) (hbC : decide (0 < y1) = bC) (hbS : decide (0 < x1) = bS) (hi1 : g1 = true → bC = true) (hi2 : g2 = true → bS = false) (hvC : CV w 40 #[.slice AC nC cC, .int .i64 k] (.bool bC)) (hvS : CV w 40 #[.slice AS nS cS, .int .i64 k] (.bool bS)) : OpOk Try.prog opsTt18 (wordsTt18 p1 nC cC nS cS k AC AS e has x1 y1 g1 g2 bC bS) 153 a w 3 := by
  refine OpOk.gen rfl (fun a1 w1 H => ?_)
  have d2 : a1.eval (.tmp 103) = .bool false := H.dep 2 103 rfl (by kernel_rfl)
  have e23 : a1.eval (.tmp 23) = .int .i64 has := (H.out 23 (by kernel_rfl)).trans t23
  refine gd_true rfl d2 ?_
  exact OpW.move e23 rfl
set_option maxRecDepth 10000 in
theorem okTt18_4 {p1 nC cC nS cS k : Nat} {AC AS : Option Addr} {e has x1 y1 : Int} {g1 g2 bC bS : Bool} {a : Act} {w : World} (t14 : a.eval (.tmp 14) = .slice AC nC cC) (t15 : a.eval (.tmp 15) = .slice AS nS cS) (t20 : a.eval (.tmp 20) = .int .i64 k) (t21 : a.eval (.tmp 21) = .pointer (some ⟨p1, 0, none⟩)) (t22 : a.eval (.tmp 22) = .int .i64 e) (t23 : a.eval (.tmp 23) = .int .i64 has) (m0 : w.cell? ⟨p1, 0, none⟩ = some (.int .i64 x1)) (m1 : w.cell? ⟨p1, 1, none⟩ = some (.int .i64 y1)) (he : e = 0) (h1 : x1 ≤ has) (h2 : has ≤ y1) (hg1 : decide (0 < has) = g1) (hg2 : decide (has = 0) = g2) (hbC : decide (0 < y1) = bC) (hbS : decide (0 < x1) = bS) (hi1 : g1 = true → bC = true) (hi2 : g2 = true → bS = false) (hvC : CV w 40 #[.slice AC nC cC, .int .i64 k] (.bool bC)) (hvS : CV w 40 #[.slice AS nS cS, .int .i64 k] (.bool bS)) : OpOk Try.prog opsTt18 (wordsTt18 p1 nC cC nS cS k AC AS e has x1 y1 g1 g2 bC bS) 153 a w 4 := by
  refine OpOk.gen rfl (fun a1 w1 H => ?_)
  have d2 : a1.eval (.tmp 103) = .bool false := H.dep 2 103 rfl (by kernel_rfl)
  have e21 : a1.eval (.tmp 21) = .pointer (some ⟨p1, 0, none⟩) := (H.out 21 (by kernel_rfl)).trans t21
  refine gd_true rfl d2 ?_
  exact OpW.field e21 (fa46_0 _) rfl
set_option maxRecDepth 10000 in
theorem okTt18_5 {p1 nC cC nS cS k : Nat} {AC AS : Option Addr} {e has x1 y1 : Int} {g1 g2 bC bS : Bool} {a : Act} {w : World} (t14 : a.eval (.tmp 14) = .slice AC nC cC) (t15 : a.eval (.tmp 15) = .slice AS nS cS) (t20 : a.eval (.tmp 20) = .int .i64 k) (t21 : a.eval (.tmp 21) = .pointer (some ⟨p1, 0, none⟩)) (t22 : a.eval (.tmp 22) = .int .i64 e) (t23 : a.eval (.tmp 23) = .int .i64 has) (m0 : w.cell? ⟨p1, 0, none⟩ = some (.int .i64 x1)) (m1 : w.cell? ⟨p1, 1, none⟩ = some (.int .i64 y1)) (he : e = 0) (h1 : x1 ≤ has) (h2 : has ≤ y1) (hg1 : decide (0 < has) = g1) (hg2 : decide (has = 0) = g2) (hbC : decide (0 < y1) = bC) (hbS : decide (0 < x1) = bS) (hi1 : g1 = true → bC = true) (hi2 : g2 = true → bS = false) (hvC : CV w 40 #[.slice AC nC cC, .int .i64 k] (.bool bC)) (hvS : CV w 40 #[.slice AS nS cS, .int .i64 k] (.bool bS)) : OpOk Try.prog opsTt18 (wordsTt18 p1 nC cC nS cS k AC AS e has x1 y1 g1 g2 bC bS) 153 a w 5 := by
  refine OpOk.gen rfl (fun a1 w1 H => ?_)
  have d2 : a1.eval (.tmp 103) = .bool false := H.dep 2 103 rfl (by kernel_rfl)
  have d4 : a1.eval (.tmp 105) = .pointer (some ⟨p1, 0, none⟩) := H.dep 4 105 rfl (by kernel_rfl)
  refine gd_true rfl d2 ?_
  exact OpW.load d4 (ld3 (H.cell m0)) rfl
set_option maxRecDepth 10000 in
theorem okTt18_6 {p1 nC cC nS cS k : Nat} {AC AS : Option Addr} {e has x1 y1 : Int} {g1 g2 bC bS : Bool} {a : Act} {w : World} (t14 : a.eval (.tmp 14) = .slice AC nC cC) (t15 : a.eval (.tmp 15) = .slice AS nS cS) (t20 : a.eval (.tmp 20) = .int .i64 k) (t21 : a.eval (.tmp 21) = .pointer (some ⟨p1, 0, none⟩)) (t22 : a.eval (.tmp 22) = .int .i64 e) (t23 : a.eval (.tmp 23) = .int .i64 has) (m0 : w.cell? ⟨p1, 0, none⟩ = some (.int .i64 x1)) (m1 : w.cell? ⟨p1, 1, none⟩ = some (.int .i64 y1)) (he : e = 0) (h1 : x1 ≤ has) (h2 : has ≤ y1) (hg1 : decide (0 < has) = g1) (hg2 : decide (has = 0) = g2) (hbC : decide (0 < y1) = bC) (hbS : decide (0 < x1) = bS) (hi1 : g1 = true → bC = true) (hi2 : g2 = true → bS = false) (hvC : CV w 40 #[.slice AC nC cC, .int .i64 k] (.bool bC)) (hvS : CV w 40 #[.slice AS nS cS, .int .i64 k] (.bool bS)) : OpOk Try.prog opsTt18 (wordsTt18 p1 nC cC nS cS k AC AS e has x1 y1 g1 g2 bC bS) 153 a w 6 := by
  refine OpOk.gen rfl (fun a1 w1 H => ?_)
  have d2 : a1.eval (.tmp 103) = .bool false := H.dep 2 103 rfl (by kernel_rfl)
  have d3 : a1.eval (.tmp 104) = .int .i64 has := H.dep 3 104 rfl (by kernel_rfl)
  have d5 : a1.eval (.tmp 106) = .int .i64 x1 := H.dep 5 106 rfl (by kernel_rfl)
  refine gd_true rfl d2 ?_
  exact OpW.bin d3 d5 (lssF (by omega) _) rfl
set_option maxRecDepth 10000 in
theorem okTt18_7 {p1 nC cC nS cS k : Nat} {AC AS : Option Addr} {e has x1 y1 : Int} {g1 g2 bC bS : Bool} {a : Act} {w : World} (t14 : a.eval (.tmp 14) = .slice AC nC cC) (t15 : a.eval (.tmp 15) = .slice AS nS cS) (t20 : a.eval (.tmp 20) = .int .i64 k) (t21 : a.eval (.tmp 21) = .pointer (some ⟨p1, 0, none⟩)) (t22 : a.eval (.tmp 22) = .int .i64 e) (t23 : a.eval (.tmp 23) = .int .i64 has) (m0 : w.cell? ⟨p1, 0, none⟩ = some (.int .i64 x1)) (m1 : w.cell? ⟨p1, 1, none⟩ = some (.int .i64 y1)) (he : e = 0) (h1 : x1 ≤ has) (h2 : has ≤ y1) (hg1 : decide (0 < has) = g1) (hg2 : decide (has = 0) = g2) (hbC : decide (0 < y1) = bC) (hbS : decide (0 < x1) = bS) (hi1 : g1 = true → bC = true) (hi2 : g2 = true → bS = false) (hvC : CV w 40 #[.slice AC nC cC, .int .i64 k] (.bool bC)) (hvS : CV w 40 #[.slice AS nS cS, .int .i64 k] (.bool bS)) : OpOk Try.prog opsTt18 (wordsTt18 p1 nC cC nS cS k AC AS e has x1 y1 g1 g2 bC bS) 153 a w 7 := by
  refine OpOk.gen rfl (fun a1 w1 H => ?_)
  have d2 : a1.eval (.tmp 103) = .bool false := H.dep 2 103 rfl (by kernel_rfl)
  have d6 : a1.eval (.tmp 107) = .bool false := H.dep 6 107 rfl (by kernel_rfl)
  refine gd_none ?_
  exact OpW.pick (b := false) d2 d6
set_option maxRecDepth 10000 in
theorem okTt18_8 {p1 nC cC nS cS k : Nat} {AC AS : Option Addr} {e has x1 y1 : Int} {g1 g2 bC bS : Bool} {a : Act} {w : World} (t14 : a.eval (.tmp 14) = .slice AC nC cC) (t15 : a.eval (.tmp 15) = .slice AS nS cS) (t20 : a.eval (.tmp 20) = .int .i64 k) (t21 : a.eval (.tmp 21) = .pointer (some ⟨p1, 0, none⟩)) (t22 : a.eval (.tmp 22) = .int .i64 e) (t23 : a.eval (.tmp 23) = .int .i64 has) (m0 : w.cell? ⟨p1, 0, none⟩ = some (.int .i64 x1)) (m1 : w.cell? ⟨p1, 1, none⟩ = some (.int .i64 y1)) (he : e = 0) (h1 : x1 ≤ has) (h2 : has ≤ y1) (hg1 : decide (0 < has) = g1) (hg2 : decide (has = 0) = g2) (hbC : decide (0 < y1) = bC) (hbS : decide (0 < x1) = bS) (hi1 : g1 = true → bC = true) (hi2 : g2 = true → bS = false) (hvC : CV w 40 #[.slice AC nC cC, .int .i64 k] (.bool bC)) (hvS : CV w 40 #[.slice AS nS cS, .int .i64 k] (.bool bS)) : OpOk Try.prog opsTt18 (wordsTt18 p1 nC cC nS cS k AC AS e has x1 y1 g1 g2 bC bS) 153 a w 8 := by
  refine OpOk.gen rfl (fun a1 w1 H => ?_)
  have d7 : a1.eval (.tmp 108) = .bool false := H.dep 7 108 rfl (by kernel_rfl)
  refine gd_none ?_
  exact OpW.move d7 rfl
set_option maxRecDepth 10000 in
theorem okTt18_9 {p1 nC cC nS cS k : Nat} {AC AS : Option Addr} {e has x1 y1 : Int} {g1 g2 bC bS : Bool} {a : Act} {w : World} (t14 : a.eval (.tmp 14) = .slice AC nC cC) (t15 : a.eval (.tmp 15) = .slice AS nS cS) (t20 : a.eval (.tmp 20) = .int .i64 k) (t21 : a.eval (.tmp 21) = .pointer (some ⟨p1, 0, none⟩)) (t22 : a.eval (.tmp 22) = .int .i64 e) (t23 : a.eval (.tmp 23) = .int .i64 has) (m0 : w.cell? ⟨p1, 0, none⟩ = some (.int .i64 x1)) (m1 : w.cell? ⟨p1, 1, none⟩ = some (.int .i64 y1)) (he : e = 0) (h1 : x1 ≤ has) (h2 : has ≤ y1) (hg1 : decide (0 < has) = g1) (hg2 : decide (has = 0) = g2) (hbC : decide (0 < y1) = bC) (hbS : decide (0 < x1) = bS) (hi1 : g1 = true → bC = true) (hi2 : g2 = true → bS = false) (hvC : CV w 40 #[.slice AC nC cC, .int .i64 k] (.bool bC)) (hvS : CV w 40 #[.slice AS nS cS, .int .i64 k] (.bool bS)) : OpOk Try.prog opsTt18 (wordsTt18 p1 nC cC nS cS k AC AS e has x1 y1 g1 g2 bC bS) 153 a w 9 := by
  refine OpOk.gen rfl (fun a1 w1 H => ?_)
  have d8 : a1.eval (.tmp 109) = .bool false := H.dep 8 109 rfl (by kernel_rfl)
  have e23 : a1.eval (.tmp 23) = .int .i64 has := (H.out 23 (by kernel_rfl)).trans t23
  refine gd_true rfl d8 ?_
  exact OpW.move e23 rfl
set_option maxRecDepth 10000 in
theorem okTt18_10 {p1 nC cC nS cS k : Nat} {AC AS : Option Addr} {e has x1 y1 : Int} {g1 g2 bC bS : Bool} {a : Act} {w : World} (t14 : a.eval (.tmp 14) = .slice AC nC cC) (t15 : a.eval (.tmp 15) = .slice AS nS cS) (t20 : a.eval (.tmp 20) = .int .i64 k) (t21 : a.eval (.tmp 21) = .pointer (some ⟨p1, 0, none⟩)) (t22 : a.eval (.tmp 22) = .int .i64 e) (t23 : a.eval (.tmp 23) = .int .i64 has) (m0 : w.cell? ⟨p1, 0, none⟩ = some (.int .i64 x1)) (m1 : w.cell? ⟨p1, 1, none⟩ = some (.int .i64 y1)) (he : e = 0) (h1 : x1 ≤ has) (h2 : has ≤ y1) (hg1 : decide (0 < has) = g1) (hg2 : decide (has = 0) = g2) (hbC : decide (0 < y1) = bC) (hbS : decide (0 < x1) = bS) (hi1 : g1 = true → bC = true) (hi2 : g2 = true → bS = false) (hvC : CV w 40 #[.slice AC nC cC, .int .i64 k] (.bool bC)) (hvS : CV w 40 #[.slice AS nS cS, .int .i64 k] (.bool bS)) : OpOk Try.prog opsTt18 (wordsTt18 p1 nC cC nS cS k AC AS e has x1 y1 g1 g2 bC bS) 153 a w 10 := by
  refine OpOk.gen rfl (fun a1 w1 H => ?_)
  have d8 : a1.eval (.tmp 109) = .bool false := H.dep 8 109 rfl (by kernel_rfl)
  have e21 : a1.eval (.tmp 21) = .pointer (some ⟨p1, 0, none⟩) := (H.out 21 (by kernel_rfl)).trans t21
  refine gd_true rfl d8 ?_
  exact OpW.field e21 (fa46_1 _) rfl
set_option maxRecDepth 10000 in
theorem okTt18_11 {p1 nC cC nS cS k : Nat} {AC AS : Option Addr} {e has x1 y1 : Int} {g1 g2 bC bS : Bool} {a : Act} {w : World} (t14 : a.eval (.tmp 14) = .slice AC nC cC) (t15 : a.eval (.tmp 15) = .slice AS nS cS) (t20 : a.eval (.tmp 20) = .int .i64 k) (t21 : a.eval (.tmp 21) = .pointer (some ⟨p1, 0, none⟩)) (t22 : a.eval (.tmp 22) = .int .i64 e) (t23 : a.eval (.tmp 23) = .int .i64 has) (m0 : w.cell? ⟨p1, 0, none⟩ = some (.int .i64 x1)) (m1 : w.cell? ⟨p1, 1, none⟩ = some (.int .i64 y1)) (he : e = 0) (h1 : x1 ≤ has) (h2 : has ≤ y1) (hg1 : decide (0 < has) = g1) (hg2 : decide (has = 0) = g2) (hbC : decide (0 < y1) = bC) (hbS : decide (0 < x1) = bS) (hi1 : g1 = true → bC = true) (hi2 : g2 = true → bS = false) (hvC : CV w 40 #[.slice AC nC cC, .int .i64 k] (.bool bC)) (hvS : CV w 40 #[.slice AS nS cS, .int .i64 k] (.bool bS)) : OpOk Try.prog opsTt18 (wordsTt18 p1 nC cC nS cS k AC AS e has x1 y1 g1 g2 bC bS) 153 a w 11 := by
  refine OpOk.gen rfl (fun a1 w1 H => ?_)
  have d8 : a1.eval (.tmp 109) = .bool false := H.dep 8 109 rfl (by kernel_rfl)
  have d10 : a1.eval (.tmp 111) = .pointer (some ⟨p1, 1, none⟩) := H.dep 10 111 rfl (by kernel_rfl)
  refine gd_true rfl d8 ?_
  exact OpW.load d10 (ld3 (H.cell m1)) rfl
set_option maxRecDepth 10000 in
theorem okTt18_12 {p1 nC cC nS cS k : Nat} {AC AS : Option Addr} {e has x1 y1 : Int} {g1 g2 bC bS : Bool} {a : Act} {w : World} (t14 : a.eval (.tmp 14) = .slice AC nC cC) (t15 : a.eval (.tmp 15) = .slice AS nS cS) (t20 : a.eval (.tmp 20) = .int .i64 k) (t21 : a.eval (.tmp 21) = .pointer (some ⟨p1, 0, none⟩)) (t22 : a.eval (.tmp 22) = .int .i64 e) (t23 : a.eval (.tmp 23) = .int .i64 has) (m0 : w.cell? ⟨p1, 0, none⟩ = some (.int .i64 x1)) (m1 : w.cell? ⟨p1, 1, none⟩ = some (.int .i64 y1)) (he : e = 0) (h1 : x1 ≤ has) (h2 : has ≤ y1) (hg1 : decide (0 < has) = g1) (hg2 : decide (has = 0) = g2) (hbC : decide (0 < y1) = bC) (hbS : decide (0 < x1) = bS) (hi1 : g1 = true → bC = true) (hi2 : g2 = true → bS = false) (hvC : CV w 40 #[.slice AC nC cC, .int .i64 k] (.bool bC)) (hvS : CV w 40 #[.slice AS nS cS, .int .i64 k] (.bool bS)) : OpOk Try.prog opsTt18 (wordsTt18 p1 nC cC nS cS k AC AS e has x1 y1 g1 g2 bC bS) 153 a w 12 := by
  refine OpOk.gen rfl (fun a1 w1 H => ?_)
  have d8 : a1.eval (.tmp 109) = .bool false := H.dep 8 109 rfl (by kernel_rfl)
  have d9 : a1.eval (.tmp 110) = .int .i64 has := H.dep 9 110 rfl (by kernel_rfl)
  have d11 : a1.eval (.tmp 112) = .int .i64 y1 := H.dep 11 112 rfl (by kernel_rfl)
  refine gd_true rfl d8 ?_
  exact OpW.bin d9 d11 (gtrFx (by omega) _) rfl
set_option maxRecDepth 10000 in
theorem okTt18_13 {p1 nC cC nS cS k : Nat} {AC AS : Option Addr} {e has x1 y1 : Int} {g1 g2 bC bS : Bool} {a : Act} {w : World} (t14 : a.eval (.tmp 14) = .slice AC nC cC) (t15 : a.eval (.tmp 15) = .slice AS nS cS) (t20 : a.eval (.tmp 20) = .int .i64 k) (t21 : a.eval (.tmp 21) = .pointer (some ⟨p1, 0, none⟩)) (t22 : a.eval (.tmp 22) = .int .i64 e) (t23 : a.eval (.tmp 23) = .int .i64 has) (m0 : w.cell? ⟨p1, 0, none⟩ = some (.int .i64 x1)) (m1 : w.cell? ⟨p1, 1, none⟩ = some (.int .i64 y1)) (he : e = 0) (h1 : x1 ≤ has) (h2 : has ≤ y1) (hg1 : decide (0 < has) = g1) (hg2 : decide (has = 0) = g2) (hbC : decide (0 < y1) = bC) (hbS : decide (0 < x1) = bS) (hi1 : g1 = true → bC = true) (hi2 : g2 = true → bS = false) (hvC : CV w 40 #[.slice AC nC cC, .int .i64 k] (.bool bC)) (hvS : CV w 40 #[.slice AS nS cS, .int .i64 k] (.bool bS)) : OpOk Try.prog opsTt18 (wordsTt18 p1 nC cC nS cS k AC AS e has x1 y1 g1 g2 bC bS) 153 a w 13 := by
  refine OpOk.gen rfl (fun a1 w1 H => ?_)
  have d8 : a1.eval (.tmp 109) = .bool false := H.dep 8 109 rfl (by kernel_rfl)
  have d12 : a1.eval (.tmp 113) = .bool false := H.dep 12 113 rfl (by kernel_rfl)
  refine gd_none ?_
  exact OpW.pick (b := false) d8 d12
set_option maxRecDepth 10000 in
theorem okTt18_14 {p1 nC cC nS cS k : Nat} {AC AS : Option Addr} {e has x1 y1 : Int} {g1 g2 bC bS : Bool} {a : Act} {w : World} (t14 : a.eval (.tmp 14) = .slice AC nC cC) (t15 : a.eval (.tmp 15) = .slice AS nS cS) (t20 : a.eval (.tmp 20) = .int .i64 k) (t21 : a.eval (.tmp 21) = .pointer (some ⟨p1, 0, none⟩)) (t22 : a.eval (.tmp 22) = .int .i64 e) (t23 : a.eval (.tmp 23) = .int .i64 has) (m0 : w.cell? ⟨p1, 0, none⟩ = some (.int .i64 x1)) (m1 : w.cell? ⟨p1, 1, none⟩ = some (.int .i64 y1)) (he : e = 0) (h1 : x1 ≤ has) (h2 : has ≤ y1) (hg1 : decide (0 < has) = g1) (hg2 : decide (has = 0) = g2) (hbC : decide (0 < y1) = bC) (hbS : decide (0 < x1) = bS) (hi1 : g1 = true → bC = true) (hi2 : g2 = true → bS = false) (hvC : CV w 40 #[.slice AC nC cC, .int .i64 k] (.bool bC)) (hvS : CV w 40 #[.slice AS nS cS, .int .i64 k] (.bool bS)) : OpOk Try.prog opsTt18 (wordsTt18 p1 nC cC nS cS k AC AS e has x1 y1 g1 g2 bC bS) 153 a w 14 := by
  refine OpOk.gen rfl (fun a1 w1 H => ?_)
  have d13 : a1.eval (.tmp 114) = .bool false := H.dep 13 114 rfl (by kernel_rfl)
  refine gd_none ?_
  exact OpW.move d13 rfl
set_option maxRecDepth 10000 in
theorem okTt18_15 {p1 nC cC nS cS k : Nat} {AC AS : Option Addr} {e has x1 y1 : Int} {g1 g2 bC bS : Bool} {a : Act} {w : World} (t14 : a.eval (.tmp 14) = .slice AC nC cC) (t15 : a.eval (.tmp 15) = .slice AS nS cS) (t20 : a.eval (.tmp 20) = .int .i64 k) (t21 : a.eval (.tmp 21) = .pointer (some ⟨p1, 0, none⟩)) (t22 : a.eval (.tmp 22) = .int .i64 e) (t23 : a.eval (.tmp 23) = .int .i64 has) (m0 : w.cell? ⟨p1, 0, none⟩ = some (.int .i64 x1)) (m1 : w.cell? ⟨p1, 1, none⟩ = some (.int .i64 y1)) (he : e = 0) (h1 : x1 ≤ has) (h2 : has ≤ y1) (hg1 : decide (0 < has) = g1) (hg2 : decide (has = 0) = g2) (hbC : decide (0 < y1) = bC) (hbS : decide (0 < x1) = bS) (hi1 : g1 = true → bC = true) (hi2 : g2 = true → bS = false) (hvC : CV w 40 #[.slice AC nC cC, .int .i64 k] (.bool bC)) (hvS : CV w 40 #[.slice AS nS cS, .int .i64 k] (.bool bS)) : OpOk Try.prog opsTt18 (wordsTt18 p1 nC cC nS cS k AC AS e has x1 y1 g1 g2 bC bS) 153 a w 15 := by
  refine OpOk.gen rfl (fun a1 w1 H => ?_)
  have d14 : a1.eval (.tmp 115) = .bool false := H.dep 14 115 rfl (by kernel_rfl)
  have e23 : a1.eval (.tmp 23) = .int .i64 has := (H.out 23 (by kernel_rfl)).trans t23
  refine gd_true rfl d14 ?_
  exact OpW.move e23 rfl
set_option maxRecDepth 10000 in
theorem okTt18_16 {p1 nC cC nS cS k : Nat} {AC AS : Option Addr} {e has x1 y1 : Int} {g1 g2 bC bS : Bool} {a : Act} {w : World} (t14 : a.eval (.tmp 14) = .slice AC nC cC) (t15 : a.eval (.tmp 15) = .slice AS nS cS) (t20 : a.eval (.tmp 20) = .int .i64 k) (t21 : a.eval (.tmp 21) = .pointer (some ⟨p1, 0, none⟩)) (t22 : a.eval (.tmp 22) = .int .i64 e) (t23 : a.eval (.tmp 23) = .int .i64 has) (m0 : w.cell? ⟨p1, 0, none⟩ = some (.int .i64 x1)) (m1 : w.cell? ⟨p1, 1, none⟩ = some (.int .i64 y1)) (he : e = 0) (h1 : x1 ≤ has) (h2 : has ≤ y1) (hg1 : decide (0 < has) = g1) (hg2 : decide (has = 0) = g2) (hbC : decide (0 < y1) = bC) (hbS : decide (0 < x1) = bS) (hi1 : g1 = true → bC = true) (hi2 : g2 = true → bS = false) (hvC : CV w 40 #[.slice AC nC cC, .int .i64 k] (.bool bC)) (hvS : CV w 40 #[.slice AS nS cS, .int .i64 k] (.bool bS)) : OpOk Try.prog opsTt18 (wordsTt18 p1 nC cC nS cS k AC AS e has x1 y1 g1 g2 bC bS) 153 a w 16 := by
  refine OpOk.gen rfl (fun a1 w1 H => ?_)
  have d14 : a1.eval (.tmp 115) = .bool false := H.dep 14 115 rfl (by kernel_rfl)
  have d15 : a1.eval (.tmp 116) = .int .i64 has := H.dep 15 116 rfl (by kernel_rfl)
  refine gd_true rfl d14 ?_
  exact OpW.bin d15 rfl (gtrB hg1 _) rfl
set_option maxRecDepth 10000 in
theorem okTt18_17 {p1 nC cC nS cS k : Nat} {AC AS : Option Addr} {e has x1 y1 : Int} {g1 g2 bC bS : Bool} {a : Act} {w : World} (t14 : a.eval (.tmp 14) = .slice AC nC cC) (t15 : a.eval (.tmp 15) = .slice AS nS cS) (t20 : a.eval (.tmp 20) = .int .i64 k) (t21 : a.eval (.tmp 21) = .pointer (some ⟨p1, 0, none⟩)) (t22 : a.eval (.tmp 22) = .int .i64 e) (t23 : a.eval (.tmp 23) = .int .i64 has) (m0 : w.cell? ⟨p1, 0, none⟩ = some (.int .i64 x1)) (m1 : w.cell? ⟨p1, 1, none⟩ = some (.int .i64 y1)) (he : e = 0) (h1 : x1 ≤ has) (h2 : has ≤ y1) (hg1 : decide (0 < has) = g1) (hg2 : decide (has = 0) = g2) (hbC : decide (0 < y1) = bC) (hbS : decide (0 < x1) = bS) (hi1 : g1 = true → bC = true) (hi2 : g2 = true → bS = false) (hvC : CV w 40 #[.slice AC nC cC, .int .i64 k] (.bool bC)) (hvS : CV w 40 #[.slice AS nS cS, .int .i64 k] (.bool bS)) : OpOk Try.prog opsTt18 (wordsTt18 p1 nC cC nS cS k AC AS e has x1 y1 g1 g2 bC bS) 153 a w 17 := by
  refine OpOk.gen rfl (fun a1 w1 H => ?_)
  have d14 : a1.eval (.tmp 115) = .bool false := H.dep 14 115 rfl (by kernel_rfl)
  have d16 : a1.eval (.tmp 117) = .bool g1 := H.dep 16 117 rfl (by kernel_rfl)
  refine gd_true rfl d14 ?_
  exact OpW.move d16 rfl
set_option maxRecDepth 10000 in
theorem okTt18_18 {p1 nC cC nS cS k : Nat} {AC AS : Option Addr} {e has x1 y1 : Int} {g1 g2 bC bS : Bool} {a : Act} {w : World} (t14 : a.eval (.tmp 14) = .slice AC nC cC) (t15 : a.eval (.tmp 15) = .slice AS nS cS) (t20 : a.eval (.tmp 20) = .int .i64 k) (t21 : a.eval (.tmp 21) = .pointer (some ⟨p1, 0, none⟩)) (t22 : a.eval (.tmp 22) = .int .i64 e) (t23 : a.eval (.tmp 23) = .int .i64 has) (m0 : w.cell? ⟨p1, 0, none⟩ = some (.int .i64 x1)) (m1 : w.cell? ⟨p1, 1, none⟩ = some (.int .i64 y1)) (he : e = 0) (h1 : x1 ≤ has) (h2 : has ≤ y1) (hg1 : decide (0 < has) = g1) (hg2 : decide (has = 0) = g2) (hbC : decide (0 < y1) = bC) (hbS : decide (0 < x1) = bS) (hi1 : g1 = true → bC = true) (hi2 : g2 = true → bS = false) (hvC : CV w 40 #[.slice AC nC cC, .int .i64 k] (.bool bC)) (hvS : CV w 40 #[.slice AS nS cS, .int .i64 k] (.bool bS)) : OpOk Try.prog opsTt18 (wordsTt18 p1 nC cC nS cS k AC AS e has x1 y1 g1 g2 bC bS) 153 a w 18 := by
  refine OpOk.gen rfl (fun a1 w1 H => ?_)
  have d17 : a1.eval (.tmp 118) = .bool g1 := H.dep 17 118 rfl (by kernel_rfl)
  have e14 : a1.eval (.tmp 14) = .slice AC nC cC := (H.out 14 (by kernel_rfl)).trans t14
  refine gd_var rfl d17 (fun hg => OpW.imp ?_) (fun hg h => absurd h hg)
  exact OpW.move e14 rfl
set_option maxRecDepth 10000 in
theorem okTt18_19 {p1 nC cC nS cS k : Nat} {AC AS : Option Addr} {e has x1 y1 : Int} {g1 g2 bC bS : Bool} {a : Act} {w : World} (t14 : a.eval (.tmp 14) = .slice AC nC cC) (t15 : a.eval (.tmp 15) = .slice AS nS cS) (t20 : a.eval (.tmp 20) = .int .i64 k) (t21 : a.eval (.tmp 21) = .pointer (some ⟨p1, 0, none⟩)) (t22 : a.eval (.tmp 22) = .int .i64 e) (t23 : a.eval (.tmp 23) = .int .i64 has) (m0 : w.cell? ⟨p1, 0, none⟩ = some (.int .i64 x1)) (m1 : w.cell? ⟨p1, 1, none⟩ = some (.int .i64 y1)) (he : e = 0) (h1 : x1 ≤ has) (h2 : has ≤ y1) (hg1 : decide (0 < has) = g1) (hg2 : decide (has = 0) = g2) (hbC : decide (0 < y1) = bC) (hbS : decide (0 < x1) = bS) (hi1 : g1 = true → bC = true) (hi2 : g2 = true → bS = false) (hvC : CV w 40 #[.slice AC nC cC, .int .i64 k] (.bool bC)) (hvS : CV w 40 #[.slice AS nS cS, .int .i64 k] (.bool bS)) : OpOk Try.prog opsTt18 (wordsTt18 p1 nC cC nS cS k AC AS e has x1 y1 g1 g2 bC bS) 153 a w 19 := by
  refine OpOk.gen rfl (fun a1 w1 H => ?_)
  have d17 : a1.eval (.tmp 118) = .bool g1 := H.dep 17 118 rfl (by kernel_rfl)
  have e20 : a1.eval (.tmp 20) = .int .i64 k := (H.out 20 (by kernel_rfl)).trans t20
  refine gd_var rfl d17 (fun hg => OpW.imp ?_) (fun hg h => absurd h hg)
  exact OpW.move e20 rfl
set_option maxRecDepth 10000 in
theorem okTt18_20 {p1 nC cC nS cS k : Nat} {AC AS : Option Addr} {e has x1 y1 : Int} {g1 g2 bC bS : Bool} {a : Act} {w : World} (t14 : a.eval (.tmp 14) = .slice AC nC cC) (t15 : a.eval (.tmp 15) = .slice AS nS cS) (t20 : a.eval (.tmp 20) = .int .i64 k) (t21 : a.eval (.tmp 21) = .pointer (some ⟨p1, 0, none⟩)) (t22 : a.eval (.tmp 22) = .int .i64 e) (t23 : a.eval (.tmp 23) = .int .i64 has) (m0 : w.cell? ⟨p1, 0, none⟩ = some (.int .i64 x1)) (m1 : w.cell? ⟨p1, 1, none⟩ = some (.int .i64 y1)) (he : e = 0) (h1 : x1 ≤ has) (h2 : has ≤ y1) (hg1 : decide (0 < has) = g1) (hg2 : decide (has = 0) = g2) (hbC : decide (0 < y1) = bC) (hbS : decide (0 < x1) = bS) (hi1 : g1 = true → bC = true) (hi2 : g2 = true → bS = false) (hvC : CV w 40 #[.slice AC nC cC, .int .i64 k] (.bool bC)) (hvS : CV w 40 #[.slice AS nS cS, .int .i64 k] (.bool bS)) : OpOk Try.prog opsTt18 (wordsTt18 p1 nC cC nS cS k AC AS e has x1 y1 g1 g2 bC bS) 153 a w 20 := by
  refine OpOk.gen rfl (fun a1 w1 H => ?_)
  have d17 : a1.eval (.tmp 118) = .bool g1 := H.dep 17 118 rfl (by kernel_rfl)
  have d18 : g1 = true → a1.eval (.tmp 119) = .slice AC nC cC := H.dep 18 119 rfl (by kernel_rfl)
  have d19 : g1 = true → a1.eval (.tmp 120) = .int .i64 k := H.dep 19 120 rfl (by kernel_rfl)
  refine gd_var rfl d17 (fun hg => OpW.imp ?_) (fun hg h => absurd h hg)
  replace d18 := d18 hg
  replace d19 := d19 hg
  exact OpW.call (vs := #[.slice AC nC cC, .int .i64 k]) (enters_of Try.func40 (by kernel_rfl) rfl) (by simp [d18, d19]) (hvC w1 H.low)
set_option maxRecDepth 10000 in
theorem okTt18_21 {p1 nC cC nS cS k : Nat} {AC AS : Option Addr} {e has x1 y1 : Int} {g1 g2 bC bS : Bool} {a : Act} {w : World} (t14 : a.eval (.tmp 14) = .slice AC nC cC) (t15 : a.eval (.tmp 15) = .slice AS nS cS) (t20 : a.eval (.tmp 20) = .int .i64 k) (t21 : a.eval (.tmp 21) = .pointer (some ⟨p1, 0, none⟩)) (t22 : a.eval (.tmp 22) = .int .i64 e) (t23 : a.eval (.tmp 23) = .int .i64 has) (m0 : w.cell? ⟨p1, 0, none⟩ = some (.int .i64 x1)) (m1 : w.cell? ⟨p1, 1, none⟩ = some (.int .i64 y1)) (he : e = 0) (h1 : x1 ≤ has) (h2 : has ≤ y1) (hg1 : decide (0 < has) = g1) (hg2 : decide (has = 0) = g2) (hbC : decide (0 < y1) = bC) (hbS : decide (0 < x1) = bS) (hi1 : g1 = true → bC = true) (hi2 : g2 = true → bS = false) (hvC : CV w 40 #[.slice AC nC cC, .int .i64 k] (.bool bC)) (hvS : CV w 40 #[.slice AS nS cS, .int .i64 k] (.bool bS)) : OpOk Try.prog opsTt18 (wordsTt18 p1 nC cC nS cS k AC AS e has x1 y1 g1 g2 bC bS) 153 a w 21 := by
  refine OpOk.gen rfl (fun a1 w1 H => ?_)
  have d17 : a1.eval (.tmp 118) = .bool g1 := H.dep 17 118 rfl (by kernel_rfl)
  have d20 : g1 = true → a1.eval (.tmp 121) = .bool bC := H.dep 20 121 rfl (by kernel_rfl)
  refine gd_var rfl d17 (fun hg => OpW.imp ?_) (fun hg h => absurd h hg)
  replace d20 := d20 hg
  exact OpW.un d20 (not4 _ _) rfl
set_option maxRecDepth 10000 in
theorem okTt18_22 {p1 nC cC nS cS k : Nat} {AC AS : Option Addr} {e has x1 y1 : Int} {g1 g2 bC bS : Bool} {a : Act} {w : World} (t14 : a.eval (.tmp 14) = .slice AC nC cC) (t15 : a.eval (.tmp 15) = .slice AS nS cS) (t20 : a.eval (.tmp 20) = .int .i64 k) (t21 : a.eval (.tmp 21) = .pointer (some ⟨p1, 0, none⟩)) (t22 : a.eval (.tmp 22) = .int .i64 e) (t23 : a.eval (.tmp 23) = .int .i64 has) (m0 : w.cell? ⟨p1, 0, none⟩ = some (.int .i64 x1)) (m1 : w.cell? ⟨p1, 1, none⟩ = some (.int .i64 y1)) (he : e = 0) (h1 : x1 ≤ has) (h2 : has ≤ y1) (hg1 : decide (0 < has) = g1) (hg2 : decide (has = 0) = g2) (hbC : decide (0 < y1) = bC) (hbS : decide (0 < x1) = bS) (hi1 : g1 = true → bC = true) (hi2 : g2 = true → bS = false) (hvC : CV w 40 #[.slice AC nC cC, .int .i64 k] (.bool bC)) (hvS : CV w 40 #[.slice AS nS cS, .int .i64 k] (.bool bS)) : OpOk Try.prog opsTt18 (wordsTt18 p1 nC cC nS cS k AC AS e has x1 y1 g1 g2 bC bS) 153 a w 22 := by
  refine OpOk.gen rfl (fun a1 w1 H => ?_)
  have d14 : a1.eval (.tmp 115) = .bool false := H.dep 14 115 rfl (by kernel_rfl)
  have d17 : a1.eval (.tmp 118) = .bool g1 := H.dep 17 118 rfl (by kernel_rfl)
  have d21 : g1 = true → a1.eval (.tmp 122) = .bool (!bC) := H.dep 21 122 rfl (by kernel_rfl)
  refine gd_true rfl d14 ?_
  exact OpW.pick (b := g1) d17 (by cases g1 <;> first | exact (d21 rfl).trans (by rw [hi1 rfl]; rfl) | rfl)
set_option maxRecDepth 10000 in
theorem okTt18_23 {p1 nC cC nS cS k : Nat} {AC AS : Option Addr} {e has x1 y1 : Int} {g1 g2 bC bS : Bool} {a : Act} {w : World} (t14 : a.eval (.tmp 14) = .slice AC nC cC) (t15 : a.eval (.tmp 15) = .slice AS nS cS) (t20 : a.eval (.tmp 20) = .int .i64 k) (t21 : a.eval (.tmp 21) = .pointer (some ⟨p1, 0, none⟩)) (t22 : a.eval (.tmp 22) = .int .i64 e) (t23 : a.eval (.tmp 23) = .int .i64 has) (m0 : w.cell? ⟨p1, 0, none⟩ = some (.int .i64 x1)) (m1 : w.cell? ⟨p1, 1, none⟩ = some (.int .i64 y1)) (he : e = 0) (h1 : x1 ≤ has) (h2 : has ≤ y1) (hg1 : decide (0 < has) = g1) (hg2 : decide (has = 0) = g2) (hbC : decide (0 < y1) = bC) (hbS : decide (0 < x1) = bS) (hi1 : g1 = true → bC = true) (hi2 : g2 = true → bS = false) (hvC : CV w 40 #[.slice AC nC cC, .int .i64 k] (.bool bC)) (hvS : CV w 40 #[.slice AS nS cS, .int .i64 k] (.bool bS)) : OpOk Try.prog opsTt18 (wordsTt18 p1 nC cC nS cS k AC AS e has x1 y1 g1 g2 bC bS) 153 a w 23 := by
  refine OpOk.gen rfl (fun a1 w1 H => ?_)
  have d14 : a1.eval (.tmp 115) = .bool false := H.dep 14 115 rfl (by kernel_rfl)
  have d22 : a1.eval (.tmp 123) = .bool false := H.dep 22 123 rfl (by kernel_rfl)
  refine gd_none ?_
  exact OpW.pick (b := false) d14 d22
set_option maxRecDepth 10000 in
theorem okTt18_24 {p1 nC cC nS cS k : Nat} {AC AS : Option Addr} {e has x1 y1 : Int} {g1 g2 bC bS : Bool} {a : Act} {w : World} (t14 : a.eval (.tmp 14) = .slice AC nC cC) (t15 : a.eval (.tmp 15) = .slice AS nS cS) (t20 : a.eval (.tmp 20) = .int .i64 k) (t21 : a.eval (.tmp 21) = .pointer (some ⟨p1, 0, none⟩)) (t22 : a.eval (.tmp 22) = .int .i64 e) (t23 : a.eval (.tmp 23) = .int .i64 has) (m0 : w.cell? ⟨p1, 0, none⟩ = some (.int .i64 x1)) (m1 : w.cell? ⟨p1, 1, none⟩ = some (.int .i64 y1)) (he : e = 0) (h1 : x1 ≤ has) (h2 : has ≤ y1) (hg1 : decide (0 < has) = g1) (hg2 : decide (has = 0) = g2) (hbC : decide (0 < y1) = bC) (hbS : decide (0 < x1) = bS) (hi1 : g1 = true → bC = true) (hi2 : g2 = true → bS = false) (hvC : CV w 40 #[.slice AC nC cC, .int .i64 k] (.bool bC)) (hvS : CV w 40 #[.slice AS nS cS, .int .i64 k] (.bool bS)) : OpOk Try.prog opsTt18 (wordsTt18 p1 nC cC nS cS k AC AS e has x1 y1 g1 g2 bC bS) 153 a w 24 := by
  refine OpOk.gen rfl (fun a1 w1 H => ?_)
  have d23 : a1.eval (.tmp 124) = .bool false := H.dep 23 124 rfl (by kernel_rfl)
  refine gd_none ?_
  exact OpW.move d23 rfl
set_option maxRecDepth 10000 in
theorem okTt18_25 {p1 nC cC nS cS k : Nat} {AC AS : Option Addr} {e has x1 y1 : Int} {g1 g2 bC bS : Bool} {a : Act} {w : World} (t14 : a.eval (.tmp 14) = .slice AC nC cC) (t15 : a.eval (.tmp 15) = .slice AS nS cS) (t20 : a.eval (.tmp 20) = .int .i64 k) (t21 : a.eval (.tmp 21) = .pointer (some ⟨p1, 0, none⟩)) (t22 : a.eval (.tmp 22) = .int .i64 e) (t23 : a.eval (.tmp 23) = .int .i64 has) (m0 : w.cell? ⟨p1, 0, none⟩ = some (.int .i64 x1)) (m1 : w.cell? ⟨p1, 1, none⟩ = some (.int .i64 y1)) (he : e = 0) (h1 : x1 ≤ has) (h2 : has ≤ y1) (hg1 : decide (0 < has) = g1) (hg2 : decide (has = 0) = g2) (hbC : decide (0 < y1) = bC) (hbS : decide (0 < x1) = bS) (hi1 : g1 = true → bC = true) (hi2 : g2 = true → bS = false) (hvC : CV w 40 #[.slice AC nC cC, .int .i64 k] (.bool bC)) (hvS : CV w 40 #[.slice AS nS cS, .int .i64 k] (.bool bS)) : OpOk Try.prog opsTt18 (wordsTt18 p1 nC cC nS cS k AC AS e has x1 y1 g1 g2 bC bS) 153 a w 25 := by
  refine OpOk.gen rfl (fun a1 w1 H => ?_)
  have d24 : a1.eval (.tmp 125) = .bool false := H.dep 24 125 rfl (by kernel_rfl)
  have e23 : a1.eval (.tmp 23) = .int .i64 has := (H.out 23 (by kernel_rfl)).trans t23
  refine gd_true rfl d24 ?_
  exact OpW.move e23 rfl
set_option maxRecDepth 10000 in
theorem okTt18_26 {p1 nC cC nS cS k : Nat} {AC AS : Option Addr} {e has x1 y1 : Int} {g1 g2 bC bS : Bool} {a : Act} {w : World} (t14 : a.eval (.tmp 14) = .slice AC nC cC) (t15 : a.eval (.tmp 15) = .slice AS nS cS) (t20 : a.eval (.tmp 20) = .int .i64 k) (t21 : a.eval (.tmp 21) = .pointer (some ⟨p1, 0, none⟩)) (t22 : a.eval (.tmp 22) = .int .i64 e) (t23 : a.eval (.tmp 23) = .int .i64 has) (m0 : w.cell? ⟨p1, 0, none⟩ = some (.int .i64 x1)) (m1 : w.cell? ⟨p1, 1, none⟩ = some (.int .i64 y1)) (he : e = 0) (h1 : x1 ≤ has) (h2 : has ≤ y1) (hg1 : decide (0 < has) = g1) (hg2 : decide (has = 0) = g2) (hbC : decide (0 < y1) = bC) (hbS : decide (0 < x1) = bS) (hi1 : g1 = true → bC = true) (hi2 : g2 = true → bS = false) (hvC : CV w 40 #[.slice AC nC cC, .int .i64 k] (.bool bC)) (hvS : CV w 40 #[.slice AS nS cS, .int .i64 k] (.bool bS)) : OpOk Try.prog opsTt18 (wordsTt18 p1 nC cC nS cS k AC AS e has x1 y1 g1 g2 bC bS) 153 a w 26 := by
  refine OpOk.gen rfl (fun a1 w1 H => ?_)
  have d24 : a1.eval (.tmp 125) = .bool false := H.dep 24 125 rfl (by kernel_rfl)
  have d25 : a1.eval (.tmp 126) = .int .i64 has := H.dep 25 126 rfl (by kernel_rfl)
  refine gd_true rfl d24 ?_
  exact OpW.bin d25 rfl (eq3B hg2 _) rfl
set_option maxRecDepth 10000 in
theorem okTt18_27 {p1 nC cC nS cS k : Nat} {AC AS : Option Addr} {e has x1 y1 : Int} {g1 g2 bC bS : Bool} {a : Act} {w : World} (t14 : a.eval (.tmp 14) = .slice AC nC cC) (t15 : a.eval (.tmp 15) = .slice AS nS cS) (t20 : a.eval (.tmp 20) = .int .i64 k) (t21 : a.eval (.tmp 21) = .pointer (some ⟨p1, 0, none⟩)) (t22 : a.eval (.tmp 22) = .int .i64 e) (t23 : a.eval (.tmp 23) = .int .i64 has) (m0 : w.cell? ⟨p1, 0, none⟩ = some (.int .i64 x1)) (m1 : w.cell? ⟨p1, 1, none⟩ = some (.int .i64 y1)) (he : e = 0) (h1 : x1 ≤ has) (h2 : has ≤ y1) (hg1 : decide (0 < has) = g1) (hg2 : decide (has = 0) = g2) (hbC : decide (0 < y1) = bC) (hbS : decide (0 < x1) = bS) (hi1 : g1 = true → bC = true) (hi2 : g2 = true → bS = false) (hvC : CV w 40 #[.slice AC nC cC, .int .i64 k] (.bool bC)) (hvS : CV w 40 #[.slice AS nS cS, .int .i64 k] (.bool bS)) : OpOk Try.prog opsTt18 (wordsTt18 p1 nC cC nS cS k AC AS e has x1 y1 g1 g2 bC bS) 153 a w 27 := by
  refine OpOk.gen rfl (fun a1 w1 H => ?_)
  have d24 : a1.eval (.tmp 125) = .bool false := H.dep 24 125 rfl (by kernel_rfl)
  have d26 : a1.eval (.tmp 127) = .bool g2 := H.dep 26 127 rfl (by kernel_rfl)
  refine gd_true rfl d24 ?_
  exact OpW.move d26 rfl
set_option maxRecDepth 10000 in
theorem okTt18_28 {p1 nC cC nS cS k : Nat} {AC AS : Option Addr} {e has x1 y1 : Int} {g1 g2 bC bS : Bool} {a : Act} {w : World} (t14 : a.eval (.tmp 14) = .slice AC nC cC) (t15 : a.eval (.tmp 15) = .slice AS nS cS) (t20 : a.eval (.tmp 20) = .int .i64 k) (t21 : a.eval (.tmp 21) = .pointer (some ⟨p1, 0, none⟩)) (t22 : a.eval (.tmp 22) = .int .i64 e) (t23 : a.eval (.tmp 23) = .int .i64 has) (m0 : w.cell? ⟨p1, 0, none⟩ = some (.int .i64 x1)) (m1 : w.cell? ⟨p1, 1, none⟩ = some (.int .i64 y1)) (he : e = 0) (h1 : x1 ≤ has) (h2 : has ≤ y1) (hg1 : decide (0 < has) = g1) (hg2 : decide (has = 0) = g2) (hbC : decide (0 < y1) = bC) (hbS : decide (0 < x1) = bS) (hi1 : g1 = true → bC = true) (hi2 : g2 = true → bS = false) (hvC : CV w 40 #[.slice AC nC cC, .int .i64 k] (.bool bC)) (hvS : CV w 40 #[.slice AS nS cS, .int .i64 k] (.bool bS)) : OpOk Try.prog opsTt18 (wordsTt18 p1 nC cC nS cS k AC AS e has x1 y1 g1 g2 bC bS) 153 a w 28 := by
  refine OpOk.gen rfl (fun a1 w1 H => ?_)
  have d27 : a1.eval (.tmp 128) = .bool g2 := H.dep 27 128 rfl (by kernel_rfl)
  have e15 : a1.eval (.tmp 15) = .slice AS nS cS := (H.out 15 (by kernel_rfl)).trans t15
  refine gd_var rfl d27 (fun hg => OpW.imp ?_) (fun hg h => absurd h hg)
  exact OpW.move e15 rfl
set_option maxRecDepth 10000 in
theorem okTt18_29 {p1 nC cC nS cS k : Nat} {AC AS : Option Addr} {e has x1 y1 : Int} {g1 g2 bC bS : Bool} {a : Act} {w : World} (t14 : a.eval (.tmp 14) = .slice AC nC cC) (t15 : a.eval (.tmp 15) = .slice AS nS cS) (t20 : a.eval (.tmp 20) = .int .i64 k) (t21 : a.eval (.tmp 21) = .pointer (some ⟨p1, 0, none⟩)) (t22 : a.eval (.tmp 22) = .int .i64 e) (t23 : a.eval (.tmp 23) = .int .i64 has) (m0 : w.cell? ⟨p1, 0, none⟩ = some (.int .i64 x1)) (m1 : w.cell? ⟨p1, 1, none⟩ = some (.int .i64 y1)) (he : e = 0) (h1 : x1 ≤ has) (h2 : has ≤ y1) (hg1 : decide (0 < has) = g1) (hg2 : decide (has = 0) = g2) (hbC : decide (0 < y1) = bC) (hbS : decide (0 < x1) = bS) (hi1 : g1 = true → bC = true) (hi2 : g2 = true → bS = false) (hvC : CV w 40 #[.slice AC nC cC, .int .i64 k] (.bool bC)) (hvS : CV w 40 #[.slice AS nS cS, .int .i64 k] (.bool bS)) : OpOk Try.prog opsTt18 (wordsTt18 p1 nC cC nS cS k AC AS e has x1 y1 g1 g2 bC bS) 153 a w 29 := by
  refine OpOk.gen rfl (fun a1 w1 H => ?_)
  have d27 : a1.eval (.tmp 128) = .bool g2 := H.dep 27 128 rfl (by kernel_rfl)
  have e20 : a1.eval (.tmp 20) = .int .i64 k := (H.out 20 (by kernel_rfl)).trans t20
  refine gd_var rfl d27 (fun hg => OpW.imp ?_) (fun hg h => absurd h hg)
  exact OpW.move e20 rfl
set_option maxRecDepth 10000 in
theorem okTt18_30 {p1 nC cC nS cS k : Nat} {AC AS : Option Addr} {e has x1 y1 : Int} {g1 g2 bC bS : Bool} {a : Act} {w : World} (t14 : a.eval (.tmp 14) = .slice AC nC cC) (t15 : a.eval (.tmp 15) = .slice AS nS cS) (t20 : a.eval (.tmp 20) = .int .i64 k) (t21 : a.eval (.tmp 21) = .pointer (some ⟨p1, 0, none⟩)) (t22 : a.eval (.tmp 22) = .int .i64 e) (t23 : a.eval (.tmp 23) = .int .i64 has) (m0 : w.cell? ⟨p1, 0, none⟩ = some (.int .i64 x1)) (m1 : w.cell? ⟨p1, 1, none⟩ = some (.int .i64 y1)) (he : e = 0) (h1 : x1 ≤ has) (h2 : has ≤ y1) (hg1 : decide (0 < has) = g1) (hg2 : decide (has = 0) = g2) (hbC : decide (0 < y1) = bC) (hbS : decide (0 < x1) = bS) (hi1 : g1 = true → bC = true) (hi2 : g2 = true → bS = false) (hvC : CV w 40 #[.slice AC nC cC, .int .i64 k] (.bool bC)) (hvS : CV w 40 #[.slice AS nS cS, .int .i64 k] (.bool bS)) : OpOk Try.prog opsTt18 (wordsTt18 p1 nC cC nS cS k AC AS e has x1 y1 g1 g2 bC bS) 153 a w 30 := by
  refine OpOk.gen rfl (fun a1 w1 H => ?_)
  have d27 : a1.eval (.tmp 128) = .bool g2 := H.dep 27 128 rfl (by kernel_rfl)
  have d28 : g2 = true → a1.eval (.tmp 129) = .slice AS nS cS := H.dep 28 129 rfl (by kernel_rfl)
  have d29 : g2 = true → a1.eval (.tmp 130) = .int .i64 k := H.dep 29 130 rfl (by kernel_rfl)
  refine gd_var rfl d27 (fun hg => OpW.imp ?_) (fun hg h => absurd h hg)
  replace d28 := d28 hg
  replace d29 := d29 hg
  exact OpW.call (vs := #[.slice AS nS cS, .int .i64 k]) (enters_of Try.func40 (by kernel_rfl) rfl) (by simp [d28, d29]) (hvS w1 H.low)
set_option maxRecDepth 10000 in
theorem okTt18_31 {p1 nC cC nS cS k : Nat} {AC AS : Option Addr} {e has x1 y1 : Int} {g1 g2 bC bS : Bool} {a : Act} {w : World} (t14 : a.eval (.tmp 14) = .slice AC nC cC) (t15 : a.eval (.tmp 15) = .slice AS nS cS) (t20 : a.eval (.tmp 20) = .int .i64 k) (t21 : a.eval (.tmp 21) = .pointer (some ⟨p1, 0, none⟩)) (t22 : a.eval (.tmp 22) = .int .i64 e) (t23 : a.eval (.tmp 23) = .int .i64 has) (m0 : w.cell? ⟨p1, 0, none⟩ = some (.int .i64 x1)) (m1 : w.cell? ⟨p1, 1, none⟩ = some (.int .i64 y1)) (he : e = 0) (h1 : x1 ≤ has) (h2 : has ≤ y1) (hg1 : decide (0 < has) = g1) (hg2 : decide (has = 0) = g2) (hbC : decide (0 < y1) = bC) (hbS : decide (0 < x1) = bS) (hi1 : g1 = true → bC = true) (hi2 : g2 = true → bS = false) (hvC : CV w 40 #[.slice AC nC cC, .int .i64 k] (.bool bC)) (hvS : CV w 40 #[.slice AS nS cS, .int .i64 k] (.bool bS)) : OpOk Try.prog opsTt18 (wordsTt18 p1 nC cC nS cS k AC AS e has x1 y1 g1 g2 bC bS) 153 a w 31 := by
  refine OpOk.gen rfl (fun a1 w1 H => ?_)
  have d24 : a1.eval (.tmp 125) = .bool false := H.dep 24 125 rfl (by kernel_rfl)
  have d27 : a1.eval (.tmp 128) = .bool g2 := H.dep 27 128 rfl (by kernel_rfl)
  have d30 : g2 = true → a1.eval (.tmp 131) = .bool bS := H.dep 30 131 rfl (by kernel_rfl)
  refine gd_true rfl d24 ?_
  exact OpW.pick (b := g2) d27 (by cases g2 <;> first | exact (d30 rfl).trans (by rw [hi2 rfl]) | rfl)
set_option maxRecDepth 10000 in
theorem okTt18_32 {p1 nC cC nS cS k : Nat} {AC AS : Option Addr} {e has x1 y1 : Int} {g1 g2 bC bS : Bool} {a : Act} {w : World} (t14 : a.eval (.tmp 14) = .slice AC nC cC) (t15 : a.eval (.tmp 15) = .slice AS nS cS) (t20 : a.eval (.tmp 20) = .int .i64 k) (t21 : a.eval (.tmp 21) = .pointer (some ⟨p1, 0, none⟩)) (t22 : a.eval (.tmp 22) = .int .i64 e) (t23 : a.eval (.tmp 23) = .int .i64 has) (m0 : w.cell? ⟨p1, 0, none⟩ = some (.int .i64 x1)) (m1 : w.cell? ⟨p1, 1, none⟩ = some (.int .i64 y1)) (he : e = 0) (h1 : x1 ≤ has) (h2 : has ≤ y1) (hg1 : decide (0 < has) = g1) (hg2 : decide (has = 0) = g2) (hbC : decide (0 < y1) = bC) (hbS : decide (0 < x1) = bS) (hi1 : g1 = true → bC = true) (hi2 : g2 = true → bS = false) (hvC : CV w 40 #[.slice AC nC cC, .int .i64 k] (.bool bC)) (hvS : CV w 40 #[.slice AS nS cS, .int .i64 k] (.bool bS)) : OpOk Try.prog opsTt18 (wordsTt18 p1 nC cC nS cS k AC AS e has x1 y1 g1 g2 bC bS) 153 a w 32 := by
  refine OpOk.gen rfl (fun a1 w1 H => ?_)
  have d24 : a1.eval (.tmp 125) = .bool false := H.dep 24 125 rfl (by kernel_rfl)
  have d31 : a1.eval (.tmp 132) = .bool false := H.dep 31 132 rfl (by kernel_rfl)
  refine gd_none ?_
  exact OpW.pick (b := false) d24 d31
set_option maxRecDepth 10000 in
theorem okTt18_33 {p1 nC cC nS cS k : Nat} {AC AS : Option Addr} {e has x1 y1 : Int} {g1 g2 bC bS : Bool} {a : Act} {w : World} (t14 : a.eval (.tmp 14) = .slice AC nC cC) (t15 : a.eval (.tmp 15) = .slice AS nS cS) (t20 : a.eval (.tmp 20) = .int .i64 k) (t21 : a.eval (.tmp 21) = .pointer (some ⟨p1, 0, none⟩)) (t22 : a.eval (.tmp 22) = .int .i64 e) (t23 : a.eval (.tmp 23) = .int .i64 has) (m0 : w.cell? ⟨p1, 0, none⟩ = some (.int .i64 x1)) (m1 : w.cell? ⟨p1, 1, none⟩ = some (.int .i64 y1)) (he : e = 0) (h1 : x1 ≤ has) (h2 : has ≤ y1) (hg1 : decide (0 < has) = g1) (hg2 : decide (has = 0) = g2) (hbC : decide (0 < y1) = bC) (hbS : decide (0 < x1) = bS) (hi1 : g1 = true → bC = true) (hi2 : g2 = true → bS = false) (hvC : CV w 40 #[.slice AC nC cC, .int .i64 k] (.bool bC)) (hvS : CV w 40 #[.slice AS nS cS, .int .i64 k] (.bool bS)) : OpOk Try.prog opsTt18 (wordsTt18 p1 nC cC nS cS k AC AS e has x1 y1 g1 g2 bC bS) 153 a w 33 := by
  refine OpOk.gen rfl (fun a1 w1 H => ?_)
  have d32 : a1.eval (.tmp 133) = .bool false := H.dep 32 133 rfl (by kernel_rfl)
  refine gd_none ?_
  exact OpW.move d32 rfl
set_option maxRecDepth 10000 in
theorem okTt18_34 {p1 nC cC nS cS k : Nat} {AC AS : Option Addr} {e has x1 y1 : Int} {g1 g2 bC bS : Bool} {a : Act} {w : World} (t14 : a.eval (.tmp 14) = .slice AC nC cC) (t15 : a.eval (.tmp 15) = .slice AS nS cS) (t20 : a.eval (.tmp 20) = .int .i64 k) (t21 : a.eval (.tmp 21) = .pointer (some ⟨p1, 0, none⟩)) (t22 : a.eval (.tmp 22) = .int .i64 e) (t23 : a.eval (.tmp 23) = .int .i64 has) (m0 : w.cell? ⟨p1, 0, none⟩ = some (.int .i64 x1)) (m1 : w.cell? ⟨p1, 1, none⟩ = some (.int .i64 y1)) (he : e = 0) (h1 : x1 ≤ has) (h2 : has ≤ y1) (hg1 : decide (0 < has) = g1) (hg2 : decide (has = 0) = g2) (hbC : decide (0 < y1) = bC) (hbS : decide (0 < x1) = bS) (hi1 : g1 = true → bC = true) (hi2 : g2 = true → bS = false) (hvC : CV w 40 #[.slice AC nC cC, .int .i64 k] (.bool bC)) (hvS : CV w 40 #[.slice AS nS cS, .int .i64 k] (.bool bS)) : OpOk Try.prog opsTt18 (wordsTt18 p1 nC cC nS cS k AC AS e has x1 y1 g1 g2 bC bS) 153 a w 34 := by
  refine OpOk.gen rfl (fun a1 w1 H => ?_)
  have d33 : a1.eval (.tmp 134) = .bool false := H.dep 33 134 rfl (by kernel_rfl)
  have e14 : a1.eval (.tmp 14) = .slice AC nC cC := (H.out 14 (by kernel_rfl)).trans t14
  refine gd_true rfl d33 ?_
  exact OpW.move e14 rfl
set_option maxRecDepth 10000 in
theorem okTt18_35 {p1 nC cC nS cS k : Nat} {AC AS : Option Addr} {e has x1 y1 : Int} {g1 g2 bC bS : Bool} {a : Act} {w : World} (t14 : a.eval (.tmp 14) = .slice AC nC cC) (t15 : a.eval (.tmp 15) = .slice AS nS cS) (t20 : a.eval (.tmp 20) = .int .i64 k) (t21 : a.eval (.tmp 21) = .pointer (some ⟨p1, 0, none⟩)) (t22 : a.eval (.tmp 22) = .int .i64 e) (t23 : a.eval (.tmp 23) = .int .i64 has) (m0 : w.cell? ⟨p1, 0, none⟩ = some (.int .i64 x1)) (m1 : w.cell? ⟨p1, 1, none⟩ = some (.int .i64 y1)) (he : e = 0) (h1 : x1 ≤ has) (h2 : has ≤ y1) (hg1 : decide (0 < has) = g1) (hg2 : decide (has = 0) = g2) (hbC : decide (0 < y1) = bC) (hbS : decide (0 < x1) = bS) (hi1 : g1 = true → bC = true) (hi2 : g2 = true → bS = false) (hvC : CV w 40 #[.slice AC nC cC, .int .i64 k] (.bool bC)) (hvS : CV w 40 #[.slice AS nS cS, .int .i64 k] (.bool bS)) : OpOk Try.prog opsTt18 (wordsTt18 p1 nC cC nS cS k AC AS e has x1 y1 g1 g2 bC bS) 153 a w 35 := by
  refine OpOk.gen rfl (fun a1 w1 H => ?_)
  have d33 : a1.eval (.tmp 134) = .bool false := H.dep 33 134 rfl (by kernel_rfl)
  have e20 : a1.eval (.tmp 20) = .int .i64 k := (H.out 20 (by kernel_rfl)).trans t20
  refine gd_true rfl d33 ?_
  exact OpW.move e20 rfl
set_option maxRecDepth 10000 in
theorem okTt18_36 {p1 nC cC nS cS k : Nat} {AC AS : Option Addr} {e has x1 y1 : Int} {g1 g2 bC bS : Bool} {a : Act} {w : World} (t14 : a.eval (.tmp 14) = .slice AC nC cC) (t15 : a.eval (.tmp 15) = .slice AS nS cS) (t20 : a.eval (.tmp 20) = .int .i64 k) (t21 : a.eval (.tmp 21) = .pointer (some ⟨p1, 0, none⟩)) (t22 : a.eval (.tmp 22) = .int .i64 e) (t23 : a.eval (.tmp 23) = .int .i64 has) (m0 : w.cell? ⟨p1, 0, none⟩ = some (.int .i64 x1)) (m1 : w.cell? ⟨p1, 1, none⟩ = some (.int .i64 y1)) (he : e = 0) (h1 : x1 ≤ has) (h2 : has ≤ y1) (hg1 : decide (0 < has) = g1) (hg2 : decide (has = 0) = g2) (hbC : decide (0 < y1) = bC) (hbS : decide (0 < x1) = bS) (hi1 : g1 = true → bC = true) (hi2 : g2 = true → bS = false) (hvC : CV w 40 #[.slice AC nC cC, .int .i64 k] (.bool bC)) (hvS : CV w 40 #[.slice AS nS cS, .int .i64 k] (.bool bS)) : OpOk Try.prog opsTt18 (wordsTt18 p1 nC cC nS cS k AC AS e has x1 y1 g1 g2 bC bS) 153 a w 36 := by
  refine OpOk.gen rfl (fun a1 w1 H => ?_)
  have d33 : a1.eval (.tmp 134) = .bool false := H.dep 33 134 rfl (by kernel_rfl)
  have d34 : a1.eval (.tmp 135) = .slice AC nC cC := H.dep 34 135 rfl (by kernel_rfl)
  have d35 : a1.eval (.tmp 136) = .int .i64 k := H.dep 35 136 rfl (by kernel_rfl)
  refine gd_true rfl d33 ?_
  exact OpW.call (vs := #[.slice AC nC cC, .int .i64 k]) (enters_of Try.func40 (by kernel_rfl) rfl) (by simp [d34, d35]) (hvC w1 H.low)
set_option maxRecDepth 10000 in
theorem okTt18_37 {p1 nC cC nS cS k : Nat} {AC AS : Option Addr} {e has x1 y1 : Int} {g1 g2 bC bS : Bool} {a : Act} {w : World} (t14 : a.eval (.tmp 14) = .slice AC nC cC) (t15 : a.eval (.tmp 15) = .slice AS nS cS) (t20 : a.eval (.tmp 20) = .int .i64 k) (t21 : a.eval (.tmp 21) = .pointer (some ⟨p1, 0, none⟩)) (t22 : a.eval (.tmp 22) = .int .i64 e) (t23 : a.eval (.tmp 23) = .int .i64 has) (m0 : w.cell? ⟨p1, 0, none⟩ = some (.int .i64 x1)) (m1 : w.cell? ⟨p1, 1, none⟩ = some (.int .i64 y1)) (he : e = 0) (h1 : x1 ≤ has) (h2 : has ≤ y1) (hg1 : decide (0 < has) = g1) (hg2 : decide (has = 0) = g2) (hbC : decide (0 < y1) = bC) (hbS : decide (0 < x1) = bS) (hi1 : g1 = true → bC = true) (hi2 : g2 = true → bS = false) (hvC : CV w 40 #[.slice AC nC cC, .int .i64 k] (.bool bC)) (hvS : CV w 40 #[.slice AS nS cS, .int .i64 k] (.bool bS)) : OpOk Try.prog opsTt18 (wordsTt18 p1 nC cC nS cS k AC AS e has x1 y1 g1 g2 bC bS) 153 a w 37 := by
  refine OpOk.gen rfl (fun a1 w1 H => ?_)
  have d33 : a1.eval (.tmp 134) = .bool false := H.dep 33 134 rfl (by kernel_rfl)
  have e21 : a1.eval (.tmp 21) = .pointer (some ⟨p1, 0, none⟩) := (H.out 21 (by kernel_rfl)).trans t21
  refine gd_true rfl d33 ?_
  exact OpW.field e21 (fa46_1 _) rfl
set_option maxRecDepth 10000 in
theorem okTt18_38 {p1 nC cC nS cS k : Nat} {AC AS : Option Addr} {e has x1 y1 : Int} {g1 g2 bC bS : Bool} {a : Act} {w : World} (t14 : a.eval (.tmp 14) = .slice AC nC cC) (t15 : a.eval (.tmp 15) = .slice AS nS cS) (t20 : a.eval (.tmp 20) = .int .i64 k) (t21 : a.eval (.tmp 21) = .pointer (some ⟨p1, 0, none⟩)) (t22 : a.eval (.tmp 22) = .int .i64 e) (t23 : a.eval (.tmp 23) = .int .i64 has) (m0 : w.cell? ⟨p1, 0, none⟩ = some (.int .i64 x1)) (m1 : w.cell? ⟨p1, 1, none⟩ = some (.int .i64 y1)) (he : e = 0) (h1 : x1 ≤ has) (h2 : has ≤ y1) (hg1 : decide (0 < has) = g1) (hg2 : decide (has = 0) = g2) (hbC : decide (0 < y1) = bC) (hbS : decide (0 < x1) = bS) (hi1 : g1 = true → bC = true) (hi2 : g2 = true → bS = false) (hvC : CV w 40 #[.slice AC nC cC, .int .i64 k] (.bool bC)) (hvS : CV w 40 #[.slice AS nS cS, .int .i64 k] (.bool bS)) : OpOk Try.prog opsTt18 (wordsTt18 p1 nC cC nS cS k AC AS e has x1 y1 g1 g2 bC bS) 153 a w 38 := by
  refine OpOk.gen rfl (fun a1 w1 H => ?_)
  have d33 : a1.eval (.tmp 134) = .bool false := H.dep 33 134 rfl (by kernel_rfl)
  have d37 : a1.eval (.tmp 138) = .pointer (some ⟨p1, 1, none⟩) := H.dep 37 138 rfl (by kernel_rfl)
  refine gd_true rfl d33 ?_
  exact OpW.load d37 (ld3 (H.cell m1)) rfl
set_option maxRecDepth 10000 in
theorem okTt18_39 {p1 nC cC nS cS k : Nat} {AC AS : Option Addr} {e has x1 y1 : Int} {g1 g2 bC bS : Bool} {a : Act} {w : World} (t14 : a.eval (.tmp 14) = .slice AC nC cC) (t15 : a.eval (.tmp 15) = .slice AS nS cS) (t20 : a.eval (.tmp 20) = .int .i64 k) (t21 : a.eval (.tmp 21) = .pointer (some ⟨p1, 0, none⟩)) (t22 : a.eval (.tmp 22) = .int .i64 e) (t23 : a.eval (.tmp 23) = .int .i64 has) (m0 : w.cell? ⟨p1, 0, none⟩ = some (.int .i64 x1)) (m1 : w.cell? ⟨p1, 1, none⟩ = some (.int .i64 y1)) (he : e = 0) (h1 : x1 ≤ has) (h2 : has ≤ y1) (hg1 : decide (0 < has) = g1) (hg2 : decide (has = 0) = g2) (hbC : decide (0 < y1) = bC) (hbS : decide (0 < x1) = bS) (hi1 : g1 = true → bC = true) (hi2 : g2 = true → bS = false) (hvC : CV w 40 #[.slice AC nC cC, .int .i64 k] (.bool bC)) (hvS : CV w 40 #[.slice AS nS cS, .int .i64 k] (.bool bS)) : OpOk Try.prog opsTt18 (wordsTt18 p1 nC cC nS cS k AC AS e has x1 y1 g1 g2 bC bS) 153 a w 39 := by
  refine OpOk.gen rfl (fun a1 w1 H => ?_)
  have d33 : a1.eval (.tmp 134) = .bool false := H.dep 33 134 rfl (by kernel_rfl)
  have d38 : a1.eval (.tmp 139) = .int .i64 y1 := H.dep 38 139 rfl (by kernel_rfl)
  refine gd_true rfl d33 ?_
  exact OpW.bin d38 rfl (gtrB hbC _) rfl
set_option maxRecDepth 10000 in
theorem okTt18_40 {p1 nC cC nS cS k : Nat} {AC AS : Option Addr} {e has x1 y1 : Int} {g1 g2 bC bS : Bool} {a : Act} {w : World} (t14 : a.eval (.tmp 14) = .slice AC nC cC) (t15 : a.eval (.tmp 15) = .slice AS nS cS) (t20 : a.eval (.tmp 20) = .int .i64 k) (t21 : a.eval (.tmp 21) = .pointer (some ⟨p1, 0, none⟩)) (t22 : a.eval (.tmp 22) = .int .i64 e) (t23 : a.eval (.tmp 23) = .int .i64 has) (m0 : w.cell? ⟨p1, 0, none⟩ = some (.int .i64 x1)) (m1 : w.cell? ⟨p1, 1, none⟩ = some (.int .i64 y1)) (he : e = 0) (h1 : x1 ≤ has) (h2 : has ≤ y1) (hg1 : decide (0 < has) = g1) (hg2 : decide (has = 0) = g2) (hbC : decide (0 < y1) = bC) (hbS : decide (0 < x1) = bS) (hi1 : g1 = true → bC = true) (hi2 : g2 = true → bS = false) (hvC : CV w 40 #[.slice AC nC cC, .int .i64 k] (.bool bC)) (hvS : CV w 40 #[.slice AS nS cS, .int .i64 k] (.bool bS)) : OpOk Try.prog opsTt18 (wordsTt18 p1 nC cC nS cS k AC AS e has x1 y1 g1 g2 bC bS) 153 a w 40 := by
  refine OpOk.gen rfl (fun a1 w1 H => ?_)
  have d33 : a1.eval (.tmp 134) = .bool false := H.dep 33 134 rfl (by kernel_rfl)
  have d36 : a1.eval (.tmp 137) = .bool bC := H.dep 36 137 rfl (by kernel_rfl)
  have d39 : a1.eval (.tmp 140) = .bool bC := H.dep 39 140 rfl (by kernel_rfl)
  refine gd_true rfl d33 ?_
  exact OpW.bin d36 d39 (nq4S _ _) rfl
set_option maxRecDepth 10000 in
theorem okTt18_41 {p1 nC cC nS cS k : Nat} {AC AS : Option Addr} {e has x1 y1 : Int} {g1 g2 bC bS : Bool} {a : Act} {w : World} (t14 : a.eval (.tmp 14) = .slice AC nC cC) (t15 : a.eval (.tmp 15) = .slice AS nS cS) (t20 : a.eval (.tmp 20) = .int .i64 k) (t21 : a.eval (.tmp 21) = .pointer (some ⟨p1, 0, none⟩)) (t22 : a.eval (.tmp 22) = .int .i64 e) (t23 : a.eval (.tmp 23) = .int .i64 has) (m0 : w.cell? ⟨p1, 0, none⟩ = some (.int .i64 x1)) (m1 : w.cell? ⟨p1, 1, none⟩ = some (.int .i64 y1)) (he : e = 0) (h1 : x1 ≤ has) (h2 : has ≤ y1) (hg1 : decide (0 < has) = g1) (hg2 : decide (has = 0) = g2) (hbC : decide (0 < y1) = bC) (hbS : decide (0 < x1) = bS) (hi1 : g1 = true → bC = true) (hi2 : g2 = true → bS = false) (hvC : CV w 40 #[.slice AC nC cC, .int .i64 k] (.bool bC)) (hvS : CV w 40 #[.slice AS nS cS, .int .i64 k] (.bool bS)) : OpOk Try.prog opsTt18 (wordsTt18 p1 nC cC nS cS k AC AS e has x1 y1 g1 g2 bC bS) 153 a w 41 := by
  refine OpOk.gen rfl (fun a1 w1 H => ?_)
  have d33 : a1.eval (.tmp 134) = .bool false := H.dep 33 134 rfl (by kernel_rfl)
  have d40 : a1.eval (.tmp 141) = .bool false := H.dep 40 141 rfl (by kernel_rfl)
  refine gd_none ?_
  exact OpW.pick (b := false) d33 d40
set_option maxRecDepth 10000 in
theorem okTt18_42 {p1 nC cC nS cS k : Nat} {AC AS : Option Addr} {e has x1 y1 : Int} {g1 g2 bC bS : Bool} {a : Act} {w : World} (t14 : a.eval (.tmp 14) = .slice AC nC cC) (t15 : a.eval (.tmp 15) = .slice AS nS cS) (t20 : a.eval (.tmp 20) = .int .i64 k) (t21 : a.eval (.tmp 21) = .pointer (some ⟨p1, 0, none⟩)) (t22 : a.eval (.tmp 22) = .int .i64 e) (t23 : a.eval (.tmp 23) = .int .i64 has) (m0 : w.cell? ⟨p1, 0, none⟩ = some (.int .i64 x1)) (m1 : w.cell? ⟨p1, 1, none⟩ = some (.int .i64 y1)) (he : e = 0) (h1 : x1 ≤ has) (h2 : has ≤ y1) (hg1 : decide (0 < has) = g1) (hg2 : decide (has = 0) = g2) (hbC : decide (0 < y1) = bC) (hbS : decide (0 < x1) = bS) (hi1 : g1 = true → bC = true) (hi2 : g2 = true → bS = false) (hvC : CV w 40 #[.slice AC nC cC, .int .i64 k] (.bool bC)) (hvS : CV w 40 #[.slice AS nS cS, .int .i64 k] (.bool bS)) : OpOk Try.prog opsTt18 (wordsTt18 p1 nC cC nS cS k AC AS e has x1 y1 g1 g2 bC bS) 153 a w 42 := by
  refine OpOk.gen rfl (fun a1 w1 H => ?_)
  have d41 : a1.eval (.tmp 142) = .bool false := H.dep 41 142 rfl (by kernel_rfl)
  refine gd_none ?_
  exact OpW.move d41 rfl
set_option maxRecDepth 10000 in
theorem okTt18_43 {p1 nC cC nS cS k : Nat} {AC AS : Option Addr} {e has x1 y1 : Int} {g1 g2 bC bS : Bool} {a : Act} {w : World} (t14 : a.eval (.tmp 14) = .slice AC nC cC) (t15 : a.eval (.tmp 15) = .slice AS nS cS) (t20 : a.eval (.tmp 20) = .int .i64 k) (t21 : a.eval (.tmp 21) = .pointer (some ⟨p1, 0, none⟩)) (t22 : a.eval (.tmp 22) = .int .i64 e) (t23 : a.eval (.tmp 23) = .int .i64 has) (m0 : w.cell? ⟨p1, 0, none⟩ = some (.int .i64 x1)) (m1 : w.cell? ⟨p1, 1, none⟩ = some (.int .i64 y1)) (he : e = 0) (h1 : x1 ≤ has) (h2 : has ≤ y1) (hg1 : decide (0 < has) = g1) (hg2 : decide (has = 0) = g2) (hbC : decide (0 < y1) = bC) (hbS : decide (0 < x1) = bS) (hi1 : g1 = true → bC = true) (hi2 : g2 = true → bS = false) (hvC : CV w 40 #[.slice AC nC cC, .int .i64 k] (.bool bC)) (hvS : CV w 40 #[.slice AS nS cS, .int .i64 k] (.bool bS)) : OpOk Try.prog opsTt18 (wordsTt18 p1 nC cC nS cS k AC AS e has x1 y1 g1 g2 bC bS) 153 a w 43 := by
  refine OpOk.gen rfl (fun a1 w1 H => ?_)
  have d42 : a1.eval (.tmp 143) = .bool false := H.dep 42 143 rfl (by kernel_rfl)
  have e15 : a1.eval (.tmp 15) = .slice AS nS cS := (H.out 15 (by kernel_rfl)).trans t15
  refine gd_true rfl d42 ?_
  exact OpW.move e15 rfl
set_option maxRecDepth 10000 in
theorem okTt18_44 {p1 nC cC nS cS k : Nat} {AC AS : Option Addr} {e has x1 y1 : Int} {g1 g2 bC bS : Bool} {a : Act} {w : World} (t14 : a.eval (.tmp 14) = .slice AC nC cC) (t15 : a.eval (.tmp 15) = .slice AS nS cS) (t20 : a.eval (.tmp 20) = .int .i64 k) (t21 : a.eval (.tmp 21) = .pointer (some ⟨p1, 0, none⟩)) (t22 : a.eval (.tmp 22) = .int .i64 e) (t23 : a.eval (.tmp 23) = .int .i64 has) (m0 : w.cell? ⟨p1, 0, none⟩ = some (.int .i64 x1)) (m1 : w.cell? ⟨p1, 1, none⟩ = some (.int .i64 y1)) (he : e = 0) (h1 : x1 ≤ has) (h2 : has ≤ y1) (hg1 : decide (0 < has) = g1) (hg2 : decide (has = 0) = g2) (hbC : decide (0 < y1) = bC) (hbS : decide (0 < x1) = bS) (hi1 : g1 = true → bC = true) (hi2 : g2 = true → bS = false) (hvC : CV w 40 #[.slice AC nC cC, .int .i64 k] (.bool bC)) (hvS : CV w 40 #[.slice AS nS cS, .int .i64 k] (.bool bS)) : OpOk Try.prog opsTt18 (wordsTt18 p1 nC cC nS cS k AC AS e has x1 y1 g1 g2 bC bS) 153 a w 44 := by
  refine OpOk.gen rfl (fun a1 w1 H => ?_)
  have d42 : a1.eval (.tmp 143) = .bool false := H.dep 42 143 rfl (by kernel_rfl)
  have e20 : a1.eval (.tmp 20) = .int .i64 k := (H.out 20 (by kernel_rfl)).trans t20
  refine gd_true rfl d42 ?_
  exact OpW.move e20 rfl
set_option maxRecDepth 10000 in
theorem okTt18_45 {p1 nC cC nS cS k : Nat} {AC AS : Option Addr} {e has x1 y1 : Int} {g1 g2 bC bS : Bool} {a : Act} {w : World} (t14 : a.eval (.tmp 14) = .slice AC nC cC) (t15 : a.eval (.tmp 15) = .slice AS nS cS) (t20 : a.eval (.tmp 20) = .int .i64 k) (t21 : a.eval (.tmp 21) = .pointer (some ⟨p1, 0, none⟩)) (t22 : a.eval (.tmp 22) = .int .i64 e) (t23 : a.eval (.tmp 23) = .int .i64 has) (m0 : w.cell? ⟨p1, 0, none⟩ = some (.int .i64 x1)) (m1 : w.cell? ⟨p1, 1, none⟩ = some (.int .i64 y1)) (he : e = 0) (h1 : x1 ≤ has) (h2 : has ≤ y1) (hg1 : decide (0 < has) = g1) (hg2 : decide (has = 0) = g2) (hbC : decide (0 < y1) = bC) (hbS : decide (0 < x1) = bS) (hi1 : g1 = true → bC = true) (hi2 : g2 = true → bS = false) (hvC : CV w 40 #[.slice AC nC cC, .int .i64 k] (.bool bC)) (hvS : CV w 40 #[.slice AS nS cS, .int .i64 k] (.bool bS)) : OpOk Try.prog opsTt18 (wordsTt18 p1 nC cC nS cS k AC AS e has x1 y1 g1 g2 bC bS) 153 a w 45 := by
  refine OpOk.gen rfl (fun a1 w1 H => ?_)
  have d42 : a1.eval (.tmp 143) = .bool false := H.dep 42 143 rfl (by kernel_rfl)
  have d43 : a1.eval (.tmp 144) = .slice AS nS cS := H.dep 43 144 rfl (by kernel_rfl)
  have d44 : a1.eval (.tmp 145) = .int .i64 k := H.dep 44 145 rfl (by kernel_rfl)
  refine gd_true rfl d42 ?_
  exact OpW.call (vs := #[.slice AS nS cS, .int .i64 k]) (enters_of Try.func40 (by kernel_rfl) rfl) (by simp [d43, d44]) (hvS w1 H.low)
set_option maxRecDepth 10000 in
theorem okTt18_46 {p1 nC cC nS cS k : Nat} {AC AS : Option Addr} {e has x1 y1 : Int} {g1 g2 bC bS : Bool} {a : Act} {w : World} (t14 : a.eval (.tmp 14) = .slice AC nC cC) (t15 : a.eval (.tmp 15) = .slice AS nS cS) (t20 : a.eval (.tmp 20) = .int .i64 k) (t21 : a.eval (.tmp 21) = .pointer (some ⟨p1, 0, none⟩)) (t22 : a.eval (.tmp 22) = .int .i64 e) (t23 : a.eval (.tmp 23) = .int .i64 has) (m0 : w.cell? ⟨p1, 0, none⟩ = some (.int .i64 x1)) (m1 : w.cell? ⟨p1, 1, none⟩ = some (.int .i64 y1)) (he : e = 0) (h1 : x1 ≤ has) (h2 : has ≤ y1) (hg1 : decide (0 < has) = g1) (hg2 : decide (has = 0) = g2) (hbC : decide (0 < y1) = bC) (hbS : decide (0 < x1) = bS) (hi1 : g1 = true → bC = true) (hi2 : g2 = true → bS = false) (hvC : CV w 40 #[.slice AC nC cC, .int .i64 k] (.bool bC)) (hvS : CV w 40 #[.slice AS nS cS, .int .i64 k] (.bool bS)) : OpOk Try.prog opsTt18 (wordsTt18 p1 nC cC nS cS k AC AS e has x1 y1 g1 g2 bC bS) 153 a w 46 := by
  refine OpOk.gen rfl (fun a1 w1 H => ?_)
  have d42 : a1.eval (.tmp 143) = .bool false := H.dep 42 143 rfl (by kernel_rfl)
  have e21 : a1.eval (.tmp 21) = .pointer (some ⟨p1, 0, none⟩) := (H.out 21 (by kernel_rfl)).trans t21
  refine gd_true rfl d42 ?_
  exact OpW.field e21 (fa46_0 _) rfl
set_option maxRecDepth 10000 in
theorem okTt18_47 {p1 nC cC nS cS k : Nat} {AC AS : Option Addr} {e has x1 y1 : Int} {g1 g2 bC bS : Bool} {a : Act} {w : World} (t14 : a.eval (.tmp 14) = .slice AC nC cC) (t15 : a.eval (.tmp 15) = .slice AS nS cS) (t20 : a.eval (.tmp 20) = .int .i64 k) (t21 : a.eval (.tmp 21) = .pointer (some ⟨p1, 0, none⟩)) (t22 : a.eval (.tmp 22) = .int .i64 e) (t23 : a.eval (.tmp 23) = .int .i64 has) (m0 : w.cell? ⟨p1, 0, none⟩ = some (.int .i64 x1)) (m1 : w.cell? ⟨p1, 1, none⟩ = some (.int .i64 y1)) (he : e = 0) (h1 : x1 ≤ has) (h2 : has ≤ y1) (hg1 : decide (0 < has) = g1) (hg2 : decide (has = 0) = g2) (hbC : decide (0 < y1) = bC) (hbS : decide (0 < x1) = bS) (hi1 : g1 = true → bC = true) (hi2 : g2 = true → bS = false) (hvC : CV w 40 #[.slice AC nC cC, .int .i64 k] (.bool bC)) (hvS : CV w 40 #[.slice AS nS cS, .int .i64 k] (.bool bS)) : OpOk Try.prog opsTt18 (wordsTt18 p1 nC cC nS cS k AC AS e has x1 y1 g1 g2 bC bS) 153 a w 47 := by
  refine OpOk.gen rfl (fun a1 w1 H => ?_)
  have d42 : a1.eval (.tmp 143) = .bool false := H.dep 42 143 rfl (by kernel_rfl)
  have d46 : a1.eval (.tmp 147) = .pointer (some ⟨p1, 0, none⟩) := H.dep 46 147 rfl (by kernel_rfl)
  refine gd_true rfl d42 ?_
  exact OpW.load d46 (ld3 (H.cell m0)) rfl
set_option maxRecDepth 10000 in
theorem okTt18_48 {p1 nC cC nS cS k : Nat} {AC AS : Option Addr} {e has x1 y1 : Int} {g1 g2 bC bS : Bool} {a : Act} {w : World} (t14 : a.eval (.tmp 14) = .slice AC nC cC) (t15 : a.eval (.tmp 15) = .slice AS nS cS) (t20 : a.eval (.tmp 20) = .int .i64 k) (t21 : a.eval (.tmp 21) = .pointer (some ⟨p1, 0, none⟩)) (t22 : a.eval (.tmp 22) = .int .i64 e) (t23 : a.eval (.tmp 23) = .int .i64 has) (m0 : w.cell? ⟨p1, 0, none⟩ = some (.int .i64 x1)) (m1 : w.cell? ⟨p1, 1, none⟩ = some (.int .i64 y1)) (he : e = 0) (h1 : x1 ≤ has) (h2 : has ≤ y1) (hg1 : decide (0 < has) = g1) (hg2 : decide (has = 0) = g2) (hbC : decide (0 < y1) = bC) (hbS : decide (0 < x1) = bS) (hi1 : g1 = true → bC = true) (hi2 : g2 = true → bS = false) (hvC : CV w 40 #[.slice AC nC cC, .int .i64 k] (.bool bC)) (hvS : CV w 40 #[.slice AS nS cS, .int .i64 k] (.bool bS)) : OpOk Try.prog opsTt18 (wordsTt18 p1 nC cC nS cS k AC AS e has x1 y1 g1 g2 bC bS) 153 a w 48 := by
  refine OpOk.gen rfl (fun a1 w1 H => ?_)
  have d42 : a1.eval (.tmp 143) = .bool false := H.dep 42 143 rfl (by kernel_rfl)
  have d47 : a1.eval (.tmp 148) = .int .i64 x1 := H.dep 47 148 rfl (by kernel_rfl)
  refine gd_true rfl d42 ?_
  exact OpW.bin d47 rfl (gtrB hbS _) rfl
set_option maxRecDepth 10000 in
theorem okTt18_49 {p1 nC cC nS cS k : Nat} {AC AS : Option Addr} {e has x1 y1 : Int} {g1 g2 bC bS : Bool} {a : Act} {w : World} (t14 : a.eval (.tmp 14) = .slice AC nC cC) (t15 : a.eval (.tmp 15) = .slice AS nS cS) (t20 : a.eval (.tmp 20) = .int .i64 k) (t21 : a.eval (.tmp 21) = .pointer (some ⟨p1, 0, none⟩)) (t22 : a.eval (.tmp 22) = .int .i64 e) (t23 : a.eval (.tmp 23) = .int .i64 has) (m0 : w.cell? ⟨p1, 0, none⟩ = some (.int .i64 x1)) (m1 : w.cell? ⟨p1, 1, none⟩ = some (.int .i64 y1)) (he : e = 0) (h1 : x1 ≤ has) (h2 : has ≤ y1) (hg1 : decide (0 < has) = g1) (hg2 : decide (has = 0) = g2) (hbC : decide (0 < y1) = bC) (hbS : decide (0 < x1) = bS) (hi1 : g1 = true → bC = true) (hi2 : g2 = true → bS = false) (hvC : CV w 40 #[.slice AC nC cC, .int .i64 k] (.bool bC)) (hvS : CV w 40 #[.slice AS nS cS, .int .i64 k] (.bool bS)) : OpOk Try.prog opsTt18 (wordsTt18 p1 nC cC nS cS k AC AS e has x1 y1 g1 g2 bC bS) 153 a w 49 := by
  refine OpOk.gen rfl (fun a1 w1 H => ?_)
  have d42 : a1.eval (.tmp 143) = .bool false := H.dep 42 143 rfl (by kernel_rfl)
  have d45 : a1.eval (.tmp 146) = .bool bS := H.dep 45 146 rfl (by kernel_rfl)
  have d48 : a1.eval (.tmp 149) = .bool bS := H.dep 48 149 rfl (by kernel_rfl)
  refine gd_true rfl d42 ?_
  exact OpW.bin d45 d48 (nq4S _ _) rfl
set_option maxRecDepth 10000 in
theorem okTt18_50 {p1 nC cC nS cS k : Nat} {AC AS : Option Addr} {e has x1 y1 : Int} {g1 g2 bC bS : Bool} {a : Act} {w : World} (t14 : a.eval (.tmp 14) = .slice AC nC cC) (t15 : a.eval (.tmp 15) = .slice AS nS cS) (t20 : a.eval (.tmp 20) = .int .i64 k) (t21 : a.eval (.tmp 21) = .pointer (some ⟨p1, 0, none⟩)) (t22 : a.eval (.tmp 22) = .int .i64 e) (t23 : a.eval (.tmp 23) = .int .i64 has) (m0 : w.cell? ⟨p1, 0, none⟩ = some (.int .i64 x1)) (m1 : w.cell? ⟨p1, 1, none⟩ = some (.int .i64 y1)) (he : e = 0) (h1 : x1 ≤ has) (h2 : has ≤ y1) (hg1 : decide (0 < has) = g1) (hg2 : decide (has = 0) = g2) (hbC : decide (0 < y1) = bC) (hbS : decide (0 < x1) = bS) (hi1 : g1 = true → bC = true) (hi2 : g2 = true → bS = false) (hvC : CV w 40 #[.slice AC nC cC, .int .i64 k] (.bool bC)) (hvS : CV w 40 #[.slice AS nS cS, .int .i64 k] (.bool bS)) : OpOk Try.prog opsTt18 (wordsTt18 p1 nC cC nS cS k AC AS e has x1 y1 g1 g2 bC bS) 153 a w 50 := by
  refine OpOk.gen rfl (fun a1 w1 H => ?_)
  have d42 : a1.eval (.tmp 143) = .bool false := H.dep 42 143 rfl (by kernel_rfl)
  have d49 : a1.eval (.tmp 150) = .bool false := H.dep 49 150 rfl (by kernel_rfl)
  refine gd_none ?_
  exact OpW.pick (b := false) d42 d49
set_option maxRecDepth 10000 in
theorem regionTt18 {F : Fence} {n : Nat} (hF : WideF F Try.prog) {Q : Exit → Act → World → Prop} {p1 nC cC nS cS k : Nat} {AC AS : Option Addr} {e has x1 y1 : Int} {g1 g2 bC bS : Bool} {a : Act} {w : World} (hsz : a.tmps.size = 153)
    (t14 : a.eval (.tmp 14) = .slice AC nC cC) (t15 : a.eval (.tmp 15) = .slice AS nS cS) (t20 : a.eval (.tmp 20) = .int .i64 k) (t21 : a.eval (.tmp 21) = .pointer (some ⟨p1, 0, none⟩)) (t22 : a.eval (.tmp 22) = .int .i64 e) (t23 : a.eval (.tmp 23) = .int .i64 has) (m0 : w.cell? ⟨p1, 0, none⟩ = some (.int .i64 x1)) (m1 : w.cell? ⟨p1, 1, none⟩ = some (.int .i64 y1)) (he : e = 0) (h1 : x1 ≤ has) (h2 : has ≤ y1) (hg1 : decide (0 < has) = g1) (hg2 : decide (has = 0) = g2) (hbC : decide (0 < y1) = bC) (hbS : decide (0 < x1) = bS) (hi1 : g1 = true → bC = true) (hi2 : g2 = true → bS = false) (hvC : CV w 40 #[.slice AC nC cC, .int .i64 k] (.bool bC)) (hvS : CV w 40 #[.slice AS nS cS, .int .i64 k] (.bool bS))
    (hK : ∀ (a' : Act) (w' : World), a'.tmps.size = 153 → a'.defers = a.defers → Below w.heap.size w w' → (∀ e, ndstB opsTt18 e = true → a'.eval (.tmp e) = a.eval (.tmp e)) → (∀ (j d : Nat), (opsTt18[j]?).bind (·.dst) = some d → (wordsTt18 p1 nC cC nS cS k AC AS e has x1 y1 g1 g2 bC bS).at_ j (a'.eval (.tmp d)) w') → Q .normal a' w') :
    (Code.region 18 opsTt18 true).wpIn F n Try.prog Q a w := by
  refine region_S (wordsTt18 p1 nC cC nS cS k AC AS e has x1 y1 g1 g2 bC bS) 153 hF (by kernel_rfl) Try.mixed (by kernel_rfl) (by kernel_rfl) ?_ hsz 51 (by kernel_rfl) ?_ hK
  · exact ⟨(fun _ _ _ h _ => h), (fun _ _ _ h _ => h), (fun _ _ _ h _ => h), (fun _ _ _ h _ => h), (fun _ _ _ h _ => h), (fun _ _ _ h _ => h), (fun _ _ _ h _ => h), (fun _ _ _ h _ => h), (fun _ _ _ h _ => h), (fun _ _ _ h _ => h), (fun _ _ _ h _ => h), (fun _ _ _ h _ => h), (fun _ _ _ h _ => h), (fun _ _ _ h _ => h), (fun _ _ _ h _ => h), (fun _ _ _ h _ => h), (fun _ _ _ h _ => h), (fun _ _ _ h _ => h), (StableW.imp (fun _ _ _ h _ => h)), (StableW.imp (fun _ _ _ h _ => h)), (StableW.imp (fun _ _ _ h _ => h)), (StableW.imp (fun _ _ _ h _ => h)), (fun _ _ _ h _ => h), (fun _ _ _ h _ => h), (fun _ _ _ h _ => h), (fun _ _ _ h _ => h), (fun _ _ _ h _ => h), (fun _ _ _ h _ => h), (StableW.imp (fun _ _ _ h _ => h)), (StableW.imp (fun _ _ _ h _ => h)), (StableW.imp (fun _ _ _ h _ => h)), (fun _ _ _ h _ => h), (fun _ _ _ h _ => h), (fun _ _ _ h _ => h), (fun _ _ _ h _ => h), (fun _ _ _ h _ => h), (fun _ _ _ h _ => h), (fun _ _ _ h _ => h), (fun _ _ _ h _ => h), (fun _ _ _ h _ => h), (fun _ _ _ h _ => h), (fun _ _ _ h _ => h), (fun _ _ _ h _ => h), (fun _ _ _ h _ => h), (fun _ _ _ h _ => h), (fun _ _ _ h _ => h), (fun _ _ _ h _ => h), (fun _ _ _ h _ => h), (fun _ _ _ h _ => h), (fun _ _ _ h _ => h), (fun _ _ _ h _ => h), trivial⟩
  · exact ⟨⟨⟨⟨⟨⟨⟨⟨⟨⟨⟨⟨⟨⟨⟨⟨⟨⟨⟨⟨⟨⟨⟨⟨⟨⟨⟨⟨⟨⟨⟨⟨⟨⟨⟨⟨⟨⟨⟨⟨⟨⟨⟨⟨⟨⟨⟨⟨⟨⟨⟨trivial, okTt18_0 t14 t15 t20 t21 t22 t23 m0 m1 he h1 h2 hg1 hg2 hbC hbS hi1 hi2 hvC.drew hvS.drew⟩, okTt18_1 t14 t15 t20 t21 t22 t23 m0 m1 he h1 h2 hg1 hg2 hbC hbS hi1 hi2 hvC.drew hvS.drew⟩, okTt18_2 t14 t15 t20 t21 t22 t23 m0 m1 he h1 h2 hg1 hg2 hbC hbS hi1 hi2 hvC.drew hvS.drew⟩, okTt18_3 t14 t15 t20 t21 t22 t23 m0 m1 he h1 h2 hg1 hg2 hbC hbS hi1 hi2 hvC.drew hvS.drew⟩, okTt18_4 t14 t15 t20 t21 t22 t23 m0 m1 he h1 h2 hg1 hg2 hbC hbS hi1 hi2 hvC.drew hvS.drew⟩, okTt18_5 t14 t15 t20 t21 t22 t23 m0 m1 he h1 h2 hg1 hg2 hbC hbS hi1 hi2 hvC.drew hvS.drew⟩, okTt18_6 t14 t15 t20 t21 t22 t23 m0 m1 he h1 h2 hg1 hg2 hbC hbS hi1 hi2 hvC.drew hvS.drew⟩, okTt18_7 t14 t15 t20 t21 t22 t23 m0 m1 he h1 h2 hg1 hg2 hbC hbS hi1 hi2 hvC.drew hvS.drew⟩, okTt18_8 t14 t15 t20 t21 t22 t23 m0 m1 he h1 h2 hg1 hg2 hbC hbS hi1 hi2 hvC.drew hvS.drew⟩, okTt18_9 t14 t15 t20 t21 t22 t23 m0 m1 he h1 h2 hg1 hg2 hbC hbS hi1 hi2 hvC.drew hvS.drew⟩, okTt18_10 t14 t15 t20 t21 t22 t23 m0 m1 he h1 h2 hg1 hg2 hbC hbS hi1 hi2 hvC.drew hvS.drew⟩, okTt18_11 t14 t15 t20 t21 t22 t23 m0 m1 he h1 h2 hg1 hg2 hbC hbS hi1 hi2 hvC.drew hvS.drew⟩, okTt18_12 t14 t15 t20 t21 t22 t23 m0 m1 he h1 h2 hg1 hg2 hbC hbS hi1 hi2 hvC.drew hvS.drew⟩, okTt18_13 t14 t15 t20 t21 t22 t23 m0 m1 he h1 h2 hg1 hg2 hbC hbS hi1 hi2 hvC.drew hvS.drew⟩, okTt18_14 t14 t15 t20 t21 t22 t23 m0 m1 he h1 h2 hg1 hg2 hbC hbS hi1 hi2 hvC.drew hvS.drew⟩, okTt18_15 t14 t15 t20 t21 t22 t23 m0 m1 he h1 h2 hg1 hg2 hbC hbS hi1 hi2 hvC.drew hvS.drew⟩, okTt18_16 t14 t15 t20 t21 t22 t23 m0 m1 he h1 h2 hg1 hg2 hbC hbS hi1 hi2 hvC.drew hvS.drew⟩, okTt18_17 t14 t15 t20 t21 t22 t23 m0 m1 he h1 h2 hg1 hg2 hbC hbS hi1 hi2 hvC.drew hvS.drew⟩, okTt18_18 t14 t15 t20 t21 t22 t23 m0 m1 he h1 h2 hg1 hg2 hbC hbS hi1 hi2 hvC.drew hvS.drew⟩, okTt18_19 t14 t15 t20 t21 t22 t23 m0 m1 he h1 h2 hg1 hg2 hbC hbS hi1 hi2 hvC.drew hvS.drew⟩, okTt18_20 t14 t15 t20 t21 t22 t23 m0 m1 he h1 h2 hg1 hg2 hbC hbS hi1 hi2 hvC.drew hvS.drew⟩, okTt18_21 t14 t15 t20 t21 t22 t23 m0 m1 he h1 h2 hg1 hg2 hbC hbS hi1 hi2 hvC.drew hvS.drew⟩, okTt18_22 t14 t15 t20 t21 t22 t23 m0 m1 he h1 h2 hg1 hg2 hbC hbS hi1 hi2 hvC.drew hvS.drew⟩, okTt18_23 t14 t15 t20 t21 t22 t23 m0 m1 he h1 h2 hg1 hg2 hbC hbS hi1 hi2 hvC.drew hvS.drew⟩, okTt18_24 t14 t15 t20 t21 t22 t23 m0 m1 he h1 h2 hg1 hg2 hbC hbS hi1 hi2 hvC.drew hvS.drew⟩, okTt18_25 t14 t15 t20 t21 t22 t23 m0 m1 he h1 h2 hg1 hg2 hbC hbS hi1 hi2 hvC.drew hvS.drew⟩, okTt18_26 t14 t15 t20 t21 t22 t23 m0 m1 he h1 h2 hg1 hg2 hbC hbS hi1 hi2 hvC.drew hvS.drew⟩, okTt18_27 t14 t15 t20 t21 t22 t23 m0 m1 he h1 h2 hg1 hg2 hbC hbS hi1 hi2 hvC.drew hvS.drew⟩, okTt18_28 t14 t15 t20 t21 t22 t23 m0 m1 he h1 h2 hg1 hg2 hbC hbS hi1 hi2 hvC.drew hvS.drew⟩, okTt18_29 t14 t15 t20 t21 t22 t23 m0 m1 he h1 h2 hg1 hg2 hbC hbS hi1 hi2 hvC.drew hvS.drew⟩, okTt18_30 t14 t15 t20 t21 t22 t23 m0 m1 he h1 h2 hg1 hg2 hbC hbS hi1 hi2 hvC.drew hvS.drew⟩, okTt18_31 t14 t15 t20 t21 t22 t23 m0 m1 he h1 h2 hg1 hg2 hbC hbS hi1 hi2 hvC.drew hvS.drew⟩, okTt18_32 t14 t15 t20 t21 t22 t23 m0 m1 he h1 h2 hg1 hg2 hbC hbS hi1 hi2 hvC.drew hvS.drew⟩, okTt18_33 t14 t15 t20 t21 t22 t23 m0 m1 he h1 h2 hg1 hg2 hbC hbS hi1 hi2 hvC.drew hvS.drew⟩, okTt18_34 t14 t15 t20 t21 t22 t23 m0 m1 he h1 h2 hg1 hg2 hbC hbS hi1 hi2 hvC.drew hvS.drew⟩, okTt18_35 t14 t15 t20 t21 t22 t23 m0 m1 he h1 h2 hg1 hg2 hbC hbS hi1 hi2 hvC.drew hvS.drew⟩, okTt18_36 t14 t15 t20 t21 t22 t23 m0 m1 he h1 h2 hg1 hg2 hbC hbS hi1 hi2 hvC.drew hvS.drew⟩, okTt18_37 t14 t15 t20 t21 t22 t23 m0 m1 he h1 h2 hg1 hg2 hbC hbS hi1 hi2 hvC.drew hvS.drew⟩, okTt18_38 t14 t15 t20 t21 t22 t23 m0 m1 he h1 h2 hg1 hg2 hbC hbS hi1 hi2 hvC.drew hvS.drew⟩, okTt18_39 t14 t15 t20 t21 t22 t23 m0 m1 he h1 h2 hg1 hg2 hbC hbS hi1 hi2 hvC.drew hvS.drew⟩, okTt18_40 t14 t15 t20 t21 t22 t23 m0 m1 he h1 h2 hg1 hg2 hbC hbS hi1 hi2 hvC.drew hvS.drew⟩, okTt18_41 t14 t15 t20 t21 t22 t23 m0 m1 he h1 h2 hg1 hg2 hbC hbS hi1 hi2 hvC.drew hvS.drew⟩, okTt18_42 t14 t15 t20 t21 t22 t23 m0 m1 he h1 h2 hg1 hg2 hbC hbS hi1 hi2 hvC.drew hvS.drew⟩, okTt18_43 t14 t15 t20 t21 t22 t23 m0 m1 he h1 h2 hg1 hg2 hbC hbS hi1 hi2 hvC.drew hvS.drew⟩, okTt18_44 t14 t15 t20 t21 t22 t23 m0 m1 he h1 h2 hg1 hg2 hbC hbS hi1 hi2 hvC.drew hvS.drew⟩, okTt18_45 t14 t15 t20 t21 t22 t23 m0 m1 he h1 h2 hg1 hg2 hbC hbS hi1 hi2 hvC.drew hvS.drew⟩, okTt18_46 t14 t15 t20 t21 t22 t23 m0 m1 he h1 h2 hg1 hg2 hbC hbS hi1 hi2 hvC.drew hvS.drew⟩, okTt18_47 t14 t15 t20 t21 t22 t23 m0 m1 he h1 h2 hg1 hg2 hbC hbS hi1 hi2 hvC.drew hvS.drew⟩, okTt18_48 t14 t15 t20 t21 t22 t23 m0 m1 he h1 h2 hg1 hg2 hbC hbS hi1 hi2 hvC.drew hvS.drew⟩, okTt18_49 t14 t15 t20 t21 t22 t23 m0 m1 he h1 h2 hg1 hg2 hbC hbS hi1 hi2 hvC.drew hvS.drew⟩, okTt18_50 t14 t15 t20 t21 t22 t23 m0 m1 he h1 h2 hg1 hg2 hbC hbS hi1 hi2 hvC.drew hvS.drew⟩
end Go.Proofs.Ytfcnombmphophaa
namespace Go.Proofs.Ytfcnombmphophaa
open Go.RowKit Go.Shelf
noncomputable def opsTt0 : Array Oper := (Try.f8.body.bind (regionOf 0)).getD #[]
noncomputable def opsTt1 : Array Oper := (Try.f8.body.bind (regionOf 1)).getD #[]
noncomputable def opsTt2 : Array Oper := (Try.f8.body.bind (regionOf 2)).getD #[]
noncomputable def opsTt3 : Array Oper := (Try.f8.body.bind (regionOf 3)).getD #[]
noncomputable def opsTt4 : Array Oper := (Try.f8.body.bind (regionOf 4)).getD #[]
noncomputable def opsTt5 : Array Oper := (Try.f8.body.bind (regionOf 5)).getD #[]
noncomputable def opsTt6 : Array Oper := (Try.f8.body.bind (regionOf 6)).getD #[]
noncomputable def opsTt7 : Array Oper := (Try.f8.body.bind (regionOf 7)).getD #[]
noncomputable def opsTt8 : Array Oper := (Try.f8.body.bind (regionOf 8)).getD #[]
noncomputable def opsTt9 : Array Oper := (Try.f8.body.bind (regionOf 9)).getD #[]
noncomputable def opsTt10 : Array Oper := (Try.f8.body.bind (regionOf 10)).getD #[]
noncomputable def opsTt12 : Array Oper := (Try.f8.body.bind (regionOf 12)).getD #[]
noncomputable def opsTt13 : Array Oper := (Try.f8.body.bind (regionOf 13)).getD #[]
noncomputable def opsTt14 : Array Oper := (Try.f8.body.bind (regionOf 14)).getD #[]
noncomputable def opsTt15 : Array Oper := (Try.f8.body.bind (regionOf 15)).getD #[]
noncomputable def opsTt16 : Array Oper := (Try.f8.body.bind (regionOf 16)).getD #[]
noncomputable def opsTt17 : Array Oper := (Try.f8.body.bind (regionOf 17)).getD #[]
noncomputable def opsTt19 : Array Oper := (Try.f8.body.bind (regionOf 19)).getD #[]
noncomputable def opsTt20 : Array Oper := (Try.f8.body.bind (regionOf 20)).getD #[]
noncomputable def tt_d : Code := (.seq (.region 20 opsTt20 false) .ret)
noncomputable def tt_c : Code := (.seq (.seq (.region 13 opsTt13 false) (.block 2 (.loop (.seq (.seq (.region 14 opsTt14 false) (.cond (.tmp 85) .skip (.exit 2))) (.seq (.block 3 (.seq (.region 16 opsTt16 false) (.seq (.region 17 opsTt17 false) (.seq (.region 18 opsTt18 true) (.cond (.tmp 151) (.seq (.region 19 opsTt19 false) .ret) .skip))))) (.region 15 opsTt15 false)))))) tt_d)
noncomputable def tt_b : Code := (.seq (.seq (.region 7 opsTt7 false) (.block 0 (.loop (.seq (.seq (.region 8 opsTt8 false) (.cond (.tmp 53) .skip (.exit 0))) (.seq (.block 1 (.seq (.region 10 opsTt10 false) (.seq (.region 11 opsTt11 true) (.cond (.tmp 82) (.seq (.region 12 opsTt12 false) .ret) .skip)))) (.region 9 opsTt9 false)))))) tt_c)
noncomputable def code8 : Code := (.seq (.region 0 opsTt0 false) (.seq (.region 1 opsTt1 false) (.seq (.region 2 opsTt2 false) (.seq (.region 3 opsTt3 false) (.seq (.region 4 opsTt4 false) (.seq (.seq (.region 5 opsTt5 false) (.cond (.tmp 49) (.seq (.region 6 opsTt6 false) .ret) .skip)) tt_b))))))
theorem body8 : Try.f8.body = some code8 := by kernel_rfl
theorem hasI_app2 (l : List Int) (x n : Int) : hasI (l ++ [x]) n = (hasI l n || x == n) := by simp [hasI]
theorem can_has (t : Int) (l : List Sale) (on : Int) (k : Nat) : ∀ n : Nat, hasI (canTo t l on n) k = (decide (k < n) && decide (0 < (holdsR t l k on).2)) ∧ hasI (sureTo t l on n) k = (decide (k < n) && decide (0 < (holdsR t l k on).1))
  | 0 => by simp [canTo, sureTo, hasI]
  | n + 1 => by
    obtain ⟨h1, h2⟩ := can_has t l on k n
    have hb : ∀ p : Bool, (decide (k < n) && p || (p && ((n : Int) == (k : Int)))) = (decide (k < n + 1) && p) := fun p => by
      by_cases e : n = k
      · subst e
        cases p <;> simp
      · have e1 : ((n : Int) == (k : Int)) = false := by simp; omega
        have e2 : decide (k < n + 1) = decide (k < n) := by rw [decide_eq_decide]; omega
        rw [e1, e2]
        cases p <;> simp
    have hne : ¬ n = k → ((n : Int) == (k : Int)) = false := fun e => by simp; omega
    constructor
    · unfold canTo
      by_cases hp : 0 < (holdsR t l n on).2
      · rw [if_pos hp, hasI_app2, h1]
        by_cases e : n = k
        · subst e
          simp [hp]
        · rw [hne e, Bool.or_false]
          congr 1
          rw [decide_eq_decide]
          omega
      · rw [if_neg hp, h1]
        by_cases e : n = k
        · subst e
          simp [hp]
        · congr 1
          rw [decide_eq_decide]
          omega
    · unfold sureTo
      by_cases hp : 0 < (holdsR t l n on).1
      · rw [if_pos hp, hasI_app2, h2]
        by_cases e : n = k
        · subst e
          simp [hp]
        · rw [hne e, Bool.or_false]
          congr 1
          rw [decide_eq_decide]
          omega
      · rw [if_neg hp, h2]
        by_cases e : n = k
        · subst e
          simp [hp]
        · congr 1
          rw [decide_eq_decide]
          omega
theorem reachE_ok {o t : Int} {l : List Sale} (hv : Valid o t l) (hF : fitsB t l = true) {on : Int} (hon : 0 ≤ on ∧ on ≤ 100) : reachE o t l on = 0 := by
  unfold reachE
  rw [inR_iff.2 hon, triedE_valid hv, hF, if_pos rfl]
theorem reach_has {o t : Int} {l : List Sale} (hv : Valid o t l) (hF : fitsB t l = true) {on : Int} (hon : 0 ≤ on ∧ on ≤ 100) {k : Nat} (hk : (k : Int) < o) : hasI (reachC o t l on) k = decide (0 < (holdsR t l k on).2) ∧ hasI (reachS o t l on) k = decide (0 < (holdsR t l k on).1) := by
  have h := can_has t l on k o.toNat
  have hk' : k < o.toNat := by omega
  unfold reachC reachS
  rw [if_pos (reachE_ok hv hF hon), if_pos (reachE_ok hv hF hon), h.1, h.2]
  simp [hk']
/-- The frame in the loops; the memory. -/
def TtF (o on : Int) (pb nds c3 nC cC nS cS s k : Nat) (A3 AC AS : Option Addr) (a : Act) : Prop := a.tmps.size = 153 ∧ a.defers = [] ∧ a.eval (.tmp 9) = .int .i64 o ∧ a.eval (.tmp 11) = .pointer (some ⟨pb, 0, none⟩) ∧ a.eval (.tmp 12) = .slice A3 nds c3 ∧ a.eval (.tmp 13) = .int .i64 on ∧ a.eval (.tmp 14) = .slice AC nC cC ∧ a.eval (.tmp 15) = .slice AS nS cS ∧ a.eval (.tmp s) = .int .i64 k
def TtM (W : World) (pb : Nat) (o t : Int) (A A3 AC AS : Option Addr) (l : List Sale) (ds xC xS : List Int) (c : Nat) (W' : World) : Prop := Below W.heap.size W W' ∧ Whole W' pb 24 #[.int .i64 o, .int .i64 t, .slice A l.length c] ∧ SalesAt W' W'.heap.size A l ∧ IntsAt W' W'.heap.size A3 ds ∧ IntsAt W' W'.heap.size AC xC ∧ IntsAt W' W'.heap.size AS xS
section
variable {o t on : Int} {A A3 AC AS : Option Addr} {l : List Sale} {ds xC xS : List Int} {c c3 cC cS pb k : Nat} {a1 : Act} {W W1 : World} {Q : Exit → Act → World → Prop}
set_option maxRecDepth 10000 in
theorem tt9 (hk : k < 8) (hf : TtF o on pb ds.length c3 xC.length cC xS.length cS 17 k A3 AC AS a1) (hQ : ∀ a', TtF o on pb ds.length c3 xC.length cC xS.length cS 17 (k + 1) A3 AC AS a' → Q .normal a' W) : (Code.region 9 opsTt9 false).wpIn Fence.wide 5 Try.prog Q a1 W := by
  obtain ⟨hz_a1, hd_a1, u9, u11, u12, u13, u14, u15, u17⟩ := hf
  refine region_p 3 ?_
  intro K hK
  refine ListK.move (i := 0) (v := .int .i64 k) rfl (by simp [u17]) ?_
  refine ListK.bin (i := 1) (u := .int .i64 k) (u' := .int .i64 1) (v := .int .i64 (k + 1)) rfl (by simp [hz_a1]) (by simp) (add3 (by omega) (by omega) _) ?_
  refine ListK.assign (i := 2) (v := .int .i64 ((k + 1 : Nat) : Int)) rfl (by simp [hz_a1]) ?_
  skip
  exact ListK.done (hK _ _ (hQ _ ⟨(by simp only [size_put, hz_a1]), (by simp only [defers_put, hd_a1]), (by simp [u9]), (by simp [u11]), (by simp [u12]), (by simp [u13]), (by simp [u14]), (by simp [u15]), (by simp [hz_a1])⟩))
set_option maxRecDepth 10000 in
theorem tt15 (hk : k < 8) (hf : TtF o on pb ds.length c3 xC.length cC xS.length cS 20 k A3 AC AS a1) (hQ : ∀ a', TtF o on pb ds.length c3 xC.length cC xS.length cS 20 (k + 1) A3 AC AS a' → Q .normal a' W) : (Code.region 15 opsTt15 false).wpIn Fence.wide 5 Try.prog Q a1 W := by
  obtain ⟨hz_a1, hd_a1, u9, u11, u12, u13, u14, u15, u20⟩ := hf
  refine region_p 3 ?_
  intro K hK
  refine ListK.move (i := 0) (v := .int .i64 k) rfl (by simp [u20]) ?_
  refine ListK.bin (i := 1) (u := .int .i64 k) (u' := .int .i64 1) (v := .int .i64 (k + 1)) rfl (by simp [hz_a1]) (by simp) (add3 (by omega) (by omega) _) ?_
  refine ListK.assign (i := 2) (v := .int .i64 ((k + 1 : Nat) : Int)) rfl (by simp [hz_a1]) ?_
  skip
  exact ListK.done (hK _ _ (hQ _ ⟨(by simp only [size_put, hz_a1]), (by simp only [defers_put, hd_a1]), (by simp [u9]), (by simp [u11]), (by simp [u12]), (by simp [u13]), (by simp [u14]), (by simp [u15]), (by simp [hz_a1])⟩))
set_option maxRecDepth 10000 in
set_option maxHeartbeats 4000000 in
/-- A round of the first loop. -/
theorem tt10 (hk : k < ds.length) (hv : Valid o t l) (hp : TruP t l (dayPs l ds)) (hdl : ds.length = l.length) (hf : TtF o on pb ds.length c3 xC.length cC xS.length cS 17 k A3 AC AS a1) (hm : TtM W pb o t A A3 AC AS l ds xC xS c W1)
    (hQ : ∀ a' W', TtF o on pb ds.length c3 xC.length cC xS.length cS 17 k A3 AC AS a' → TtM W pb o t A A3 AC AS l ds xC xS c W' → Q .normal a' W') :
    (Code.seq (.region 10 opsTt10 false) (.seq (.region 11 opsTt11 true) (.cond (.tmp 82) (.seq (.region 12 opsTt12 false) .ret) .skip))).wpIn Fence.wide 5 Try.prog Q a1 W1 := by
  obtain ⟨hz_a1, hd_a1, u9, u11, u12, u13, u14, u15, u17⟩ := hf
  obtain ⟨hB1, wb, hs, hi3, hiC, hiS⟩ := hm
  have hl8 := hv.len
  have hkl : k < l.length := by omega
  obtain ⟨b3, hb3⟩ : ∃ b, W.heap.size = b := ⟨_, rfl⟩
  rw [hb3] at hB1
  refine wpIn_seq (region_p 10 ?_)
  intro K hK
  refine ListK.load (i := 0) (p := ⟨pb, 0, none⟩) (v := .agg #[.int .i64 o, .int .i64 t, .slice A l.length c]) rfl (by simp [u11]) (ld24 ⟨wb.cell 0, wb.cell 1, wb.cell 2⟩) ?_
  refine ListK.call (i := 1) (vs := #[.agg #[.int .i64 o, .int .i64 t, .slice A l.length c]]) rfl (enters_of Try.func18 (by kernel_rfl) rfl) (by simp [hz_a1]) (((batch_any o t A l c W1 (by omega) hs)).mono ?_)
  rintro _ W2 ⟨A_t1, c_t1, rfl, hs_t1, hb_t1⟩
  have hL_t1 := hB1.trans (hb_t1.mono (by have := hB1.size; omega))
  replace hs := (hs.below hb_t1 (Nat.le_refl _)).more hb_t1.size
  replace hi3 := (hi3.below hb_t1 (Nat.le_refl _)).more hb_t1.size
  replace hiC := (hiC.below hb_t1 (Nat.le_refl _)).more hb_t1.size
  replace hiS := (hiS.below hb_t1 (Nat.le_refl _)).more hb_t1.size
  replace wb := wb.below hb_t1 wb.lt
  replace hB1 := hL_t1
  refine ⟨_, rfl, ?_⟩
  refine ListK.move (i := 2) (v := .int .i64 k) rfl (by simp [u17]) ?_
  refine ListK.call (i := 3) (vs := #[.agg #[.int .i64 o, .int .i64 t, .slice A_t1 l.length c_t1], .int .i64 k]) rfl (enters_of Try.func29 (by kernel_rfl) rfl) (by simp [hz_a1]) (((when_any o t A_t1 l c_t1 k W2 (by omega) hs_t1)).mono ?_)
  rintro _ W3 ⟨rfl, hb_t2⟩
  have hL_t2 := hB1.trans (hb_t2.mono (by have := hB1.size; omega))
  replace hs := (hs.below hb_t2 (Nat.le_refl _)).more hb_t2.size
  replace hi3 := (hi3.below hb_t2 (Nat.le_refl _)).more hb_t2.size
  replace hiC := (hiC.below hb_t2 (Nat.le_refl _)).more hb_t2.size
  replace hiS := (hiS.below hb_t2 (Nat.le_refl _)).more hb_t2.size
  replace wb := wb.below hb_t2 wb.lt
  replace hB1 := hL_t2
  refine ⟨_, rfl, ?_⟩
  refine ListK.move (i := 4) (v := .tuple #[.agg #[.int .i64 (whenV o t l k).1, .int .i64 (whenV o t l k).2], .int .i64 (whenE o t l k)]) rfl (by simp [hz_a1]) ?_
  refine ListK.extract (i := 5) (u := .tuple #[.agg #[.int .i64 (whenV o t l k).1, .int .i64 (whenV o t l k).2], .int .i64 (whenE o t l k)]) (v := .agg #[.int .i64 (whenV o t l k).1, .int .i64 (whenV o t l k).2]) rfl (by simp [hz_a1]) (ex0 _ _ _) ?_
  refine ListK.extract (i := 6) (u := .tuple #[.agg #[.int .i64 (whenV o t l k).1, .int .i64 (whenV o t l k).2], .int .i64 (whenE o t l k)]) (v := .int .i64 (whenE o t l k)) rfl (by simp [hz_a1]) (ex1 _ _ _) ?_
  refine ListK.alloc (i := 7) rfl (al46 W3) ?_
  refine ListK.store (i := 8) (u := .pointer (some ⟨W3.heap.size, 0, none⟩)) (u' := .agg #[.int .i64 (whenV o t l k).1, .int .i64 (whenV o t l k).2]) rfl (by simp [hz_a1]) (by simp [hz_a1]) sa46 ?_
  refine ListK.assign (i := 9) (v := .int .i64 (whenE o t l k)) rfl (by simp [hz_a1]) ?_
  refine ListK.done (hK _ _ ?_)
  clear hK K
  obtain ⟨w_t3, hb_t3⟩ := put46 W3 ((whenV o t l k).1) ((whenV o t l k).2)
  have hL_t3 := hB1.trans (hb_t3.mono (by have := hB1.size; omega))
  replace hs := (hs.below hb_t3 (Nat.le_refl _)).more hb_t3.size
  replace hi3 := (hi3.below hb_t3 (Nat.le_refl _)).more hb_t3.size
  replace hiC := (hiC.below hb_t3 (Nat.le_refl _)).more hb_t3.size
  replace hiS := (hiS.below hb_t3 (Nat.le_refl _)).more hb_t3.size
  replace wb := wb.below hb_t3 wb.lt
  replace hB1 := hL_t3
  generalize W3.heap.size = p_t3 at *
  generalize ((W3.alloc (.cells #[.int .i64 0, .int .i64 0] 46)).setCell ⟨p_t3, 0, none⟩ (.int .i64 ((whenV o t l k).1))).setCell ⟨p_t3, 1, none⟩ (.int .i64 ((whenV o t l k).2)) = W4 at *
  generalize hA : Act.put _ _ _ = a2
  have hz_a2 : a2.tmps.size = 153 := by rw [← hA]; simp only [size_put, hz_a1]
  have v9 : a2.eval (.tmp 9) = .int .i64 o := by rw [← hA]; exact (by simp [u9])
  have v11 : a2.eval (.tmp 11) = .pointer (some ⟨pb, 0, none⟩) := by rw [← hA]; exact (by simp [u11])
  have v12 : a2.eval (.tmp 12) = .slice A3 ds.length c3 := by rw [← hA]; exact (by simp [u12])
  have v13 : a2.eval (.tmp 13) = .int .i64 on := by rw [← hA]; exact (by simp [u13])
  have v14 : a2.eval (.tmp 14) = .slice AC xC.length cC := by rw [← hA]; exact (by simp [u14])
  have v15 : a2.eval (.tmp 15) = .slice AS xS.length cS := by rw [← hA]; exact (by simp [u15])
  have v17 : a2.eval (.tmp 17) = .int .i64 k := by rw [← hA]; exact (by simp [u17])
  have v18 : a2.eval (.tmp 18) = .pointer (some ⟨p_t3, 0, none⟩) := by rw [← hA]; exact (by simp [hz_a1])
  have v19 : a2.eval (.tmp 19) = .int .i64 (whenE o t l k) := by rw [← hA]; exact (by simp [hz_a1])
  have hd_a2 : a2.defers = [] := by rw [← hA]; simp only [defers_put, hd_a1]
  clear hA
  have hF : fitsB t l = true := (fits_tru hv).2 ⟨_, hp⟩
  have hE := whenE_valid hv hkl
  have hV := whenV_valid hv hkl
  rw [hF, if_pos rfl] at hE hV
  have hmem : (k, ds[k]) ∈ dayPs l ds := by
    unfold dayPs
    have e : ((List.range l.length).zip ds)[k]? = some (k, ds[k]) := by
      rw [List.getElem?_zip_eq_some]
      exact ⟨List.getElem?_range hkl, List.getElem?_eq_getElem hk⟩
    exact List.mem_of_getElem? e
  obtain ⟨g1, g2⟩ := (when_sem hv hF hkl).1 _ _ hp hmem
  rw [← hV] at g1 g2
  obtain ⟨bd, od, e3, hbd, hcd⟩ := hi3 k _ (List.getElem?_eq_getElem hk)
  subst e3
  refine wpIn_seq (regionTt11 (wideF_plain _) hz_a2 v12 v17 v18 v19 hcd (w_t3.cell 0) (w_t3.cell 1) hE hk g1 g2 ?_)
  intro a3 W5 hz_a3 hd_t4 hb_t4 hr_t4 hw_t4
  have y9 : a3.eval (.tmp 9) = .int .i64 o := (hr_t4 9 (by kernel_rfl)).trans v9
  have y11 : a3.eval (.tmp 11) = .pointer (some ⟨pb, 0, none⟩) := (hr_t4 11 (by kernel_rfl)).trans v11
  have y12 : a3.eval (.tmp 12) = .slice (some ⟨bd, od, none⟩) ds.length c3 := (hr_t4 12 (by kernel_rfl)).trans v12
  have y13 : a3.eval (.tmp 13) = .int .i64 on := (hr_t4 13 (by kernel_rfl)).trans v13
  have y14 : a3.eval (.tmp 14) = .slice AC xC.length cC := (hr_t4 14 (by kernel_rfl)).trans v14
  have y15 : a3.eval (.tmp 15) = .slice AS xS.length cS := (hr_t4 15 (by kernel_rfl)).trans v15
  have y17 : a3.eval (.tmp 17) = .int .i64 k := (hr_t4 17 (by kernel_rfl)).trans v17
  have y82 : a3.eval (.tmp 82) = .bool false := hw_t4 19 82 (by kernel_rfl)
  have hd_a3 : a3.defers = [] := hd_t4.trans hd_a2
  have hL_t4 := hB1.trans (hb_t4.mono (by have := hB1.size; omega))
  replace hs := (hs.below hb_t4 (Nat.le_refl _)).more hb_t4.size
  replace hi3 := (hi3.below hb_t4 (Nat.le_refl _)).more hb_t4.size
  replace hiC := (hiC.below hb_t4 (Nat.le_refl _)).more hb_t4.size
  replace hiS := (hiS.below hb_t4 (Nat.le_refl _)).more hb_t4.size
  replace wb := wb.below hb_t4 wb.lt
  replace w_t3 := w_t3.below hb_t4 w_t3.lt
  replace hB1 := hL_t4
  clear hr_t4 hw_t4 hd_t4
  refine wpIn_cond (t := false) y82 (wpIn_skip ?_)
  exact hQ _ _ ⟨hz_a3, hd_a3, y9, y11, y12, y13, y14, y15, y17⟩ ⟨by rw [hb3]; exact hB1, wb, hs, hi3, hiC, hiS⟩
set_option maxRecDepth 10000 in
set_option maxHeartbeats 4000000 in
/-- A round of the second loop. -/
theorem tt16 (hk : (k : Int) < o) (hv : Valid o t l) (hp : TruP t l (dayPs l ds)) (hdl : ds.length = l.length) (hon0 : 0 ≤ on ∧ on ≤ 100) (hC : xC = reachC o t l on) (hS : xS = reachS o t l on) (hf : TtF o on pb ds.length c3 xC.length cC xS.length cS 20 k A3 AC AS a1) (hm : TtM W pb o t A A3 AC AS l ds xC xS c W1)
    (hQ : ∀ a' W', TtF o on pb ds.length c3 xC.length cC xS.length cS 20 k A3 AC AS a' → TtM W pb o t A A3 AC AS l ds xC xS c W' → Q .normal a' W') :
    (Code.seq (.region 16 opsTt16 false) (.seq (.region 17 opsTt17 false) (.seq (.region 18 opsTt18 true) (.cond (.tmp 151) (.seq (.region 19 opsTt19 false) .ret) .skip)))).wpIn Fence.wide 5 Try.prog Q a1 W1 := by
  obtain ⟨hz_a1, hd_a1, u9, u11, u12, u13, u14, u15, u20⟩ := hf
  obtain ⟨hB1, wb, hs, hi3, hiC, hiS⟩ := hm
  have hl8 := hv.len
  have ho6 := hv.o6
  have hvt := hv.t0
  have hvt1 := hv.t1
  have hmm : ∀ s, s ∈ l → 0 ≤ s.many ∧ s.many ≤ 1000 := fun s hs => by
    have := saleOk_facts (hv.ok s hs)
    omega
  obtain ⟨b3, hb3⟩ : ∃ b, W.heap.size = b := ⟨_, rfl⟩
  rw [hb3] at hB1
  refine wpIn_seq (region_p 11 ?_)
  intro K hK
  refine ListK.load (i := 0) (p := ⟨pb, 0, none⟩) (v := .agg #[.int .i64 o, .int .i64 t, .slice A l.length c]) rfl (by simp [u11]) (ld24 ⟨wb.cell 0, wb.cell 1, wb.cell 2⟩) ?_
  refine ListK.call (i := 1) (vs := #[.agg #[.int .i64 o, .int .i64 t, .slice A l.length c]]) rfl (enters_of Try.func18 (by kernel_rfl) rfl) (by simp [hz_a1]) (((batch_any o t A l c W1 (by omega) hs)).mono ?_)
  rintro _ W2 ⟨A_t1, c_t1, rfl, hs_t1, hb_t1⟩
  have hL_t1 := hB1.trans (hb_t1.mono (by have := hB1.size; omega))
  replace hs := (hs.below hb_t1 (Nat.le_refl _)).more hb_t1.size
  replace hi3 := (hi3.below hb_t1 (Nat.le_refl _)).more hb_t1.size
  replace hiC := (hiC.below hb_t1 (Nat.le_refl _)).more hb_t1.size
  replace hiS := (hiS.below hb_t1 (Nat.le_refl _)).more hb_t1.size
  replace wb := wb.below hb_t1 wb.lt
  replace hB1 := hL_t1
  refine ⟨_, rfl, ?_⟩
  refine ListK.move (i := 2) (v := .int .i64 k) rfl (by simp [u20]) ?_
  refine ListK.move (i := 3) (v := .int .i64 on) rfl (by simp [u13]) ?_
  refine ListK.call (i := 4) (vs := #[.agg #[.int .i64 o, .int .i64 t, .slice A_t1 l.length c_t1], .int .i64 k, .int .i64 on]) rfl (enters_of Try.func32 (by kernel_rfl) rfl) (by simp [hz_a1]) (((holds_api o t A_t1 l c_t1 k on W2 (by omega) hs_t1)).mono ?_)
  rintro _ W3 ⟨rfl, hb_t2⟩
  have hL_t2 := hB1.trans (hb_t2.mono (by have := hB1.size; omega))
  replace hs := (hs.below hb_t2 (Nat.le_refl _)).more hb_t2.size
  replace hi3 := (hi3.below hb_t2 (Nat.le_refl _)).more hb_t2.size
  replace hiC := (hiC.below hb_t2 (Nat.le_refl _)).more hb_t2.size
  replace hiS := (hiS.below hb_t2 (Nat.le_refl _)).more hb_t2.size
  replace wb := wb.below hb_t2 wb.lt
  replace hB1 := hL_t2
  refine ⟨_, rfl, ?_⟩
  refine ListK.move (i := 5) (v := .tuple #[.agg #[.int .i64 (holdsV o t l k on).1, .int .i64 (holdsV o t l k on).2], .int .i64 (holdsE o t l k on)]) rfl (by simp [hz_a1]) ?_
  refine ListK.extract (i := 6) (u := .tuple #[.agg #[.int .i64 (holdsV o t l k on).1, .int .i64 (holdsV o t l k on).2], .int .i64 (holdsE o t l k on)]) (v := .agg #[.int .i64 (holdsV o t l k on).1, .int .i64 (holdsV o t l k on).2]) rfl (by simp [hz_a1]) (ex0 _ _ _) ?_
  refine ListK.extract (i := 7) (u := .tuple #[.agg #[.int .i64 (holdsV o t l k on).1, .int .i64 (holdsV o t l k on).2], .int .i64 (holdsE o t l k on)]) (v := .int .i64 (holdsE o t l k on)) rfl (by simp [hz_a1]) (ex1 _ _ _) ?_
  refine ListK.alloc (i := 8) rfl (al46 W3) ?_
  refine ListK.store (i := 9) (u := .pointer (some ⟨W3.heap.size, 0, none⟩)) (u' := .agg #[.int .i64 (holdsV o t l k on).1, .int .i64 (holdsV o t l k on).2]) rfl (by simp [hz_a1]) (by simp [hz_a1]) sa46 ?_
  refine ListK.assign (i := 10) (v := .int .i64 (holdsE o t l k on)) rfl (by simp [hz_a1]) ?_
  refine ListK.done (hK _ _ ?_)
  clear hK K
  obtain ⟨w_t3, hb_t3⟩ := put46 W3 ((holdsV o t l k on).1) ((holdsV o t l k on).2)
  have hL_t3 := hB1.trans (hb_t3.mono (by have := hB1.size; omega))
  replace hs := (hs.below hb_t3 (Nat.le_refl _)).more hb_t3.size
  replace hi3 := (hi3.below hb_t3 (Nat.le_refl _)).more hb_t3.size
  replace hiC := (hiC.below hb_t3 (Nat.le_refl _)).more hb_t3.size
  replace hiS := (hiS.below hb_t3 (Nat.le_refl _)).more hb_t3.size
  replace wb := wb.below hb_t3 wb.lt
  replace hB1 := hL_t3
  generalize W3.heap.size = p_t3 at *
  generalize ((W3.alloc (.cells #[.int .i64 0, .int .i64 0] 46)).setCell ⟨p_t3, 0, none⟩ (.int .i64 ((holdsV o t l k on).1))).setCell ⟨p_t3, 1, none⟩ (.int .i64 ((holdsV o t l k on).2)) = W4 at *
  generalize hA : Act.put _ _ _ = a2
  have hz_a2 : a2.tmps.size = 153 := by rw [← hA]; simp only [size_put, hz_a1]
  have v9 : a2.eval (.tmp 9) = .int .i64 o := by rw [← hA]; exact (by simp [u9])
  have v11 : a2.eval (.tmp 11) = .pointer (some ⟨pb, 0, none⟩) := by rw [← hA]; exact (by simp [u11])
  have v12 : a2.eval (.tmp 12) = .slice A3 ds.length c3 := by rw [← hA]; exact (by simp [u12])
  have v13 : a2.eval (.tmp 13) = .int .i64 on := by rw [← hA]; exact (by simp [u13])
  have v14 : a2.eval (.tmp 14) = .slice AC xC.length cC := by rw [← hA]; exact (by simp [u14])
  have v15 : a2.eval (.tmp 15) = .slice AS xS.length cS := by rw [← hA]; exact (by simp [u15])
  have v20 : a2.eval (.tmp 20) = .int .i64 k := by rw [← hA]; exact (by simp [u20])
  have v21 : a2.eval (.tmp 21) = .pointer (some ⟨p_t3, 0, none⟩) := by rw [← hA]; exact (by simp [hz_a1])
  have v22 : a2.eval (.tmp 22) = .int .i64 (holdsE o t l k on) := by rw [← hA]; exact (by simp [hz_a1])
  have hd_a2 : a2.defers = [] := by rw [← hA]; simp only [defers_put, hd_a1]
  clear hA
  have hF : fitsB t l = true := (fits_tru hv).2 ⟨_, hp⟩
  have hE1 := holdsE_valid hv (ow := k) (by omega) hk hon0.1 hon0.2
  have hV1 := holdsV_valid hv (ow := k) (by omega) hk hon0.1 hon0.2
  rw [hF, if_pos rfl] at hE1 hV1
  rw [Int.toNat_natCast] at hV1
  obtain ⟨g1, g2, g3, g4⟩ := hold_facts hv hp hon0.1 hon0.2 (ow := k) hk
  obtain ⟨has, hhas⟩ : ∃ ev, stocksOf t l (eveSet (dayPs l ds) on) k = ev := ⟨_, rfl⟩
  have hst : stockR t l (eveL ds on ds.length) k = has := by rw [hdl, evening_tru hv hp (fun p hp => dayPs_mem hp) on k, hhas]
  refine wpIn_seq (region_p 6 ?_)
  intro K hK
  refine ListK.load (i := 0) (p := ⟨pb, 0, none⟩) (v := .agg #[.int .i64 o, .int .i64 t, .slice A l.length c]) rfl (by simp [v11]) (ld24 ⟨wb.cell 0, wb.cell 1, wb.cell 2⟩) ?_
  refine ListK.move (i := 1) (v := .slice A3 ds.length c3) rfl (by simp [v12]) ?_
  refine ListK.move (i := 2) (v := .int .i64 k) rfl (by simp [v20]) ?_
  refine ListK.move (i := 3) (v := .int .i64 on) rfl (by simp [v13]) ?_
  refine ListK.call (i := 4) (vs := #[.agg #[.int .i64 o, .int .i64 t, .slice A l.length c], .slice A3 ds.length c3, .int .i64 k, .int .i64 on]) rfl (enters_of Try.func34 (by kernel_rfl) rfl) (by simp [hz_a2]) (((evening_any2 o t k on A A3 l ds c c3 W4 (by omega) (by omega) hvt hvt1 hmm hs hi3)).mono ?_)
  rintro _ W5 ⟨rfl, hb_t4⟩
  rw [hst]
  have hL_t4 := hB1.trans (hb_t4.mono (by have := hB1.size; omega))
  replace hs := (hs.below hb_t4 (Nat.le_refl _)).more hb_t4.size
  replace hi3 := (hi3.below hb_t4 (Nat.le_refl _)).more hb_t4.size
  replace hiC := (hiC.below hb_t4 (Nat.le_refl _)).more hb_t4.size
  replace hiS := (hiS.below hb_t4 (Nat.le_refl _)).more hb_t4.size
  replace wb := wb.below hb_t4 wb.lt
  replace w_t3 := w_t3.below hb_t4 w_t3.lt
  replace hB1 := hL_t4
  refine ⟨_, rfl, ?_⟩
  refine ListK.assign (i := 5) (v := .int .i64 has) rfl (by simp [hz_a2]) ?_
  refine ListK.done (hK _ _ ?_)
  clear hK K
  generalize hA : Act.put _ _ _ = a3
  have hz_a3 : a3.tmps.size = 153 := by rw [← hA]; simp only [size_put, hz_a2]
  have x9 : a3.eval (.tmp 9) = .int .i64 o := by rw [← hA]; exact (by simp [v9])
  have x11 : a3.eval (.tmp 11) = .pointer (some ⟨pb, 0, none⟩) := by rw [← hA]; exact (by simp [v11])
  have x12 : a3.eval (.tmp 12) = .slice A3 ds.length c3 := by rw [← hA]; exact (by simp [v12])
  have x13 : a3.eval (.tmp 13) = .int .i64 on := by rw [← hA]; exact (by simp [v13])
  have x14 : a3.eval (.tmp 14) = .slice AC xC.length cC := by rw [← hA]; exact (by simp [v14])
  have x15 : a3.eval (.tmp 15) = .slice AS xS.length cS := by rw [← hA]; exact (by simp [v15])
  have x20 : a3.eval (.tmp 20) = .int .i64 k := by rw [← hA]; exact (by simp [v20])
  have x21 : a3.eval (.tmp 21) = .pointer (some ⟨p_t3, 0, none⟩) := by rw [← hA]; exact (by simp [v21])
  have x22 : a3.eval (.tmp 22) = .int .i64 (holdsE o t l k on) := by rw [← hA]; exact (by simp [v22])
  have x23 : a3.eval (.tmp 23) = .int .i64 has := by rw [← hA]; exact (by simp [hz_a2])
  have hd_a3 : a3.defers = [] := by rw [← hA]; simp only [defers_put, hd_a2]
  clear hA
  rw [hhas] at g2 g3
  obtain ⟨r1, r2⟩ := reach_has hv hF hon0 (k := k) hk
  rw [← hC, ← hV1] at r1
  rw [← hS, ← hV1] at r2
  rw [← hV1] at g1 g2 g3 g4
  have hxC : xC.length ≤ 1000000 := by
    rw [hC]
    have := canTo_length t l on o.toNat
    unfold reachC
    split
    · omega
    · simp
  have hxS : xS.length ≤ 1000000 := by
    rw [hS]
    have := sureTo_length t l on o.toNat
    unfold reachS
    split
    · omega
    · simp
  have hvC : CV W5 40 #[.slice AC xC.length cC, .int .i64 k] (.bool (hasI xC k)) := by
    intro W9 hb9
    refine (hasI_any AC cC xC k W9 hxC ((hiC.below hb9 (Nat.le_refl _)).more hb9.size)).mono ?_
    rintro e w' ⟨rfl, rfl⟩
    exact ⟨_, rfl, rfl, Below.refl _ _⟩
  have hvS : CV W5 40 #[.slice AS xS.length cS, .int .i64 k] (.bool (hasI xS k)) := by
    intro W9 hb9
    refine (hasI_any AS cS xS k W9 hxS ((hiS.below hb9 (Nat.le_refl _)).more hb9.size)).mono ?_
    rintro e w' ⟨rfl, rfl⟩
    exact ⟨_, rfl, rfl, Below.refl _ _⟩
  have hi1 : decide (0 < has) = true → hasI xC k = true := fun h => by
    rw [decide_eq_true_eq] at h
    rw [r1, decide_eq_true_eq]
    omega
  have hi2 : decide (has = 0) = true → hasI xS k = false := fun h => by
    rw [decide_eq_true_eq] at h
    rw [r2, decide_eq_false_iff_not]
    omega
  refine wpIn_seq (regionTt18 (wideF_plain _) hz_a3 x14 x15 x20 x21 x22 x23 (w_t3.cell 0) (w_t3.cell 1) hE1 g2 g3 rfl rfl r1.symm r2.symm hi1 hi2 hvC hvS ?_)
  intro a4 W6 hz_a4 hd_t5 hb_t5 hr_t5 hw_t5
  have y9 : a4.eval (.tmp 9) = .int .i64 o := (hr_t5 9 (by kernel_rfl)).trans x9
  have y11 : a4.eval (.tmp 11) = .pointer (some ⟨pb, 0, none⟩) := (hr_t5 11 (by kernel_rfl)).trans x11
  have y12 : a4.eval (.tmp 12) = .slice A3 ds.length c3 := (hr_t5 12 (by kernel_rfl)).trans x12
  have y13 : a4.eval (.tmp 13) = .int .i64 on := (hr_t5 13 (by kernel_rfl)).trans x13
  have y14 : a4.eval (.tmp 14) = .slice AC xC.length cC := (hr_t5 14 (by kernel_rfl)).trans x14
  have y15 : a4.eval (.tmp 15) = .slice AS xS.length cS := (hr_t5 15 (by kernel_rfl)).trans x15
  have y20 : a4.eval (.tmp 20) = .int .i64 k := (hr_t5 20 (by kernel_rfl)).trans x20
  have y151 : a4.eval (.tmp 151) = .bool false := hw_t5 50 151 (by kernel_rfl)
  have hd_a4 : a4.defers = [] := hd_t5.trans hd_a3
  have hL_t5 := hB1.trans (hb_t5.mono (by have := hB1.size; omega))
  replace hs := (hs.below hb_t5 (Nat.le_refl _)).more hb_t5.size
  replace hi3 := (hi3.below hb_t5 (Nat.le_refl _)).more hb_t5.size
  replace hiC := (hiC.below hb_t5 (Nat.le_refl _)).more hb_t5.size
  replace hiS := (hiS.below hb_t5 (Nat.le_refl _)).more hb_t5.size
  replace wb := wb.below hb_t5 wb.lt
  replace w_t3 := w_t3.below hb_t5 w_t3.lt
  replace hB1 := hL_t5
  clear hr_t5 hw_t5 hd_t5
  refine wpIn_cond (t := false) y151 (wpIn_skip ?_)
  exact hQ _ _ ⟨hz_a4, hd_a4, y9, y11, y12, y13, y14, y15, y20⟩ ⟨by rw [hb3]; exact hB1, wb, hs, hi3, hiC, hiS⟩
end
set_option maxRecDepth 10000 in
set_option maxHeartbeats 4000000 in
theorem truth_law (no nt nd : Nat) (A1 : Option Addr) (ws : List Nat) (c1 : Nat) (W : World) (h1 : no < 256) (h2 : nt < 65536) (hnd : nd < 256) (hw : WordsAt W W.heap.size A1 ws) :
    Calls Try.prog 8 #[.int .u8 no, .int .u16 nt, .slice A1 ws.length c1, .int .u8 nd] W (TP W true) := by
  refine (callsIn_wide (n := 5)).1 (callsIn_of_wp Try.func8 body8 trivial ?_ rfl)
  obtain ⟨a, ha⟩ : ∃ a : Act, a = { tmps := #[.int .u8 no, .int .u16 nt, .slice A1 ws.length c1, .int .u8 nd] ++ Array.replicate (Try.f8.ntmps - (#[.int .u8 no, .int .u16 nt, .slice A1 ws.length c1, .int .u8 nd] : Array Value).size) undef, defers := [] } := ⟨_, rfl⟩
  have hsz : a.tmps.size = 153 := by rw [ha]; simp [Try.ntmps8]
  have t0 : a.eval (.tmp 0) = .int .u8 no := by rw [ha]; simp [Act.eval]
  have t1 : a.eval (.tmp 1) = .int .u16 nt := by rw [ha]; simp [Act.eval]
  have t2 : a.eval (.tmp 2) = .slice A1 ws.length c1 := by rw [ha]; simp [Act.eval]
  have t3 : a.eval (.tmp 3) = .int .u8 nd := by rw [ha]; simp [Act.eval]
  have hdf : a.defers = [] := by rw [ha]
  rw [← ha]
  clear ha
  have hret : ∀ (a' : Act) (W' : World), a'.defers = [] → a'.eval (.tmp 8) = .bool true → Below W.heap.size W W' → bodyPost Try.prog Try.f8 (TP W true) .ret a' W' := fun a' W' hd h4 hb =>
    bodyPost_ret (v := .bool true) (res1 Try.results8 h4) hd ⟨rfl, hb⟩
  unfold code8
  obtain ⟨o, ho⟩ : ∃ o : Int, 1 + (no : Int) % 6 = o := ⟨_, rfl⟩
  obtain ⟨t, ht⟩ : ∃ t : Int, (nt : Int) % 1001 = t := ⟨_, rfl⟩
  obtain ⟨on, hon⟩ : ∃ on : Int, (nd : Int) % 101 = on := ⟨_, rfl⟩
  have hon0 : 0 ≤ on ∧ on ≤ 100 := by omega
  have hdr := drawn_any no nt W h1 h2
  rw [ho, ht] at hdr
  refine wpIn_seq (region_p 1 ?_)
  intro K hK
  refine ListK.assign (i := 0) (v := .bool false) rfl (by simp) ?_
  refine ListK.done (hK _ _ ?_)
  clear hK K
  generalize hA : Act.put _ _ _ = a1
  have hz_a1 : a1.tmps.size = 153 := by rw [← hA]; simp only [size_put, hsz]
  have u0 : a1.eval (.tmp 0) = .int .u8 no := by rw [← hA]; exact (by simp [t0])
  have u1 : a1.eval (.tmp 1) = .int .u16 nt := by rw [← hA]; exact (by simp [t1])
  have u2 : a1.eval (.tmp 2) = .slice A1 ws.length c1 := by rw [← hA]; exact (by simp [t2])
  have u3 : a1.eval (.tmp 3) = .int .u8 nd := by rw [← hA]; exact (by simp [t3])
  have hd_a1 : a1.defers = [] := by rw [← hA]; simp only [defers_put, hdf]
  clear hA
  refine wpIn_seq (region_p 8 ?_)
  intro K hK
  refine ListK.move (i := 0) (v := .int .u8 no) rfl (by simp [u0]) ?_
  refine ListK.move (i := 1) (v := .int .u16 nt) rfl (by simp [u1]) ?_
  refine ListK.call (i := 2) (vs := #[.int .u8 no, .int .u16 nt]) rfl (enters_of Try.func38 (by kernel_rfl) rfl) (by simp [hz_a1]) ((hdr).mono ?_)
  rintro _ W1 ⟨rfl, hb1⟩
  refine ⟨_, rfl, ?_⟩
  refine ListK.move (i := 3) (v := .tuple #[.int .i64 o, .int .i64 t]) rfl (by simp [hz_a1]) ?_
  refine ListK.extract (i := 4) (u := .tuple #[.int .i64 o, .int .i64 t]) (v := .int .i64 o) rfl (by simp [hz_a1]) (ex0 _ _ _) ?_
  refine ListK.extract (i := 5) (u := .tuple #[.int .i64 o, .int .i64 t]) (v := .int .i64 t) rfl (by simp [hz_a1]) (ex1 _ _ _) ?_
  refine ListK.assign (i := 6) (v := .int .i64 o) rfl (by simp [hz_a1]) ?_
  refine ListK.assign (i := 7) (v := .int .i64 t) rfl (by simp [hz_a1]) ?_
  refine ListK.done (hK _ _ ?_)
  clear hK K
  generalize hA : Act.put _ _ _ = a2
  have hz_a2 : a2.tmps.size = 153 := by rw [← hA]; simp only [size_put, hz_a1]
  have v2 : a2.eval (.tmp 2) = .slice A1 ws.length c1 := by rw [← hA]; exact (by simp [u2])
  have v3 : a2.eval (.tmp 3) = .int .u8 nd := by rw [← hA]; exact (by simp [u3])
  have v9 : a2.eval (.tmp 9) = .int .i64 o := by rw [← hA]; exact (by simp [hz_a1])
  have v10 : a2.eval (.tmp 10) = .int .i64 t := by rw [← hA]; exact (by simp [hz_a1])
  have hd_a2 : a2.defers = [] := by rw [← hA]; simp only [defers_put, hd_a1]
  clear hA
  have hw1 := hw.below hb1 hb1.size
  refine wpIn_seq (region_p 10 ?_)
  intro K hK
  refine ListK.move (i := 0) (v := .int .i64 o) rfl (by simp [v9]) ?_
  refine ListK.move (i := 1) (v := .int .i64 t) rfl (by simp [v10]) ?_
  refine ListK.move (i := 2) (v := .slice A1 ws.length c1) rfl (by simp [v2]) ?_
  refine ListK.call (i := 3) (vs := #[.int .i64 o, .int .i64 t, .slice A1 ws.length c1]) rfl (enters_of Try.func39 (by kernel_rfl) rfl) (by simp [hz_a2]) (((truth_by o t A1 ws c1 W1 (by omega) (by omega) (by omega) (by omega) hw1)).mono ?_)
  rintro _ W2 ⟨l, ds, A, c, A3, c3, rfl, hs, hi3, hb2, hv, hp, hdl⟩
  refine ⟨_, rfl, ?_⟩
  refine ListK.move (i := 4) (v := .tuple #[.agg #[.int .i64 o, .int .i64 t, .slice A l.length c], .slice A3 ds.length c3]) rfl (by simp [hz_a2]) ?_
  refine ListK.extract (i := 5) (u := .tuple #[.agg #[.int .i64 o, .int .i64 t, .slice A l.length c], .slice A3 ds.length c3]) (v := .agg #[.int .i64 o, .int .i64 t, .slice A l.length c]) rfl (by simp [hz_a2]) (ex0 _ _ _) ?_
  refine ListK.extract (i := 6) (u := .tuple #[.agg #[.int .i64 o, .int .i64 t, .slice A l.length c], .slice A3 ds.length c3]) (v := .slice A3 ds.length c3) rfl (by simp [hz_a2]) (ex1 _ _ _) ?_
  refine ListK.alloc (i := 7) rfl (al24 W2) ?_
  refine ListK.store (i := 8) (u := .pointer (some ⟨W2.heap.size, 0, none⟩)) (u' := .agg #[.int .i64 o, .int .i64 t, .slice A l.length c]) rfl (by simp [hz_a2]) (by simp [hz_a2]) (st24n W2 o t A l.length c) ?_
  refine ListK.assign (i := 9) (v := .slice A3 ds.length c3) rfl (by simp [hz_a2]) ?_
  refine ListK.done (hK _ _ ?_)
  clear hK K
  have wb := Whole.new W2 24 #[.int .i64 o, .int .i64 t, .slice A l.length c]
  have hb3 : Below W2.heap.size W2 (W2.alloc (.cells #[.int .i64 o, .int .i64 t, .slice A l.length c] 24)) := (Below.refl _ _).alloc (Nat.le_refl _) _
  have hb12 := hb1.trans (hb2.mono hb1.size)
  have hB1 := hb12.trans (hb3.mono hb12.size)
  replace hs := (hs.below hb3 (Nat.le_refl _)).more hb3.size
  replace hi3 := (hi3.below hb3 (Nat.le_refl _)).more hb3.size
  generalize W2.alloc (.cells #[.int .i64 o, .int .i64 t, .slice A l.length c] 24) = W3 at *
  obtain ⟨pb, hpb⟩ : ∃ p, W2.heap.size = p := ⟨_, rfl⟩
  rw [hpb] at wb
  simp only [hpb]
  generalize hA : Act.put _ _ _ = a3
  have hz_a3 : a3.tmps.size = 153 := by rw [← hA]; simp only [size_put, hz_a2]
  have x3 : a3.eval (.tmp 3) = .int .u8 nd := by rw [← hA]; exact (by simp [v3])
  have x9 : a3.eval (.tmp 9) = .int .i64 o := by rw [← hA]; exact (by simp [v9])
  have x11 : a3.eval (.tmp 11) = .pointer (some ⟨pb, 0, none⟩) := by rw [← hA]; exact (by simp [hz_a2])
  have x12 : a3.eval (.tmp 12) = .slice A3 ds.length c3 := by rw [← hA]; exact (by simp [hz_a2])
  have hd_a3 : a3.defers = [] := by rw [← hA]; simp only [defers_put, hd_a2]
  clear hA
  clear hb1 hb2 hb3 hw1 hdr hw hb12
  have hl8 := hv.len
  have ho6 := hv.o6
  have hF : fitsB t l = true := (fits_tru hv).2 ⟨_, hp⟩
  refine wpIn_seq (region_p 4 ?_)
  intro K hK
  refine ListK.move (i := 0) (v := .int .u8 nd) rfl (by simp [x3]) ?_
  refine ListK.conv (i := 1) (u := .int .u8 nd) (v := .int .i64 nd) rfl (by simp [hz_a3]) (cvu8 hnd _) ?_
  refine ListK.bin (i := 2) (u := .int .i64 nd) (u' := .int .i64 101) (v := .int .i64 on) rfl (by simp [hz_a3]) (by simp) (rem3r (by omega) (by omega) hon _) ?_
  refine ListK.assign (i := 3) (v := .int .i64 on) rfl (by simp [hz_a3]) ?_
  refine ListK.done (hK _ _ ?_)
  clear hK K
  generalize hA : Act.put _ _ _ = a4
  have hz_a4 : a4.tmps.size = 153 := by rw [← hA]; simp only [size_put, hz_a3]
  have y9 : a4.eval (.tmp 9) = .int .i64 o := by rw [← hA]; exact (by simp [x9])
  have y11 : a4.eval (.tmp 11) = .pointer (some ⟨pb, 0, none⟩) := by rw [← hA]; exact (by simp [x11])
  have y12 : a4.eval (.tmp 12) = .slice A3 ds.length c3 := by rw [← hA]; exact (by simp [x12])
  have y13 : a4.eval (.tmp 13) = .int .i64 on := by rw [← hA]; exact (by simp [hz_a3])
  have hd_a4 : a4.defers = [] := by rw [← hA]; simp only [defers_put, hd_a3]
  clear hA
  obtain ⟨b3, hb3⟩ : ∃ b, W.heap.size = b := ⟨_, rfl⟩
  rw [hb3] at hB1
  refine wpIn_seq (region_p 11 ?_)
  intro K hK
  refine ListK.load (i := 0) (p := ⟨pb, 0, none⟩) (v := .agg #[.int .i64 o, .int .i64 t, .slice A l.length c]) rfl (by simp [y11]) (ld24 ⟨wb.cell 0, wb.cell 1, wb.cell 2⟩) ?_
  refine ListK.call (i := 1) (vs := #[.agg #[.int .i64 o, .int .i64 t, .slice A l.length c]]) rfl (enters_of Try.func18 (by kernel_rfl) rfl) (by simp [hz_a4]) (((batch_any o t A l c W3 (by omega) hs)).mono ?_)
  rintro _ W4 ⟨A_t1, c_t1, rfl, hs_t1, hb_t1⟩
  have hL_t1 := hB1.trans (hb_t1.mono (by have := hB1.size; omega))
  replace hs := (hs.below hb_t1 (Nat.le_refl _)).more hb_t1.size
  replace hi3 := (hi3.below hb_t1 (Nat.le_refl _)).more hb_t1.size
  replace wb := wb.below hb_t1 wb.lt
  replace hB1 := hL_t1
  refine ⟨_, rfl, ?_⟩
  refine ListK.move (i := 2) (v := .int .i64 on) rfl (by simp [y13]) ?_
  refine ListK.call (i := 3) (vs := #[.agg #[.int .i64 o, .int .i64 t, .slice A_t1 l.length c_t1], .int .i64 on]) rfl (enters_of Try.func33 (by kernel_rfl) rfl) (by simp [hz_a4]) (((reach_any o t A_t1 l c_t1 on W4 (by omega) hs_t1)).mono ?_)
  rintro _ W5 ⟨ve, vs, rfl, hrm⟩
  obtain ⟨⟨Ae_t2, ce_t2, rfl, _, ie_t2⟩, ⟨As_t2, cs_t2, rfl, _, is_t2⟩⟩ := hrm.ri
  have hb_t2 := hrm.low
  clear hrm
  have hL_t2 := hB1.trans (hb_t2.mono (by have := hB1.size; omega))
  replace hs := (hs.below hb_t2 (Nat.le_refl _)).more hb_t2.size
  replace hi3 := (hi3.below hb_t2 (Nat.le_refl _)).more hb_t2.size
  replace wb := wb.below hb_t2 wb.lt
  replace hB1 := hL_t2
  refine ⟨_, rfl, ?_⟩
  refine ListK.move (i := 4) (v := .tuple #[.slice Ae_t2 (reachC o t l on).length ce_t2, .slice As_t2 (reachS o t l on).length cs_t2, .int .i64 (reachE o t l on)]) rfl (by simp [hz_a4]) ?_
  refine ListK.extract (i := 5) (u := .tuple #[.slice Ae_t2 (reachC o t l on).length ce_t2, .slice As_t2 (reachS o t l on).length cs_t2, .int .i64 (reachE o t l on)]) (v := .slice Ae_t2 (reachC o t l on).length ce_t2) rfl (by simp [hz_a4]) (ex3_0 _ _ _ _) ?_
  refine ListK.extract (i := 6) (u := .tuple #[.slice Ae_t2 (reachC o t l on).length ce_t2, .slice As_t2 (reachS o t l on).length cs_t2, .int .i64 (reachE o t l on)]) (v := .slice As_t2 (reachS o t l on).length cs_t2) rfl (by simp [hz_a4]) (ex3_1 _ _ _ _) ?_
  refine ListK.extract (i := 7) (u := .tuple #[.slice Ae_t2 (reachC o t l on).length ce_t2, .slice As_t2 (reachS o t l on).length cs_t2, .int .i64 (reachE o t l on)]) (v := .int .i64 (reachE o t l on)) rfl (by simp [hz_a4]) (ex3_2 _ _ _ _) ?_
  refine ListK.assign (i := 8) (v := .slice Ae_t2 (reachC o t l on).length ce_t2) rfl (by simp [hz_a4]) ?_
  refine ListK.assign (i := 9) (v := .slice As_t2 (reachS o t l on).length cs_t2) rfl (by simp [hz_a4]) ?_
  refine ListK.assign (i := 10) (v := .int .i64 (reachE o t l on)) rfl (by simp [hz_a4]) ?_
  refine ListK.done (hK _ _ ?_)
  clear hK K
  generalize hA : Act.put _ _ _ = a5
  have hz_a5 : a5.tmps.size = 153 := by rw [← hA]; simp only [size_put, hz_a4]
  have z9 : a5.eval (.tmp 9) = .int .i64 o := by rw [← hA]; exact (by simp [y9])
  have z11 : a5.eval (.tmp 11) = .pointer (some ⟨pb, 0, none⟩) := by rw [← hA]; exact (by simp [y11])
  have z12 : a5.eval (.tmp 12) = .slice A3 ds.length c3 := by rw [← hA]; exact (by simp [y12])
  have z13 : a5.eval (.tmp 13) = .int .i64 on := by rw [← hA]; exact (by simp [y13])
  have z14 : a5.eval (.tmp 14) = .slice Ae_t2 (reachC o t l on).length ce_t2 := by rw [← hA]; exact (by simp [hz_a4])
  have z15 : a5.eval (.tmp 15) = .slice As_t2 (reachS o t l on).length cs_t2 := by rw [← hA]; exact (by simp [hz_a4])
  have z16 : a5.eval (.tmp 16) = .int .i64 (reachE o t l on) := by rw [← hA]; exact (by simp [hz_a4])
  have hd_a5 : a5.defers = [] := by rw [← hA]; simp only [defers_put, hd_a4]
  clear hA
  have hE := reachE_ok hv hF hon0
  refine wpIn_seq (wpIn_seq (region_p 2 ?_))
  intro K hK
  refine ListK.move (i := 0) (v := .int .i64 (reachE o t l on)) rfl (by simp [z16]) ?_
  refine ListK.bin (i := 1) (u := .int .i64 (reachE o t l on)) (u' := .int .i64 0) (v := .bool false) rfl (by simp [hz_a5]) (by simp) (nqF hE _) ?_
  refine ListK.done (hK _ _ ?_)
  clear hK K
  refine wpIn_cond (t := false) (by simp [hz_a5]) (wpIn_skip ?_)
  obtain ⟨xC, hC⟩ : ∃ x, x = reachC o t l on := ⟨_, rfl⟩
  obtain ⟨xS, hS⟩ : ∃ x, x = reachS o t l on := ⟨_, rfl⟩
  rw [← hC] at z14 ie_t2
  rw [← hS] at z15 is_t2
  have hm0 : TtM W pb o t A A3 Ae_t2 As_t2 l ds xC xS c W5 := ⟨by rw [hb3]; exact hB1, wb, hs, hi3, ie_t2, is_t2⟩
  generalize hA : Act.put _ _ _ = a6
  have hz_a6 : a6.tmps.size = 153 := by rw [← hA]; simp only [size_put, hz_a5]
  have q9 : a6.eval (.tmp 9) = .int .i64 o := by rw [← hA]; exact (by simp [z9])
  have q11 : a6.eval (.tmp 11) = .pointer (some ⟨pb, 0, none⟩) := by rw [← hA]; exact (by simp [z11])
  have q12 : a6.eval (.tmp 12) = .slice A3 ds.length c3 := by rw [← hA]; exact (by simp [z12])
  have q13 : a6.eval (.tmp 13) = .int .i64 on := by rw [← hA]; exact (by simp [z13])
  have q14 : a6.eval (.tmp 14) = .slice Ae_t2 xC.length ce_t2 := by rw [← hA]; exact (by simp [z14])
  have q15 : a6.eval (.tmp 15) = .slice As_t2 xS.length cs_t2 := by rw [← hA]; exact (by simp [z15])
  have hd_a6 : a6.defers = [] := by rw [← hA]; simp only [defers_put, hd_a5]
  clear hA
  show tt_b.wpIn _ _ _ _ _ _
  unfold tt_b
  clear hB1 wb hs hi3
  refine wpIn_seq (wpIn_seq (region_p 1 ?_))
  intro K hK
  refine ListK.assign (i := 0) (v := .int .i64 0) rfl (by simp) ?_
  refine ListK.done (hK _ _ ?_)
  clear hK K
  refine wpIn_block (wpIn_loop (fun a W' => ∃ k : Nat, k ≤ ds.length ∧ TtF o on pb ds.length c3 xC.length ce_t2 xS.length cs_t2 17 k A3 Ae_t2 As_t2 a ∧ TtM W pb o t A A3 Ae_t2 As_t2 l ds xC xS c W') (fun a _ => ds.length - (intOf (a.eval (.tmp 17))).toNat)
    ⟨0, Nat.zero_le _, ⟨(by simp only [size_put, hz_a6]), (by simp only [defers_put, hd_a6]), (by simp [q9]), (by simp [q11]), (by simp [q12]), (by simp [q13]), (by simp [q14]), (by simp [q15]), (by simp [hz_a6])⟩, hm0⟩ ?_)
  rintro b1 W14 ⟨k, hk, hf, hm⟩
  obtain ⟨hz_b1, hd_b1, w9, w11, w12, w13, w14, w15, w17⟩ := hf
  refine wpIn_seq (wpIn_seq (region_p 4 ?_))
  intro K hK
  refine ListK.move (i := 0) (v := .int .i64 k) rfl (by simp [w17]) ?_
  refine ListK.move (i := 1) (v := .slice A3 ds.length c3) rfl (by simp [w12]) ?_
  refine ListK.len (i := 2) (u := .slice A3 ds.length c3) (v := .int .i64 ds.length) rfl (by simp [hz_b1]) (ln25 _ _ _ _ _) rfl ?_
  refine ListK.bin (i := 3) (u := .int .i64 k) (u' := .int .i64 (ds.length : Int)) (v := .bool (decide (k < (ds.length : Int)))) rfl (by simp [hz_b1]) (by simp [hz_b1]) (lss3 _) ?_
  refine ListK.done (hK _ _ ?_)
  clear hK K
  by_cases hkd : k < ds.length
  · refine wpIn_cond (t := true) (by simp [hz_b1]; omega) (wpIn_skip ?_)
    show (Code.seq _ _).wpIn _ _ _ _ _ _
    refine wpIn_seq (wpIn_block ?_)
    refine tt10 (on := on) (pb := pb) (c3 := c3) (A3 := A3) (cC := ce_t2) (cS := cs_t2) (AC := Ae_t2) (AS := As_t2) (xC := xC) (xS := xS) hkd hv hp hdl ⟨(by simp only [size_put, hz_b1]), (by simp only [defers_put, hd_b1]), (by simp [w9]), (by simp [w11]), (by simp [w12]), (by simp [w13]), (by simp [w14]), (by simp [w15]), (by simp [w17])⟩ hm fun a' W' f' m' => ?_
    refine tt9 (by omega) f' fun a2 f2 => ⟨⟨k + 1, by omega, f2, m'⟩, ?_⟩
    rw [f2.2.2.2.2.2.2.2.2, w17]
    simp only [intOf]
    omega
  · refine wpIn_cond (t := false) (by simp [hz_b1]; omega) (wpIn_exit ?_)
    generalize hA : Act.put _ _ _ = b2
    have hz_b2 : b2.tmps.size = 153 := by rw [← hA]; simp only [size_put, hz_b1]
    have r9 : b2.eval (.tmp 9) = .int .i64 o := by rw [← hA]; exact (by simp [w9])
    have r11 : b2.eval (.tmp 11) = .pointer (some ⟨pb, 0, none⟩) := by rw [← hA]; exact (by simp [w11])
    have r12 : b2.eval (.tmp 12) = .slice A3 ds.length c3 := by rw [← hA]; exact (by simp [w12])
    have r13 : b2.eval (.tmp 13) = .int .i64 on := by rw [← hA]; exact (by simp [w13])
    have r14 : b2.eval (.tmp 14) = .slice Ae_t2 xC.length ce_t2 := by rw [← hA]; exact (by simp [w14])
    have r15 : b2.eval (.tmp 15) = .slice As_t2 xS.length cs_t2 := by rw [← hA]; exact (by simp [w15])
    have hd_b2 : b2.defers = [] := by rw [← hA]; simp only [defers_put, hd_b1]
    clear hA
    show tt_c.wpIn _ _ _ _ _ _
    unfold tt_c
    refine wpIn_seq (wpIn_seq (region_p 1 ?_))
    intro K hK
    refine ListK.assign (i := 0) (v := .int .i64 0) rfl (by simp) ?_
    refine ListK.done (hK _ _ ?_)
    clear hK K
    refine wpIn_block (wpIn_loop (fun a W' => ∃ k : Nat, (k : Int) ≤ o ∧ TtF o on pb ds.length c3 xC.length ce_t2 xS.length cs_t2 20 k A3 Ae_t2 As_t2 a ∧ TtM W pb o t A A3 Ae_t2 As_t2 l ds xC xS c W') (fun a _ => o.toNat - (intOf (a.eval (.tmp 20))).toNat)
      ⟨0, by omega, ⟨(by simp only [size_put, hz_b2]), (by simp only [defers_put, hd_b2]), (by simp [r9]), (by simp [r11]), (by simp [r12]), (by simp [r13]), (by simp [r14]), (by simp [r15]), (by simp [hz_b2])⟩, hm⟩ ?_)
    clear hm
    rintro d1 W15 ⟨k, hk, hf, hm⟩
    obtain ⟨hz_d1, hd_d1, s9, s11, s12, s13, s14, s15, s20⟩ := hf
    refine wpIn_seq (wpIn_seq (region_p 3 ?_))
    intro K hK
    refine ListK.move (i := 0) (v := .int .i64 k) rfl (by simp [s20]) ?_
    refine ListK.move (i := 1) (v := .int .i64 o) rfl (by simp [s9]) ?_
    refine ListK.bin (i := 2) (u := .int .i64 k) (u' := .int .i64 o) (v := .bool (decide (k < o))) rfl (by simp [hz_d1]) (by simp [hz_d1]) (lss3 _) ?_
    refine ListK.done (hK _ _ ?_)
    clear hK K
    by_cases hko : (k : Int) < o
    · refine wpIn_cond (t := true) (by simp [hz_d1]; omega) (wpIn_skip ?_)
      show (Code.seq _ _).wpIn _ _ _ _ _ _
      refine wpIn_seq (wpIn_block ?_)
      refine tt16 (on := on) (pb := pb) (c3 := c3) (A3 := A3) (cC := ce_t2) (cS := cs_t2) (AC := Ae_t2) (AS := As_t2) (xC := xC) (xS := xS) hko hv hp hdl hon0 hC hS ⟨(by simp only [size_put, hz_d1]), (by simp only [defers_put, hd_d1]), (by simp [s9]), (by simp [s11]), (by simp [s12]), (by simp [s13]), (by simp [s14]), (by simp [s15]), (by simp [s20])⟩ hm fun a' W' f' m' => ?_
      refine tt15 (by omega) f' fun a2 f2 => ⟨⟨k + 1, by omega, f2, m'⟩, ?_⟩
      rw [f2.2.2.2.2.2.2.2.2, s20]
      simp only [intOf]
      omega
    · refine wpIn_cond (t := false) (by simp [hz_d1]; omega) (wpIn_exit ?_)
      generalize hA : Act.put _ _ _ = d2
      have hz_d2 : d2.tmps.size = 153 := by rw [← hA]; simp only [size_put, hz_d1]
      have e9 : d2.eval (.tmp 9) = .int .i64 o := by rw [← hA]; exact (by simp [s9])
      have hd_d2 : d2.defers = [] := by rw [← hA]; simp only [defers_put, hd_d1]
      clear hA
      show tt_d.wpIn _ _ _ _ _ _
      unfold tt_d
      obtain ⟨hB1, _⟩ := hm
      refine wpIn_seq (region_p 2 ?_)
      intro K hK
      refine ListK.call (i := 0) (vs := #[]) rfl (enters_of Try.func16 (by kernel_rfl) rfl) (by simp) (((wakes_any W15)).mono ?_)
      rintro _ W16 ⟨rfl, hb5⟩
      refine ⟨_, rfl, ?_⟩
      refine ListK.assign (i := 1) (v := .bool true) rfl (by simp [hz_d2]) ?_
      refine ListK.done (hK _ _ (wpIn_ret ?_))
      exact hret _ _ (by simp only [defers_put, hd_d2]) (by simp [hz_d2]) (hB1.trans (hb5.mono hB1.size))
end Go.Proofs.Ytfcnombmphophaa
namespace Go.Proofs.Ytfcnombmphophaa
open Go.RowKit Go.Shelf Go.ChangeShapes Go.WideShapes
section
variable {H : Type} {enc : TypeId × Value → H} {W : World} {r : Reach} {b0 : Nat}
theorem c63 : Try.prog.cellsOf 63 = 1 := by kernel_rfl
set_option maxRecDepth 100000 in
theorem open_words {v : Value} {d : DataW H} {ps : List MemPlace} (hval : Value.okWide Try.prog W r b0 64 v) (hd : DataW.Trod enc Try.prog W 0 (fun _ => true) true 64 v d ps) :
    ∃ (A : Option Addr) (l : List Nat) (c : Nat), v = .slice A l.length c ∧ l.length ≤ c ∧ WordsAt W W.heap.size A l := by
  obtain ⟨a, n, c, rfl⟩ := okWide_slice Try.underlying64 hval
  obtain ⟨fuel, hf⟩ := hd
  rcases open_ints Try.underlying64 Try.underlying63 c63 hf with ⟨hcs, _⟩ | ⟨a', n', c', zs, hcs, _, hle, _, hall, _, hcell, hwf⟩
  · simp [Value.cells] at hcs
    obtain ⟨rfl, rfl, rfl⟩ := hcs
    exact ⟨none, [], 0, rfl, Nat.le_refl _, fun k x hx => by simp at hx⟩
  · simp [Value.cells] at hcs
    obtain ⟨rfl, rfl, rfl⟩ := hcs
    simp at hall
    refine ⟨some a', (zs.take n).map Int.toNat, c, by rw [List.length_map, List.length_take]; congr 1; omega, by rw [List.length_map, List.length_take]; omega, ?_⟩
    intro k x hx
    rw [List.getElem?_map, Option.map_eq_some_iff] at hx
    obtain ⟨z, hx, rfl⟩ := hx
    rw [List.getElem?_take] at hx
    split at hx
    · have hk : k < zs.length := (List.getElem?_eq_some_iff.1 hx).1
      have hb := bounds_u16 (hwf z (List.mem_of_getElem? hx))
      obtain ⟨b, off, rfl, hc⟩ := ints_at hcell (by omega)
      have h1 := hc k hk
      have h2 : zs.getD k 0 = z := by simp [List.getD, hx]
      rw [h2] at h1
      refine ⟨by omega, b, off, rfl, block_lt_of_cell h1, ?_⟩
      rw [Int.toNat_of_nonneg hb.1]
      exact h1
    · cases hx
end
theorem r64 : Try.prog.readableRec 64 = true := by kernel_rfl
theorem s64 : 64 < Try.prog.types.size := of_decide_eq_true (by kernel_rfl)
end Go.Proofs.Ytfcnombmphophaa
