/- Texts for a law of package file, behind the shared ones, part 1: the law's own contracts and plain words. -/
import Derived.Test.YtmdlmmfbcnkanaaRA4

set_option linter.unusedVariables false
set_option maxRecDepth 10000

namespace Go.Proofs.YtmdlmmfbcnkanaaR
open Go.RowKit Go.Shelf
/-- A slice of words. -/
def WordsAt (w : World) (B : Nat) (A : Option Addr) (l : List Nat) : Prop := ∀ (k x : Nat), l[k]? = some x → x < 65536 ∧ ∃ b off, A = some ⟨b, off, none⟩ ∧ b < B ∧ w.cell? ⟨b, off + k, none⟩ = some (.int .u16 x)
theorem neqT {x y : Operand} {m n : Int} (h : m ≠ n) (w : World) : (do eqGuard .neq 3 x y (.int .i64 m) (.int .i64 n); binOp .neq 3 (.int .i64 m) (.int .i64 n) : Sem Value).run Try.prog w = .ok (.bool true) w := by
  rw [neq3 w]
  simp [h]
theorem eql27F {x y : Operand} {m n : Int} (h : m ≠ n) (w : World) : (do eqGuard .eql 27 x y (.int .i64 m) (.int .i64 n); binOp .eql 27 (.int .i64 m) (.int .i64 n) : Sem Value).run Try.prog w = .ok (.bool false) w := by
  go_simp
theorem mnc (m n : Int) (ty : TypeId) (w : World) : (builtin .min #[3, 3] ty #[true, false] #[.int .i64 m, .int .i64 n]).run Try.prog w = .ok (.value (.int .i64 (min m n))) w := by
  go_simp
  split <;> omega
theorem min3 (m n : Int) (ty : TypeId) (w : World) : (builtin .min #[3, 3] ty #[false, false] #[.int .i64 m, .int .i64 n]).run Try.prog w = .ok (.value (.int .i64 (min m n))) w := by
  go_simp
  split <;> omega
theorem ListK.bmin {ops : Array Oper} {K : Act → World → Prop} {k i d : Nat} {a : Act} {w : World} {ty : TypeId} {pos : String} {aft : Array Edge} {x y : Nat} {m n : Int} (hi : ops[i]? = some ⟨some d, .call { callee := .builtin .min, args := #[.tmp x, .tmp y], argTypes := #[3, 3] }, ty, pos, aft, none⟩) (hx : a.eval (.tmp x) = .int .i64 m) (hy : a.eval (.tmp y) = .int .i64 n)
    (h : ListK Try.prog ops K k (i + 1) (a.put (some d) (.int .i64 (min m n))) w) : ListK Try.prog ops K (k + 1) i a w := by
  have := min3 m n ty w
  exact ListK.val hi rfl (by simp [execOp, resolve, invoke, hx, hy]; exact this) h
section
variable {W0 : World} {b2 b3 b4 ba M : Nat} {Ds : List Nat} {m : List (List UInt8)}
theorem dig_nat {b : UInt8} (h : isDig b = true) : (dig b : Nat) = b.toNat - 48 ∧ dig b ≤ 9 := by
  simp [isDig] at h
  have : dig b = b.toNat - 48 := by
    unfold dig
    rw [UInt8.toNat_sub_of_le _ _ (by rw [UInt8.le_iff_toNat_le]; exact h.1)]
    rfl
  omega
end
end Go.Proofs.YtmdlmmfbcnkanaaR
namespace Go.Proofs.YtmdlmmfbcnkanaaR
open Go.RowKit Go.Shelf
noncomputable def opsFa0 : Array Oper := (Try.f20.body.bind (regionOf 0)).getD #[]
noncomputable def opsFa1 : Array Oper := (Try.f20.body.bind (regionOf 1)).getD #[]
noncomputable def code20 : Code := (.seq (.region 0 opsFa0 false) (.seq (.region 1 opsFa1 false) .ret))
theorem body20 : Try.f20.body = some code20 := by kernel_rfl
theorem fault_any (s : Ser) (A : Option Addr) (c : Nat) (W : World) (hl : s.rd.length ≤ 1000000) (hs : IntsAt W W.heap.size A s.rd) : Calls Try.prog 20 #[serV s A c] W (EvP W (.int .i64 (faultS s))) := by
  refine (callsIn_wide (n := 5)).1 (callsIn_of_wp Try.func20 body20 trivial ?_ rfl)
  obtain ⟨a, ha⟩ : ∃ a : Act, a = { tmps := #[serV s A c] ++ Array.replicate (Try.f20.ntmps - (#[serV s A c] : Array Value).size) undef, defers := [] } := ⟨_, rfl⟩
  have hsz : a.tmps.size = 5 := by rw [ha]; simp [Try.ntmps20]
  have t0 : a.eval (.tmp 0) = serV s A c := by rw [ha]; simp [Act.eval]
  have hd_a : a.defers = [] := by rw [ha]
  rw [← ha]
  clear ha
  unfold code20
  refine wpIn_seq (region_p 2 ?_)
  intro K hK
  refine ListK.box (i := 0) (u := serV s A c) rfl (by simp [t0]) (bx24 W _ _ _ _ _) ?_
  refine ListK.assign (i := 1) (v := .int .i64 0) rfl (by simp) ?_
  refine ListK.done (hK _ _ ?_)
  clear hK K
  replace hs : IntsAt (W.alloc (.cells #[.int .i64 s.width, .int .i64 s.step, .slice A s.rd.length c] 24)) W.heap.size A s.rd := hs.below ((Below.refl W.heap.size W).alloc (Nat.le_refl _) _) (Nat.le_refl _)
  have w1 := Whole.new W 24 #[.int .i64 s.width, .int .i64 s.step, .slice A s.rd.length c]
  have hb_b1 : Below W.heap.size W (W.alloc (.cells #[.int .i64 s.width, .int .i64 s.step, .slice A s.rd.length c] 24)) := (Below.refl _ W).alloc (Nat.le_refl _) _
  have hB := hb_b1
  generalize hq_b1 : W.heap.size = b1 at *
  generalize W.alloc (.cells #[.int .i64 s.width, .int .i64 s.step, .slice A s.rd.length c] 24) = W1 at *
  have hsz1 := hB.size
  generalize hA : Act.put _ _ _ = a1
  have hz_a1 : a1.tmps.size = 5 := by rw [← hA]; simp only [size_put, hsz]
  have u1 : a1.eval (.tmp 1) = .pointer (some ⟨b1, 0, none⟩) := by rw [← hA]; exact (by simp [hsz])
  have hd_a1 : a1.defers = [] := by rw [← hA]; simp only [defers_put, hd_a]
  clear hA
  refine wpIn_seq (region_p 3 ?_)
  intro K hK
  refine ListK.load (i := 0) (p := ⟨b1, 0, none⟩) (v := serV s A c) rfl (by simp [u1]) (ld24 ⟨w1.cell 0, w1.cell 1, w1.cell 2⟩) ?_
  refine ListK.call (i := 1) (vs := #[serV s A c]) rfl (enters_of Try.func35 (by kernel_rfl) rfl) (by simp [hz_a1]) ((refFault_any s A c W1 hl (hs.more (by omega))).mono ?_)
  rintro _ W2 ⟨rfl, hb2⟩
  refine ⟨_, rfl, ?_⟩
  refine ListK.assign (i := 2) (v := .int .i64 (faultS s)) rfl (by simp [hz_a1]) ?_
  refine ListK.done (hK _ _ (wpIn_ret ?_))
  exact bodyPost_ret (v := .int .i64 (faultS s)) (res1 Try.results20 (by simp [hz_a1])) (by simp only [defers_put, hd_a1]) ⟨rfl, by rw [hq_b1]; exact hB.trans (hb2.mono (by omega))⟩
noncomputable def opsSh0 : Array Oper := (Try.f15.body.bind (regionOf 0)).getD #[]
noncomputable def opsSh1 : Array Oper := (Try.f15.body.bind (regionOf 1)).getD #[]
noncomputable def code15 : Code := (.seq (.region 0 opsSh0 false) (.seq (.region 1 opsSh1 false) .ret))
theorem body15 : Try.f15.body = some code15 := by kernel_rfl
theorem short_any (s : Ser) (A : Option Addr) (c : Nat) (W : World) : Calls Try.prog 15 #[serV s A c] W (EvP W (.bool (decide ((s.rd.length : Int) ≤ 45)))) := by
  refine (callsIn_wide (n := 5)).1 (callsIn_of_wp Try.func15 body15 trivial ?_ rfl)
  obtain ⟨a, ha⟩ : ∃ a : Act, a = { tmps := #[serV s A c] ++ Array.replicate (Try.f15.ntmps - (#[serV s A c] : Array Value).size) undef, defers := [] } := ⟨_, rfl⟩
  have hsz : a.tmps.size = 7 := by rw [ha]; simp [Try.ntmps15]
  have t0 : a.eval (.tmp 0) = serV s A c := by rw [ha]; simp [Act.eval]
  have hd_a : a.defers = [] := by rw [ha]
  rw [← ha]
  clear ha
  unfold code15
  refine wpIn_seq (region_p 2 ?_)
  intro K hK
  refine ListK.box (i := 0) (u := serV s A c) rfl (by simp [t0]) (bx24 W _ _ _ _ _) ?_
  refine ListK.assign (i := 1) (v := .bool false) rfl (by simp) ?_
  refine ListK.done (hK _ _ ?_)
  clear hK K
  have w1 := Whole.new W 24 #[.int .i64 s.width, .int .i64 s.step, .slice A s.rd.length c]
  have hb_b1 : Below W.heap.size W (W.alloc (.cells #[.int .i64 s.width, .int .i64 s.step, .slice A s.rd.length c] 24)) := (Below.refl _ W).alloc (Nat.le_refl _) _
  have hB := hb_b1
  generalize hq_b1 : W.heap.size = b1 at *
  generalize W.alloc (.cells #[.int .i64 s.width, .int .i64 s.step, .slice A s.rd.length c] 24) = W1 at *
  generalize hA : Act.put _ _ _ = a1
  have hz_a1 : a1.tmps.size = 7 := by rw [← hA]; simp only [size_put, hsz]
  have u1 : a1.eval (.tmp 1) = .pointer (some ⟨b1, 0, none⟩) := by rw [← hA]; exact (by simp [hsz])
  have hd_a1 : a1.defers = [] := by rw [← hA]; simp only [defers_put, hd_a]
  clear hA
  refine wpIn_seq (region_p 5 ?_)
  intro K hK
  refine ListK.field (i := 0) (u := .pointer (some ⟨b1, 0, none⟩)) (v := .pointer (some ⟨b1, 2, none⟩)) rfl (by simp [u1]) (fa24_2 _) ?_
  refine ListK.load (i := 1) (p := ⟨b1, 2, none⟩) (v := .slice A s.rd.length c) rfl (by simp [hz_a1]) (ld22 (w1.cell 2)) ?_
  refine ListK.len (i := 2) (u := .slice A s.rd.length c) (v := .int .i64 s.rd.length) rfl (by simp [hz_a1]) (ln22 _ _ _ _ _) rfl ?_
  refine ListK.bin (i := 3) (u := .int .i64 s.rd.length) (u' := .int .i64 45) (v := .bool (decide ((s.rd.length : Int) ≤ 45))) rfl (by simp [hz_a1]) (by simp) (leq3 _) ?_
  refine ListK.assign (i := 4) (v := .bool (decide ((s.rd.length : Int) ≤ 45))) rfl (by simp [hz_a1]) ?_
  refine ListK.done (hK _ _ (wpIn_ret ?_))
  exact bodyPost_ret (v := .bool (decide ((s.rd.length : Int) ≤ 45))) (res1 Try.results15 (by simp [hz_a1])) (by simp only [defers_put, hd_a1]) ⟨rfl, by rw [hq_b1]; exact hB⟩
section
attribute [local irreducible] AnyK StepK
end
end Go.Proofs.YtmdlmmfbcnkanaaR
namespace Go.Proofs.YtmdlmmfbcnkanaaR
open Go.RowKit Go.Shelf
theorem ld66 {w : World} {p : Addr} {v : Value} (h : w.cell? p = some v) : (Instr.loadAt 66 (.pointer (some p))).run Try.prog w = .ok v w := by go_simp
theorem ln38 (A : Option Addr) (n c : Nat) (t : TypeId) (w : World) : (builtin .len #[38] t #[false] #[.slice A n c]).run Try.prog w = .ok (.value (.int .i64 (n : Int))) w := by go_simp
theorem ix38 {b o n c : Nat} {i : Nat} (h : i < n) (w : World) : (Instr.indexAt 38 (.slice (some ⟨b, o, none⟩) n c) (.int .i64 i)).run Try.prog w = .ok (.pointer (some ⟨b, o + i, none⟩)) w := by go_simp
theorem cv66 {n : Nat} (h : n < 65536) (w : World) : (convert 66 3 (.int .u16 (n : Int))).run Try.prog w = .ok (.int .i64 (n : Int)) w := by
  have h2 := IntWalk.i64_in (n : Int) (by omega)
  go_simp
noncomputable def opsWd0 : Array Oper := (Try.f29.body.bind (regionOf 0)).getD #[]
noncomputable def opsWd1 : Array Oper := (Try.f29.body.bind (regionOf 1)).getD #[]
noncomputable def opsWd2 : Array Oper := (Try.f29.body.bind (regionOf 2)).getD #[]
noncomputable def opsWd3 : Array Oper := (Try.f29.body.bind (regionOf 3)).getD #[]
noncomputable def code29 : Code := (.seq (.region 0 opsWd0 false) (.seq (.seq (.region 1 opsWd1 false) (.cond (.tmp 7) (.seq (.region 2 opsWd2 false) .ret) .skip)) (.seq (.region 3 opsWd3 false) .ret)))
theorem body29 : Try.f29.body = some code29 := by kernel_rfl
theorem word_any (A : Option Addr) (lw : List Nat) (c i : Nat) (W : World) (hi : i ≤ 100000) (hs : WordsAt W W.heap.size A lw) : Calls Try.prog 29 #[.slice A lw.length c, .int .i64 (i : Int)] W fun e w' => ∃ n : Nat, e = .returned (.int .i64 (n : Int)) ∧ n < 65536 ∧ w' = W := by
  refine (callsIn_wide (n := 5)).1 (callsIn_of_wp Try.func29 body29 trivial ?_ rfl)
  obtain ⟨a, ha⟩ : ∃ a : Act, a = { tmps := #[.slice A lw.length c, .int .i64 (i : Int)] ++ Array.replicate (Try.f29.ntmps - (#[.slice A lw.length c, .int .i64 (i : Int)] : Array Value).size) undef, defers := [] } := ⟨_, rfl⟩
  have hsz : a.tmps.size = 16 := by rw [ha]; simp [Try.ntmps29]
  have t0 : a.eval (.tmp 0) = .slice A lw.length c := by rw [ha]; simp [Act.eval]
  have t1 : a.eval (.tmp 1) = .int .i64 (i : Int) := by rw [ha]; simp [Act.eval]
  have hd_a : a.defers = [] := by rw [ha]
  rw [← ha]
  clear ha
  unfold code29
  refine wpIn_seq (region_p 1 ?_)
  intro K hK
  refine ListK.assign (i := 0) (v := .int .i64 0) rfl (by simp) ?_
  refine ListK.done (hK _ _ ?_)
  clear hK K
  generalize hA : Act.put _ _ _ = a1
  have hz_a1 : a1.tmps.size = 16 := by rw [← hA]; simp only [size_put, hsz]
  have u0 : a1.eval (.tmp 0) = .slice A lw.length c := by rw [← hA]; exact (by simp [t0])
  have u1 : a1.eval (.tmp 1) = .int .i64 (i : Int) := by rw [← hA]; exact (by simp [t1])
  have hd_a1 : a1.defers = [] := by rw [← hA]; simp only [defers_put, hd_a]
  clear hA
  by_cases h0 : lw.length = 0
  · skip
    refine wpIn_seq (wpIn_seq (region_p 3 ?_))
    intro K hK
    refine ListK.move (i := 0) (v := .slice A lw.length c) rfl (by simp [u0]) ?_
    refine ListK.len (i := 1) (u := .slice A lw.length c) (v := .int .i64 lw.length) rfl (by simp [hz_a1]) (ln38 _ _ _ _ _) rfl ?_
    refine ListK.bin (i := 2) (u := .int .i64 lw.length) (u' := .int .i64 0) (v := .bool true) rfl (by simp [hz_a1]) (by simp) (eql3T (by omega) _) ?_
    refine ListK.done (hK _ _ ?_)
    clear hK K
    refine wpIn_cond (t := true) (by simp [hz_a1]) ?_
    refine wpIn_seq (region_p 1 ?_)
    intro K hK
    refine ListK.assign (i := 0) (v := .int .i64 0) rfl (by simp) ?_
    refine ListK.done (hK _ _ (wpIn_ret ?_))
    simp only [Exit.then]
    refine bodyPost_ret (v := .int .i64 0) (res1 Try.results29 (by simp [hz_a1])) (by simp only [defers_put, hd_a1]) ?_
    exact ⟨0, rfl, by omega, rfl⟩
  · skip
    refine wpIn_seq (wpIn_seq (region_p 3 ?_))
    intro K hK
    refine ListK.move (i := 0) (v := .slice A lw.length c) rfl (by simp [u0]) ?_
    refine ListK.len (i := 1) (u := .slice A lw.length c) (v := .int .i64 lw.length) rfl (by simp [hz_a1]) (ln38 _ _ _ _ _) rfl ?_
    refine ListK.bin (i := 2) (u := .int .i64 lw.length) (u' := .int .i64 0) (v := .bool false) rfl (by simp [hz_a1]) (by simp) (eql3F (by omega) _) ?_
    refine ListK.done (hK _ _ ?_)
    clear hK K
    refine wpIn_cond (t := false) (by simp [hz_a1]) (wpIn_skip ?_)
    generalize hA : Act.put _ _ _ = a2
    have hz_a2 : a2.tmps.size = 16 := by rw [← hA]; simp only [size_put, hz_a1]
    have v0 : a2.eval (.tmp 0) = .slice A lw.length c := by rw [← hA]; exact (by simp [u0])
    have v1 : a2.eval (.tmp 1) = .int .i64 (i : Int) := by rw [← hA]; exact (by simp [u1])
    have hd_a2 : a2.defers = [] := by rw [← hA]; simp only [defers_put, hd_a1]
    clear hA
    have hlt := Nat.mod_lt i (show 0 < lw.length by omega)
    have hx := List.getElem?_eq_getElem hlt
    obtain ⟨hx6, b, off, rfl, hb, hc⟩ := hs (i % lw.length) _ hx
    refine wpIn_seq (region_p 9 ?_)
    intro K hK
    refine ListK.move (i := 0) (v := .slice (some ⟨b, off, none⟩) lw.length c) rfl (by simp [v0]) ?_
    refine ListK.move (i := 1) (v := .int .i64 (i : Int)) rfl (by simp [v1]) ?_
    refine ListK.move (i := 2) (v := .slice (some ⟨b, off, none⟩) lw.length c) rfl (by simp [v0]) ?_
    refine ListK.len (i := 3) (u := .slice (some ⟨b, off, none⟩) lw.length c) (v := .int .i64 lw.length) rfl (by simp [hz_a2]) (ln38 _ _ _ _ _) rfl ?_
    refine ListK.bin (i := 4) (u := .int .i64 (i : Int)) (u' := .int .i64 lw.length) (v := .int .i64 ((i % lw.length : Nat) : Int)) rfl (by simp [hz_a2]) (by simp [hz_a2]) (rem3r (by omega) (by omega) rfl _) ?_
    refine ListK.index (i := 5) (u := .slice (some ⟨b, off, none⟩) lw.length c) (u' := .int .i64 ((i % lw.length : Nat) : Int)) (v := .pointer (some ⟨b, off + i % lw.length, none⟩)) rfl (by simp [hz_a2]) (by simp [hz_a2]) (ix38 hlt _) ?_
    refine ListK.load (i := 6) (p := ⟨b, off + i % lw.length, none⟩) (v := .int .u16 (lw[i % lw.length] : Int)) rfl (by simp [hz_a2]) (ld66 (hc)) ?_
    refine ListK.conv (i := 7) (u := .int .u16 (lw[i % lw.length] : Int)) (v := .int .i64 (lw[i % lw.length] : Int)) rfl (by simp [hz_a2]) (cv66 hx6 _) ?_
    refine ListK.assign (i := 8) (v := .int .i64 (lw[i % lw.length] : Int)) rfl (by simp [hz_a2]) ?_
    refine ListK.done (hK _ _ (wpIn_ret ?_))
    refine bodyPost_ret (v := .int .i64 (lw[i % lw.length] : Int)) (res1 Try.results29 (by simp [hz_a2])) (by simp only [defers_put, hd_a2]) ?_
    exact ⟨_, rfl, hx6, rfl⟩
theorem OS.strs2 {W0 W : World} {v : Value} {L : List (List UInt8)} (h : OS W0 v L W) (hne : L ≠ []) : ∃ g c, v = .slice (some ⟨g, 0, none⟩) L.length c ∧ L.length ≤ c ∧ StrsAt W W.heap.size (some ⟨g, 0, none⟩) L := by
  obtain ⟨A, c, rfl, hs⟩ := h.strs
  rcases h.own.2 with ⟨h0, h1⟩ | ⟨g, cap, cur, h0, hb, hg, h1, _⟩
  · exact (hne (List.eq_nil_of_length_eq_zero h1)).elim
  · cases h0
    exact ⟨g, _, rfl, h1, hs⟩
theorem StrsAt.take {w : World} {B : Nat} {A : Option Addr} {L : List (List UInt8)} (k : Nat) (h : StrsAt w B A L) : StrsAt w B A (L.take k) := by
  intro i l hl
  rw [List.getElem?_take] at hl
  split at hl
  · exact h i l hl
  · cases hl
end Go.Proofs.YtmdlmmfbcnkanaaR
namespace Go.Proofs.YtmdlmmfbcnkanaaR
open Go.RowKit Go.Shelf Go.ChangeShapes Go.WideShapes
section
variable {H : Type} {enc : TypeId × Value → H} {W : World} {r : Reach} {b0 : Nat}
theorem c66 : Try.prog.cellsOf 66 = 1 := by kernel_rfl
set_option maxRecDepth 100000 in
theorem open_words {v : Value} {d : DataW H} {ps : List MemPlace} (hval : Value.okWide Try.prog W r b0 38 v) (hd : DataW.Trod enc Try.prog W 0 (fun _ => true) true 38 v d ps) :
    ∃ (A : Option Addr) (l : List Nat) (c : Nat), v = .slice A l.length c ∧ l.length ≤ c ∧ WordsAt W W.heap.size A l := by
  obtain ⟨a, n, c, rfl⟩ := okWide_slice Try.underlying38 hval
  obtain ⟨fuel, hf⟩ := hd
  rcases open_ints Try.underlying38 Try.underlying66 c66 hf with ⟨hcs, _⟩ | ⟨a', n', c', zs, hcs, _, hle, _, hall, _, hcell, hwf⟩
  · simp [Value.cells] at hcs
    obtain ⟨rfl, rfl, rfl⟩ := hcs
    exact ⟨none, [], 0, rfl, Nat.le_refl _, fun k x hx => by simp at hx⟩
  · simp [Value.cells] at hcs
    obtain ⟨rfl, rfl, rfl⟩ := hcs
    simp at hall
    refine ⟨some a', (zs.take n).map Int.toNat, c, by rw [List.length_map, List.length_take]; congr 1; omega, by rw [List.length_map, List.length_take]; omega, ?_⟩
    intro k x hx
    rw [List.getElem?_map, Option.map_eq_some_iff] at hx
    obtain ⟨z, hx, rfl⟩ := hx
    rw [List.getElem?_take] at hx
    split at hx
    · have hk : k < zs.length := (List.getElem?_eq_some_iff.1 hx).1
      have hb := bounds_u16 (hwf z (List.mem_of_getElem? hx))
      obtain ⟨b, off, rfl, hc⟩ := ints_at hcell (by omega)
      have h1 := hc k hk
      have h2 : zs.getD k 0 = z := by simp [List.getD, hx]
      rw [h2] at h1
      refine ⟨by omega, b, off, rfl, block_lt_of_cell h1, ?_⟩
      rw [Int.toNat_of_nonneg hb.1]
      exact h1
    · cases hx
end
theorem r38 : Try.prog.readableRec 38 = true := by kernel_rfl
theorem s38 : 38 < Try.prog.types.size := of_decide_eq_true (by kernel_rfl)
end Go.Proofs.YtmdlmmfbcnkanaaR
namespace Go.Proofs.YtmdlmmfbcnkanaaR
open Go.RowKit Go.Shelf
section
variable {ops : Array Oper} {K : Act → World → Prop} {Kp : Nat → World → World → Prop} {fuel d i : Nat} {listed : Array Bool} {a : Act} {w w' : World} {ty : TypeId} {pos : String} {aft : Array Edge} {v v2 v' : Value}
theorem StepK.app36 {s z : Operand} (hi : ops[i]? = some ⟨some d, .call { callee := .builtin .append, args := #[s, z], argTypes := #[36, 36] }, ty, pos, aft, none⟩) (hs : a.eval s = v) (hx : a.eval z = v2)
    (hr : (Builtin.append_ #[36, 36] ty #[v, v2]).run Try.prog w = .ok v' w') (hk : Kp i w w') (h : AnyK Try.prog ops K Kp fuel (listed.setIfInBounds i true) (a.put (some d) v') w') : StepK Try.prog ops K Kp fuel listed a w i := by
  unfold StepK opG
  simp only [hi]
  rw [if_pos (show Region.wanted _ _ = true from rfl)]
  simp [Oper.wp, execOp, resolve, invoke, builtin, hs, hx, hr, Oper.upon]
  exact ⟨hk, h⟩
end
/-- What is left of some records. -/
structure Tn (L : List (List UInt8)) (i : Nat) (T : List (List UInt8)) : Prop where
  sub : ∀ r, r ∈ T → r ∈ L
  hd : 0 < i → ∀ h, L[0]? = some h → h ∈ T
  len : T.length ≤ 2 * i
theorem Tn.skip {L : List (List UInt8)} {i : Nat} {T : List (List UInt8)} (t : Tn L i T) (hi : 0 < i) : Tn L (i + 1) T := ⟨t.sub, fun _ => t.hd hi, by have := t.len; omega⟩
theorem Tn.one {L : List (List UInt8)} {i : Nat} {T : List (List UInt8)} {l : List UInt8} (t : Tn L i T) (hl : L[i]? = some l) : Tn L (i + 1) (T ++ [l]) := by
  refine ⟨fun r hr => ?_, fun _ h hh => ?_, by have := t.len; simp; omega⟩
  · rcases List.mem_append.1 hr with hr | hr
    · exact t.sub r hr
    · simp at hr
      rw [hr]
      exact List.mem_of_getElem? hl
  · by_cases h0 : i = 0
    · subst h0
      rw [hl] at hh
      cases hh
      simp
    · exact List.mem_append_left _ (t.hd (by omega) h hh)
theorem Tn.two {L : List (List UInt8)} {i : Nat} {T : List (List UInt8)} {l : List UInt8} (t : Tn L i T) (hl : L[i]? = some l) : Tn L (i + 1) (T ++ [l, l]) := by
  have h1 := t.one hl
  refine ⟨fun r hr => h1.sub r (by simpa using hr), fun h0 h hh => by simpa using h1.hd h0 h hh, by have := t.len; simp; omega⟩
theorem StrsAt.cell36 {w : World} {B b off i : Nat} {L : List (List UInt8)} {l : List UInt8} (h : StrsAt w B (some ⟨b, off, none⟩) L) (hl : L[i]? = some l) : w.cell? ⟨b, off + i, none⟩ = some (strV l) := by
  obtain ⟨b', o', e, _, hc⟩ := h i l hl
  cases e
  exact hc
theorem WordsAt.below {w w' : World} {B : Nat} {A : Option Addr} {l : List Nat} (h : WordsAt w B A l) (hb : Below B w w') : WordsAt w' B A l := by
  intro k x hx
  obtain ⟨h1, b, off, e, h2, h3⟩ := h k x hx
  exact ⟨h1, b, off, e, h2, by rw [hb.cell (show Addr.block ⟨b, off + k, none⟩ < B from h2)]; exact h3⟩
theorem WordsAt.more {w : World} {B B' : Nat} {A : Option Addr} {l : List Nat} (h : WordsAt w B A l) (hb : B ≤ B') : WordsAt w B' A l := by
  intro k x hx
  obtain ⟨h1, b, off, e, h2, h3⟩ := h k x hx
  exact ⟨h1, b, off, e, Nat.lt_of_lt_of_le h2 hb, h3⟩
theorem StrsAt.wide {w : World} {B B' : Nat} {A : Option Addr} {L : List (List UInt8)} (h : StrsAt w B A L) (hb : B ≤ B') : StrsAt w B' A L := by
  intro i l hl
  obtain ⟨b, o, e1, e2, e3⟩ := h i l hl
  exact ⟨b, o, e1, Nat.lt_of_lt_of_le e2 hb, e3⟩
section
attribute [local irreducible] AnyK StepK
variable {L : List (List UInt8)} {A Aw : Option Addr} {c cw by_ : Nat} {lw : List Nat} {W : World}
end
end Go.Proofs.YtmdlmmfbcnkanaaR
namespace Go.Proofs.YtmdlmmfbcnkanaaR

theorem pieces_app : ∀ (l acc rest : List UInt8), (10 : UInt8) ∉ l → pieces acc (l ++ 10 :: rest) = (acc ++ l) :: pieces [] rest
  | [], acc, rest, _ => by
    show (if (10 : UInt8) = 10 then acc :: pieces [] rest else pieces (acc ++ [10]) rest) = _
    simp
  | b :: l, acc, rest, h => by
    have hb : b ≠ 10 := fun e => h (by simp [e])
    show (if b = 10 then acc :: pieces [] (l ++ 10 :: rest) else pieces (acc ++ [b]) (l ++ 10 :: rest)) = _
    rw [if_neg hb, pieces_app l _ rest (fun hm => h (List.mem_cons_of_mem _ hm))]
    simp
theorem pieces_lines : ∀ (L : List (List UInt8)) (rest : List UInt8), (∀ l, l ∈ L → (10 : UInt8) ∉ l) → pieces [] (linesL L ++ rest) = L ++ pieces [] rest
  | [], _, _ => rfl
  | l :: L, rest, h => by
    have h1 := pieces_app l [] (linesL L ++ rest) (h l List.mem_cons_self)
    have h2 : linesL (l :: L) ++ rest = l ++ 10 :: (linesL L ++ rest) := by simp [linesL]
    rw [h2, h1, pieces_lines L rest (fun x hx => h x (List.mem_cons_of_mem _ hx))]
    rfl
theorem isDig_hi {n : Nat} (h : n ≤ 99) : isDig (hi2 n) = true ∧ dig (hi2 n) = n / 10 := by
  have h1 : isDig (hi2 n) = true := by
    simp only [isDig, decide_eq_true_eq, hi2_nat h]
    omega
  have h2 := (dig_nat h1).1
  rw [hi2_nat h] at h2
  exact ⟨h1, by omega⟩
theorem isDig_lo {n : Nat} (h : n ≤ 99) : isDig (lo2 n) = true ∧ dig (lo2 n) = n % 10 := by
  have h1 : isDig (lo2 n) = true := by
    simp only [isDig, decide_eq_true_eq, lo2_nat h]
    omega
  have h2 := (dig_nat h1).1
  rw [lo2_nat h] at h2
  exact ⟨h1, by omega⟩
theorem num2_two {n : Nat} (h : n ≤ 99) : num2 (hi2 n) (lo2 n) = n := by
  rw [num2, (isDig_hi h).2, (isDig_lo h).2]
  omega
theorem not10 {b : UInt8} (h : isDig b = true) : b ≠ 10 := by
  rintro rfl
  simp [isDig] at h
theorem made_no10 {k : UInt8} {a b : Nat} (hk : k ≠ 10) (ha : a ≤ 99) (hb : b ≤ 99) : (10 : UInt8) ∉ made k a b := by
  have hc : chk5 k (hi2 a) (lo2 a) (hi2 b) (lo2 b) ≤ 99 := by have := chk5_lt k (hi2 a) (lo2 a) (hi2 b) (lo2 b); omega
  have h1 := not10 (isDig_hi ha).1
  have h2 := not10 (isDig_lo ha).1
  have h3 := not10 (isDig_hi hb).1
  have h4 := not10 (isDig_lo hb).1
  have h5 := not10 (isDig_hi hc).1
  have h6 := not10 (isDig_lo hc).1
  simp only [made, List.mem_cons, List.not_mem_nil, or_false, not_or]
  exact ⟨hk.symm, h1.symm, h2.symm, h3.symm, h4.symm, h5.symm, h6.symm⟩
theorem made_good {k : UInt8} {a b : Nat} (hk : k = 72 ∨ k = 82 ∨ k = 80) (ha : a ≤ 99) (hb : b ≤ 99) (hh : k = 72 → headOk (a : Int) ((b / 10 : Nat) : Int) ((b % 10 : Nat) : Int) = true) : isGood (made k a b) = true := by
  have hc : chk5 k (hi2 a) (lo2 a) (hi2 b) (lo2 b) ≤ 99 := by have := chk5_lt k (hi2 a) (lo2 a) (hi2 b) (lo2 b); omega
  have e1 : (k == 72 || k == 82 || k == 80) = true := by rcases hk with rfl | rfl | rfl <;> rfl
  simp only [made, isGood, good7, e1, (isDig_hi ha).1, (isDig_lo ha).1, (isDig_hi hb).1, (isDig_lo hb).1, (isDig_hi hc).1, (isDig_lo hc).1, num2_two hc, num2_two ha, (isDig_hi hb).2, (isDig_lo hb).2, Bool.and_self, BEq.rfl, Bool.true_and]
  by_cases h72 : k = 72
  · rw [hh h72]
    simp
  · simp [h72]
theorem made_name {k : UInt8} {a b : Nat} (ha : a ≤ 99) : nameOf (made k a b) = if k = 72 then (72, 0) else (k, a) := by
  simp only [made, nameOf, num2_two ha]
theorem made_val {k : UInt8} {a b : Nat} (hb : b ≤ 99) : valOf (made k a b) = b := by
  simp only [made, valOf, num2_two hb]
theorem made_head {m w st : Nat} (hm : m ≤ 99) (hw : w ≤ 9) (hs : st ≤ 9) : headOf (made 72 m (10 * w + st)) = ⟨m, w, st⟩ := by
  have hb : 10 * w + st ≤ 99 := by omega
  simp only [made, headOf, num2_two hm, (isDig_hi hb).2, (isDig_lo hb).2, Head.mk.injEq, true_and]
  omega
/-- Records of which no two of one name differ. -/
def Func (L : List (List UInt8)) : Prop := ∀ a b, a ∈ L → b ∈ L → nameOf a = nameOf b → a = b
theorem find_iff {m : List (List UInt8)} (hf : Func m) {nm : UInt8 × Nat} {r : List UInt8} : find m nm = some r ↔ r ∈ m ∧ nameOf r = nm := by
  constructor
  · exact find_mem
  · rintro ⟨h1, h2⟩
    cases h : find m nm with
    | none =>
      unfold find at h
      rw [List.find?_eq_none] at h
      have := h r h1
      simp [h2] at this
    | some r' =>
      obtain ⟨h3, h4⟩ := find_mem h
      rw [hf r' r h3 h1 (h4.trans h2.symm)]
theorem takeUp_ok : ∀ (T m : List (List UInt8)), Func (m ++ T) → ∃ m', takeUp m T = some m' ∧ ∀ r, r ∈ m' ↔ r ∈ m ++ T
  | [], m, _ => ⟨m, rfl, fun r => by simp⟩
  | g :: T, m, hf => by
    simp only [takeUp]
    cases h : find m (nameOf g) with
    | none =>
      obtain ⟨m', h1, h2⟩ := takeUp_ok T (m ++ [g]) (by simpa using hf)
      exact ⟨m', h1, fun r => by rw [h2]; simp⟩
    | some old =>
      obtain ⟨h3, h4⟩ := find_mem h
      have ho : old = g := hf old g (by simp [h3]) (by simp) h4
      subst ho
      obtain ⟨m', h1, h2⟩ := takeUp_ok T m (fun a b ha hb => hf a b (by
        rcases List.mem_append.1 ha with h | h
        · simp [h]
        · simp [h]) (by
        rcases List.mem_append.1 hb with h | h
        · simp [h]
        · simp [h]))
      refine ⟨m', by simpa using h1, fun r => ?_⟩
      rw [h2]
      simp only [List.mem_append, List.mem_cons]
      constructor
      · rintro (h | h)
        · exact .inl h
        · exact .inr (.inr h)
      · rintro (h | rfl | h)
        · exact .inl h
        · exact .inl h3
        · exact .inr h
theorem Func.of_sub {L L' : List (List UInt8)} (h : Func L) (hs : ∀ r, r ∈ L' → r ∈ L) : Func L' := fun a b ha hb => h a b (hs a ha) (hs b hb)
end Go.Proofs.YtmdlmmfbcnkanaaR
namespace Go.Proofs.YtmdlmmfbcnkanaaR

/-- A reading as a number. -/
def rdN (s : Ser) (i : Nat) : Nat := (s.rd.getD i 0).toNat
def smN (s : Ser) (b : Nat) : Nat := (sumB s b).toNat
def hdR (s : Ser) : List UInt8 := made 72 s.rd.length (10 * s.width.toNat + s.step.toNat)
def hdH (s : Ser) : Head := ⟨s.rd.length, s.width.toNat, s.step.toNat⟩
theorem mem_recsTo {s : Ser} : ∀ {k : Nat} {r : List UInt8}, r ∈ recsTo s k ↔ r = hdR s ∨ (∃ i, i < k ∧ r = made 82 i (rdN s i)) ∨ (∃ i, i < k ∧ closesB s.rd.length s.width i = true ∧ r = made 80 (i / s.width.toNat) (smN s (i / s.width.toNat)))
  | 0, r => by simp [recsTo, hdR]
  | k + 1, r => by
    unfold recsTo
    rw [List.mem_append, List.mem_append, mem_recsTo (k := k)]
    constructor
    · rintro (((h | ⟨i, h1, h2⟩ | ⟨i, h1, h2, h3⟩) | h) | h)
      · exact .inl h
      · exact .inr (.inl ⟨i, by omega, h2⟩)
      · exact .inr (.inr ⟨i, by omega, h2, h3⟩)
      · simp at h
        exact .inr (.inl ⟨k, by omega, h⟩)
      · split at h
        · rename_i hc
          simp at h
          exact .inr (.inr ⟨k, by omega, hc, h⟩)
        · simp at h
    · rintro (h | ⟨i, h1, h2⟩ | ⟨i, h1, h2, h3⟩)
      · exact .inl (.inl (.inl h))
      · by_cases e : i = k
        · subst e
          exact .inl (.inr (List.mem_singleton.2 h2))
        · exact .inl (.inl (.inr (.inl ⟨i, by omega, h2⟩)))
      · by_cases e : i = k
        · subst e
          refine .inr ?_
          rw [if_pos h2]
          exact List.mem_singleton.2 h3
        · exact .inl (.inl (.inr (.inr ⟨i, by omega, h2, h3⟩)))
/-- What a valid series is like, in numbers. -/
structure SerN (s : Ser) : Prop where
  len : 1 ≤ s.rd.length ∧ s.rd.length ≤ 40
  wd : 2 ≤ s.width.toNat ∧ s.width.toNat ≤ 8 ∧ s.width = (s.width.toNat : Int)
  st : 1 ≤ s.step.toNat ∧ s.step.toNat ≤ 9 ∧ s.step = (s.step.toNat : Int)
  rd : ∀ i, i < s.rd.length → rdN s i ≤ 99 ∧ s.rd[i]? = some (rdN s i : Int)
  sm : ∀ b, smN s b ≤ 99 ∧ sumB s b = (smN s b : Int)
  near : ∀ i, i + 1 < s.rd.length → rdN s (i + 1) ≤ rdN s i + s.step.toNat ∧ rdN s i ≤ rdN s (i + 1) + s.step.toNat
theorem serN {s : Ser} (hf : faultS s = 0) : SerN s := by
  obtain ⟨h1, h2, h3, h4, h5⟩ := ser_valid hf
  have hrd : ∀ i, i < s.rd.length → rdN s i ≤ 99 ∧ s.rd[i]? = some (rdN s i : Int) := by
    intro i hi
    have e := List.getElem?_eq_getElem hi
    have := h4 i _ e
    have hg : rdN s i = s.rd[i].toNat := by simp [rdN, hi]
    refine ⟨by omega, ?_⟩
    rw [e, hg]
    congr 1
    omega
  refine ⟨h1, ⟨by omega, by omega, by omega⟩, ⟨by omega, by omega, by omega⟩, hrd, fun b => ?_, fun i hi => ?_⟩
  · have : 0 ≤ sumB s b ∧ sumB s b ≤ 99 := by unfold sumB; omega
    unfold smN
    omega
  · have := (nearL_iff _ _).1 h5 i _ _ hi (hrd i (by omega)).2 (hrd (i + 1) hi).2
    unfold nearB at this
    rw [inR_iff] at this
    omega
theorem div_le40 {s : Ser} (n : SerN s) {i : Nat} (hi : i < s.rd.length) : i / s.width.toNat ≤ 40 := by
  have := Nat.div_le_self i s.width.toNat
  have := n.len
  omega
theorem hdR_ok {s : Ser} (n : SerN s) : isGood (hdR s) = true ∧ nameOf (hdR s) = (72, 0) ∧ headOf (hdR s) = hdH s ∧ (10 : UInt8) ∉ hdR s := by
  have h1 := n.len
  have h2 := n.wd
  have h3 := n.st
  have hb : 10 * s.width.toNat + s.step.toNat ≤ 99 := by omega
  refine ⟨made_good (.inl rfl) (by omega) hb (fun _ => headOk_iff.2 ⟨by omega, by omega, by omega⟩), ?_, made_head (by omega) (by omega) (by omega), made_no10 (by decide) (by omega) hb⟩
  unfold hdR
  rw [made_name (by omega), if_pos rfl]
theorem recR_ok {s : Ser} (n : SerN s) {i : Nat} (hi : i < s.rd.length) : isGood (made 82 i (rdN s i)) = true ∧ nameOf (made 82 i (rdN s i)) = (82, i) ∧ valOf (made 82 i (rdN s i)) = rdN s i ∧ (10 : UInt8) ∉ made 82 i (rdN s i) := by
  have h1 := n.len
  have h2 := (n.rd i hi).1
  refine ⟨made_good (.inr (.inl rfl)) (by omega) h2 (fun h => by cases h), ?_, made_val h2, made_no10 (by decide) (by omega) h2⟩
  rw [made_name (by omega), if_neg (by decide)]
theorem recP_ok {s : Ser} (n : SerN s) {b : Nat} (hb : b ≤ 40) : isGood (made 80 b (smN s b)) = true ∧ nameOf (made 80 b (smN s b)) = (80, b) ∧ valOf (made 80 b (smN s b)) = smN s b ∧ (10 : UInt8) ∉ made 80 b (smN s b) := by
  have h2 := (n.sm b).1
  refine ⟨made_good (.inr (.inr rfl)) (by omega) h2 (fun h => by cases h), ?_, made_val h2, made_no10 (by decide) (by omega) h2⟩
  rw [made_name (by omega), if_neg (by decide)]
theorem file_ok {s : Ser} (n : SerN s) {r : List UInt8} (hr : r ∈ fileL s) : isGood r = true ∧ (10 : UInt8) ∉ r := by
  rcases mem_recsTo.1 hr with rfl | ⟨i, h1, rfl⟩ | ⟨i, h1, _, rfl⟩
  · exact ⟨(hdR_ok n).1, (hdR_ok n).2.2.2⟩
  · exact ⟨(recR_ok n h1).1, (recR_ok n h1).2.2.2⟩
  · exact ⟨(recP_ok n (div_le40 n h1)).1, (recP_ok n (div_le40 n h1)).2.2.2⟩
theorem file_func {s : Ser} (n : SerN s) : Func (fileL s) := by
  intro a b ha hb he
  rcases mem_recsTo.1 ha with rfl | ⟨i, h1, rfl⟩ | ⟨i, h1, _, rfl⟩ <;> rcases mem_recsTo.1 hb with rfl | ⟨j, h2, rfl⟩ | ⟨j, h2, _, rfl⟩
  · rfl
  · rw [(hdR_ok n).2.1, (recR_ok n h2).2.1] at he
    cases he
  · rw [(hdR_ok n).2.1, (recP_ok n (div_le40 n h2)).2.1] at he
    cases he
  · rw [(hdR_ok n).2.1, (recR_ok n h1).2.1] at he
    cases he
  · rw [(recR_ok n h1).2.1, (recR_ok n h2).2.1] at he
    simp at he
    rw [he]
  · rw [(recR_ok n h1).2.1, (recP_ok n (div_le40 n h2)).2.1] at he
    cases he
  · rw [(hdR_ok n).2.1, (recP_ok n (div_le40 n h1)).2.1] at he
    cases he
  · rw [(recP_ok n (div_le40 n h1)).2.1, (recR_ok n h2).2.1] at he
    cases he
  · rw [(recP_ok n (div_le40 n h1)).2.1, (recP_ok n (div_le40 n h2)).2.1] at he
    simp at he
    rw [he]
theorem goods_lines {T : List (List UInt8)} (h : ∀ r, r ∈ T → isGood r = true ∧ (10 : UInt8) ∉ r) : goods (linesL T) = T := by
  have h1 := pieces_lines T [] (fun r hr => (h r hr).2)
  rw [List.append_nil] at h1
  unfold goods
  rw [h1]
  simp only [pieces, List.append_nil]
  exact List.filter_eq_self.2 (fun r hr => (h r hr).1)
/-- What is read of some records of a file. -/
structure RdM (s : Ser) (m : List (List UInt8)) : Prop where
  sub : ∀ r, r ∈ m → r ∈ fileL s
  hd : hdR s ∈ m
theorem RdM.func {s : Ser} {m : List (List UInt8)} (h : RdM s m) (n : SerN s) : Func m := (file_func n).of_sub h.sub
theorem RdM.find {s : Ser} {m : List (List UInt8)} (h : RdM s m) (n : SerN s) : find m (72, 0) = some (hdR s) := (find_iff (h.func n)).2 ⟨h.hd, (hdR_ok n).2.1⟩
theorem RdM.out {s : Ser} {m : List (List UInt8)} (h : RdM s m) (n : SerN s) : m.any (outOf (hdH s)) = false := by
  rw [List.any_eq_false]
  intro r hr
  have hw := n.wd
  rcases mem_recsTo.1 (h.sub r hr) with rfl | ⟨i, h1, rfl⟩ | ⟨i, h1, _, rfl⟩
  · simp [outOf, (hdR_ok n).2.1]
  · simp [outOf, (recR_ok n h1).2.1, hdH, h1]
  · have hd : i / s.width.toNat < (s.rd.length + s.width.toNat - 1) / s.width.toNat := by
      have h2 : i / s.width.toNat + 1 ≤ (s.rd.length + s.width.toNat - 1) / s.width.toNat := by
        rw [Nat.le_div_iff_mul_le (by omega), Nat.add_mul, Nat.one_mul]
        have := Nat.div_mul_le_self i s.width.toNat
        omega
      omega
    simp [outOf, (recP_ok n (div_le40 n h1)).2.1, hdH, Head.blocks, hd]
theorem read_torn {s : Ser} (n : SerN s) {T : List (List UInt8)} (hT : ∀ r, r ∈ T → r ∈ fileL s) (hh : hdR s ∈ T) (hl : (linesL T).length ≤ 4000) :
    ∃ m, takeUp [] T = some m ∧ (∀ r, r ∈ m ↔ r ∈ T) ∧ RdM s m ∧ readC [linesL T] = 0 ∧ readM (linesL T) = some (hdH s, m) := by
  obtain ⟨m, h1, h2⟩ := takeUp_ok T [] (by rw [List.nil_append]; exact (file_func n).of_sub hT)
  simp only [List.nil_append] at h2
  have hm : RdM s m := ⟨fun r hr => hT r ((h2 r).1 hr), (h2 _).2 hh⟩
  have hg := goods_lines (T := T) (fun r hr => file_ok n (hT r hr))
  have hfl : [linesL T].flatMap goods = T := by simp [hg]
  have hc : readC [linesL T] = 0 := by
    have h4 : [linesL T].any (fun l => decide (4000 < l.length)) = false := by simp; omega
    rw [readC_of h4 (by rw [hfl]; exact h1) (hm.find n), (hdR_ok n).2.2.1, hm.out n]
    simp
  refine ⟨m, h1, h2, hm, hc, ?_⟩
  simp only [readM, hc, hg, h1]
  simp [hm.find n, (hdR_ok n).2.2.1]
end Go.Proofs.YtmdlmmfbcnkanaaR
namespace Go.Proofs.YtmdlmmfbcnkanaaR

theorem told_R {s : Ser} (n : SerN s) {m : List (List UInt8)} (h : RdM s m) {k x : Nat} (ht : told m 82 k = some x) : x = rdN s k := by
  unfold told at ht
  rw [Option.map_eq_some_iff] at ht
  obtain ⟨r, hf, rfl⟩ := ht
  obtain ⟨h1, h2⟩ := find_mem hf
  rcases mem_recsTo.1 (h.sub r h1) with rfl | ⟨i, h3, rfl⟩ | ⟨i, h3, _, rfl⟩
  · rw [(hdR_ok n).2.1] at h2
    cases h2
  · rw [(recR_ok n h3).2.1] at h2
    simp at h2
    subst h2
    exact (recR_ok n h3).2.2.1
  · rw [(recP_ok n (div_le40 n h3)).2.1] at h2
    cases h2
theorem told_P {s : Ser} (n : SerN s) {m : List (List UInt8)} (h : RdM s m) {b x : Nat} (ht : told m 80 b = some x) : x = smN s b := by
  unfold told at ht
  rw [Option.map_eq_some_iff] at ht
  obtain ⟨r, hf, rfl⟩ := ht
  obtain ⟨h1, h2⟩ := find_mem hf
  rcases mem_recsTo.1 (h.sub r h1) with rfl | ⟨i, h3, rfl⟩ | ⟨i, h3, _, rfl⟩
  · rw [(hdR_ok n).2.1] at h2
    cases h2
  · rw [(recR_ok n h3).2.1] at h2
    cases h2
  · rw [(recP_ok n (div_le40 n h3)).2.1] at h2
    simp at h2
    subst h2
    exact (recP_ok n (div_le40 n h3)).2.2.1
/-- The sum of a block up to a place. -/
def rs (s : Ser) : Nat → Nat
  | 0 => 0
  | k + 1 => if k % s.width.toNat = 0 then rdN s k else (rs s k + rdN s k) % 100
def pv (s : Ser) : Nat → Nat
  | 0 => 0
  | k + 1 => rdN s k
theorem rs_sum {s : Ser} (n : SerN s) : ∀ k, k < s.rd.length → (rs s (k + 1) : Int) = sumR s.rd (k / s.width.toNat * s.width.toNat) (k % s.width.toNat + 1) % 100
  | k, hk => by
    have hw := n.wd
    have hdm := Nat.div_add_mod' k s.width.toNat
    have hr := n.rd k hk
    have hlt := Nat.mod_lt k (show 0 < s.width.toNat by omega)
    generalize hb : k / s.width.toNat * s.width.toNat = c at *
    have hx : s.rd[c + k % s.width.toNat]? = some (rdN s k : Int) := by rw [hdm]; exact hr.2
    have hsucc := sumR_succ (l := s.rd) (i := c) (n := k % s.width.toNat) (by omega)
    rw [(List.getElem?_eq_some_iff.1 hx).2] at hsucc
    rw [hsucc]
    simp only [rs]
    by_cases h0 : k % s.width.toNat = 0
    · rw [if_pos h0, h0, sumR_zero]
      omega
    · rw [if_neg h0]
      obtain ⟨j, rfl⟩ : ∃ j, k = j + 1 := ⟨k - 1, by
        have : k ≠ 0 := fun e => h0 (by rw [e]; exact Nat.zero_mod _)
        omega⟩
      have hj := rs_sum n j (by omega)
      have hjm : j % s.width.toNat + 1 = (j + 1) % s.width.toNat ∧ j / s.width.toNat * s.width.toNat = c := by
        have h1 : (j + 1) / s.width.toNat = j / s.width.toNat := by
          rw [Nat.succ_div]
          rw [if_neg (fun hd => h0 (Nat.mod_eq_zero_of_dvd hd))]
          rfl
        have h2 := Nat.div_add_mod' j s.width.toNat
        rw [h1] at hb
        exact ⟨by omega, hb⟩
      rw [hjm.1, hjm.2] at hj
      push_cast
      rw [hj]
      omega
theorem rs_le {s : Ser} (n : SerN s) : ∀ k, k ≤ s.rd.length → rs s k ≤ 99
  | 0, _ => by simp [rs]
  | k + 1, hk => by
    have := n.rd k hk
    simp only [rs]
    split <;> omega
theorem rs_close {s : Ser} (n : SerN s) {k : Nat} (hk : k < s.rd.length) (hc : (hdH s).closes k = true) : rs s (k + 1) = smN s (k / s.width.toNat) := by
  have hw := n.wd
  have h1 := rs_sum n k hk
  have h2 := (n.sm (k / s.width.toNat)).2
  have hdm := Nat.div_add_mod' k s.width.toNat
  have hlt := Nat.mod_lt k (show 0 < s.width.toNat by omega)
  have h3 : sumR s.rd (k / s.width.toNat * s.width.toNat) s.width.toNat = sumR s.rd (k / s.width.toNat * s.width.toNat) (k % s.width.toNat + 1) := by
    simp only [Head.closes, hdH, Bool.or_eq_true, beq_iff_eq] at hc
    rcases hc with hc | hc
    · exact sumR_all (by omega) (by omega)
    · rw [show k % s.width.toNat + 1 = s.width.toNat by omega]
  unfold sumB at h2
  rw [h3] at h2
  omega
theorem after_ser {s : Ser} (n : SerN s) {m : List (List UInt8)} (h : RdM s m) {k : Nat} (hk : k < s.rd.length) : after (hdH s) m k (rs s k) (rdN s k) = some (rs s (k + 1)) := by
  rw [after_eq (s' := rs s (k + 1)) rfl]
  have h1 : (told m 82 k).all (· == rdN s k) = true := by
    cases ht : told m 82 k with
    | none => rfl
    | some x => simp [told_R n h ht]
  have h2 : (!(hdH s).closes k || (told m 80 (k / (hdH s).width)).all (· == rs s (k + 1))) = true := by
    cases hc : (hdH s).closes k with
    | false => rfl
    | true =>
      cases ht : told m 80 (k / (hdH s).width) with
      | none => rfl
      | some x =>
        rw [rs_close n hk hc]
        simp [told_P n h ht, hdH]
  rw [h1, h2]
  rfl
theorem reads_ser {s : Ser} (n : SerN s) {k : Nat} (hk : k < s.rd.length) : rdN s k ∈ readsR (hdH s) k (pv s k) := by
  have h1 := n.rd k hk
  rw [mem_reads]
  unfold lowR highR
  cases k with
  | zero => simp; omega
  | succ k =>
    have h2 := n.near k hk
    have h3 : (hdH s).step = s.step.toNat := rfl
    rw [if_neg (by omega), if_neg (by omega), h3]
    simp only [pv]
    omega
theorem reach_ser {s : Ser} (n : SerN s) {m : List (List UInt8)} (h : RdM s m) : ∀ k, k ≤ s.rd.length → (pv s k, rs s k) ∈ reach (hdH s) m k
  | 0, _ => by simp [reach, pv, rs]
  | k + 1, hk => mem_reach.2 ⟨pv s k, rs s k, reach_ser n h k (by omega), reads_ser n hk, after_ser n h hk⟩
theorem go_ser {s : Ser} (n : SerN s) {m : List (List UInt8)} (h : RdM s m) : ∀ f k, k + f = s.rd.length → goB (hdH s) m f k (pv s k) (rs s k) = true
  | 0, _, _ => rfl
  | f + 1, k, hk => goB_succ.2 ⟨rdN s k, rs s (k + 1), reads_ser n (by omega), after_ser n h (by omega), go_ser n h f (k + 1) (by omega)⟩
theorem goes_ser {s : Ser} (n : SerN s) {m : List (List UInt8)} (h : RdM s m) {k : Nat} (hk : k < s.rd.length) : rdN s k ∈ goesAt (hdH s) m k :=
  mem_goes.2 ⟨rs s (k + 1), reach_ser n h (k + 1) hk, go_ser n h _ _ (by show k + 1 + (s.rd.length - (k + 1)) = _; omega)⟩
theorem mend_torn {s : Ser} (n : SerN s) {T : List (List UInt8)} (hT : ∀ r, r ∈ T → r ∈ fileL s) (hh : hdR s ∈ T) (hl : (linesL T).length ≤ 4000) : mendC (linesL T) = 0 := by
  obtain ⟨m, _, _, hm, _, hr⟩ := read_torn n hT hh hl
  have := go_ser n hm s.rd.length 0 (by omega)
  simp only [mendC, hr]
  rw [show (hdH s).many = s.rd.length from rfl]
  simp only [pv, rs] at this
  rw [this]
  rfl
end Go.Proofs.YtmdlmmfbcnkanaaR
namespace Go.Proofs.YtmdlmmfbcnkanaaR

theorem recsTo_zero (s : Ser) : ∀ k, (recsTo s k)[0]? = some (hdR s)
  | 0 => rfl
  | k + 1 => by
    have h := recsTo_zero s k
    have hp : 0 < (recsTo s k).length := by
      rcases Nat.eq_zero_or_pos (recsTo s k).length with h0 | h0
      · rw [List.eq_nil_of_length_eq_zero h0] at h
        cases h
      · exact h0
    unfold recsTo
    rw [List.getElem?_append_left (by simp), List.getElem?_append_left hp]
    exact h
/-- What is left of a file. -/
structure TornF (s : Ser) (T : List (List UInt8)) : Prop where
  sub : ∀ r, r ∈ T → r ∈ fileL s
  hd : hdR s ∈ T
  len : T.length ≤ 162
  bytes : (linesL T).length = 8 * T.length
theorem file_len {s : Ser} (n : SerN s) : (fileL s).length ≤ 81 ∧ 0 < (fileL s).length := by
  have h1 := recsTo_len s s.rd.length
  have h2 := n.len
  have h3 := recsTo_zero s s.rd.length
  refine ⟨by unfold fileL; omega, ?_⟩
  rcases Nat.eq_zero_or_pos (fileL s).length with h0 | h0
  · unfold fileL at h0
    rw [List.eq_nil_of_length_eq_zero h0] at h3
    cases h3
  · exact h0
end Go.Proofs.YtmdlmmfbcnkanaaR
namespace Go.Proofs.YtmdlmmfbcnkanaaR

theorem told_after {h : Head} {m : List (List UInt8)} {k s n s' x : Nat} (ha : after h m k s n = some s') (ht : told m 82 k = some x) : n = x := by
  obtain ⟨q, hq⟩ : ∃ q, q = if k % h.width = 0 then n else (s + n) % 100 := ⟨_, rfl⟩
  rw [after_eq hq] at ha
  split at ha
  · rename_i hc
    rw [Bool.and_eq_true] at hc
    rw [ht] at hc
    have := hc.1
    simp at this
    exact this.symm
  · cases ha
/-- Two lots of records that say the same but for a reading. -/
structure SameBut (h : Head) (m m' : List (List UInt8)) (k n : Nat) : Prop where
  other : ∀ j s x, j ≠ k → after h m' j s x = after h m j s x
  at_ : ∀ s, after h m' k s n = after h m k s n
theorem SameBut.reach {h : Head} {m m' : List (List UInt8)} {k n : Nat} (b : SameBut h m m' k n) : ∀ j, j ≤ k → ∀ x s, (x, s) ∈ reach h m j → (x, s) ∈ reach h m' j
  | 0, _, _, _, hx => hx
  | j + 1, hj, x, s, hx => by
    obtain ⟨r, q, h1, h2, h3⟩ := mem_reach.1 hx
    exact mem_reach.2 ⟨r, q, SameBut.reach b j (by omega) r q h1, h2, by rw [b.other j q x (by omega)]; exact h3⟩
/-- A range of one number. -/
theorem lohi_one {h : Head} {m : List (List UInt8)} {k n : Nat} (hn : n ∈ goesAt h m k) (hu : ∀ x, x ∈ goesAt h m k → x = n) : loAt h m k = n ∧ hiAt h m k = n := by
  obtain ⟨_, h2⟩ := rg_goes h m k
  rcases h2 with ⟨_, _, h5⟩ | ⟨a, b, ha, hb, e1, e2⟩
  · exact (h5 n hn).elim
  · rw [e1, e2, hu a ha, hu b hb]
    exact ⟨rfl, rfl⟩
end Go.Proofs.YtmdlmmfbcnkanaaR
namespace Go.Proofs.YtmdlmmfbcnkanaaR

section
variable {s : Ser} (n : SerN s)
def nbS (s : Ser) (b : Nat) : Nat := min s.width.toNat (s.rd.length - b * s.width.toNat)
def recB (s : Ser) (b j : Nat) : List UInt8 := if j < nbS s b then made 82 (b * s.width.toNat + j) (rdN s (b * s.width.toNat + j)) else made 80 b (smN s b)
def blS (s : Ser) : Nat := (s.rd.length + s.width.toNat - 1) / s.width.toNat
def iB (s : Ser) (b : Nat) : Nat := if b * s.width.toNat < s.rd.length then 1 + b * (s.width.toNat + 1) else 1 + s.rd.length + blS s
include n
theorem closes_ser {k : Nat} (hk : k < s.rd.length) : closesB s.rd.length s.width k = true ↔ k + 1 = s.rd.length ∨ k % s.width.toNat = s.width.toNat - 1 := by
  have hw := n.wd
  unfold closesB
  obtain ⟨w, hwe⟩ : ∃ w, s.width.toNat = w := ⟨_, rfl⟩
  rw [hwe] at hw ⊢
  rw [hw.2.2]
  have e : ((k : Int) % ((w : Nat) : Int)) = ((k % w : Nat) : Int) := rfl
  rw [e, Bool.or_eq_true, beq_iff_eq, beq_iff_eq]
  omega
theorem recs_len : ∀ k, k < s.rd.length → (recsTo s k).length = 1 + k + k / s.width.toNat
  | 0, _ => by simp [recsTo]
  | k + 1, hk => by
    have hw := n.wd
    have ih := recs_len k (by omega)
    have hc := closes_ser n (k := k) (by omega)
    have hlt := Nat.mod_lt k (show 0 < s.width.toNat by omega)
    have hdm := Nat.div_add_mod' k s.width.toNat
    by_cases h : closesB s.rd.length s.width k = true
    · have hm := (hc.1 h).resolve_left (by omega)
      have hd : (k + 1) / s.width.toNat = k / s.width.toNat + 1 := by
        rw [show k + 1 = (k / s.width.toNat + 1) * s.width.toNat by rw [Nat.add_mul]; omega]
        exact Nat.mul_div_cancel _ (by omega)
      simp [recsTo, h, ih, hd]
      omega
    · have hm : ¬ k % s.width.toNat = s.width.toNat - 1 := fun e => h (hc.2 (.inr e))
      have hd : (k + 1) / s.width.toNat = k / s.width.toNat := by
        have h0 : (k % s.width.toNat + 1) / s.width.toNat = 0 := Nat.div_eq_of_lt (by omega)
        conv => lhs; rw [show k + 1 = s.width.toNat * (k / s.width.toNat) + (k % s.width.toNat + 1) by rw [Nat.mul_comm]; omega]
        rw [Nat.mul_add_div (by omega), h0]
        rfl
      simp [recsTo, h, ih, hd]
      omega
omit n in
theorem recs_pre {k : Nat} : ∀ (d i : Nat) (x : List UInt8), (recsTo s k)[i]? = some x → (recsTo s (k + d))[i]? = some x
  | 0, _, _, h => h
  | d + 1, i, x, h => by
    have ih := recs_pre (k := k) d i x h
    have hl : i < (recsTo s (k + d)).length := (List.getElem?_eq_some_iff.1 ih).1
    show (recsTo s (k + d + 1))[i]? = _
    unfold recsTo
    rw [List.getElem?_append_left (by simp; omega), List.getElem?_append_left hl]
    exact ih
theorem file_R {k : Nat} (hk : k < s.rd.length) : (fileL s)[1 + k + k / s.width.toNat]? = some (made 82 k (rdN s k)) := by
  have h1 := recs_len n k hk
  have h2 : (recsTo s (k + 1))[1 + k + k / s.width.toNat]? = some (made 82 k (rdN s k)) := by
    unfold recsTo
    rw [List.getElem?_append_left (by simp [h1]), List.getElem?_append_right (by omega), h1]
    simp [rdN]
  have h3 := recs_pre (s.rd.length - (k + 1)) _ _ h2
  rwa [show k + 1 + (s.rd.length - (k + 1)) = s.rd.length by omega] at h3
theorem file_P {k : Nat} (hk : k < s.rd.length) (hc : closesB s.rd.length s.width k = true) : (fileL s)[2 + k + k / s.width.toNat]? = some (made 80 (k / s.width.toNat) (smN s (k / s.width.toNat))) := by
  have h1 := recs_len n k hk
  have h2 : (recsTo s (k + 1))[2 + k + k / s.width.toNat]? = some (made 80 (k / s.width.toNat) (smN s (k / s.width.toNat))) := by
    unfold recsTo
    rw [hc, if_pos rfl, List.getElem?_append_right (by simp [h1]; omega)]
    simp [h1]
    rw [show 2 + k + k / s.width.toNat - (1 + k + k / s.width.toNat + 1) = 0 by omega]
    simp [smN]
  have h3 := recs_pre (s.rd.length - (k + 1)) _ _ h2
  rwa [show k + 1 + (s.rd.length - (k + 1)) = s.rd.length by omega] at h3
theorem file_at {b j : Nat} (hb : b * s.width.toNat < s.rd.length) (hj : j ≤ nbS s b) : (fileL s)[1 + b * (s.width.toNat + 1) + j]? = some (recB s b j) := by
  have hw := n.wd
  have e1 : b * (s.width.toNat + 1) = b * s.width.toNat + b := by rw [Nat.mul_add, Nat.mul_one]
  have hnb : nbS s b = min s.width.toNat (s.rd.length - b * s.width.toNat) := rfl
  unfold recB
  by_cases h : j < nbS s b
  · rw [if_pos h]
    have hd : (b * s.width.toNat + j) / s.width.toNat = b := by
      rw [Nat.mul_comm, Nat.mul_add_div (by omega), Nat.div_eq_of_lt (by omega)]
      rfl
    have := file_R n (k := b * s.width.toNat + j) (by omega)
    rw [hd] at this
    rw [e1, show 1 + (b * s.width.toNat + b) + j = 1 + (b * s.width.toNat + j) + b by omega]
    exact this
  · rw [if_neg h]
    have hj' : j = nbS s b := by omega
    have hd : (b * s.width.toNat + (nbS s b - 1)) / s.width.toNat = b := by
      rw [Nat.mul_comm, Nat.mul_add_div (by omega), Nat.div_eq_of_lt (by omega)]
      rfl
    have hm : (b * s.width.toNat + (nbS s b - 1)) % s.width.toNat = nbS s b - 1 := by
      rw [Nat.mul_comm, Nat.mul_add_mod, Nat.mod_eq_of_lt (by omega)]
    have hc : closesB s.rd.length s.width ((b * s.width.toNat + (nbS s b - 1) : Nat) : Int) = true := (closes_ser n (k := b * s.width.toNat + (nbS s b - 1)) (by omega)).2 (by rw [hm]; omega)
    have := file_P n (k := b * s.width.toNat + (nbS s b - 1)) (by omega) hc
    rw [hd] at this
    rw [e1, show 1 + (b * s.width.toNat + b) + j = 2 + (b * s.width.toNat + (nbS s b - 1)) + b by omega]
    exact this
theorem bl_iff (b : Nat) : b < blS s ↔ b * s.width.toNat < s.rd.length := by
  have hw := n.wd
  unfold blS
  have h := Nat.le_div_iff_mul_le (x := b + 1) (y := s.rd.length + s.width.toNat - 1) (show 0 < s.width.toNat by omega)
  rw [Nat.add_mul] at h
  omega
theorem file_size : (fileL s).length = 1 + s.rd.length + blS s := by
  have hw := n.wd
  have hl := n.len
  obtain ⟨k, hk⟩ : ∃ k, s.rd.length = k + 1 := ⟨s.rd.length - 1, by omega⟩
  have h1 := recs_len n k (by omega)
  have hc : closesB s.rd.length s.width k = true := (closes_ser n (by omega)).2 (.inl hk.symm)
  have hb : blS s = k / s.width.toNat + 1 := by
    unfold blS
    rw [hk, show k + 1 + s.width.toNat - 1 = k + s.width.toNat by omega]
    exact Nat.add_div_right _ (by omega)
  unfold fileL
  rw [hb]
  conv => lhs; rw [hk]
  simp [recsTo, hc, h1]
  omega
theorem iB_next {b : Nat} (hb : b * s.width.toNat < s.rd.length) : iB s b + (nbS s b + 1) = iB s (b + 1) := by
  have hw := n.wd
  have e1 : b * (s.width.toNat + 1) = b * s.width.toNat + b := by rw [Nat.mul_add, Nat.mul_one]
  have e2 : (b + 1) * (s.width.toNat + 1) = b * s.width.toNat + b + s.width.toNat + 1 := by rw [Nat.add_mul, e1]; omega
  have e3 : (b + 1) * s.width.toNat = b * s.width.toNat + s.width.toNat := by rw [Nat.add_mul, Nat.one_mul]
  have hnb : nbS s b = min s.width.toNat (s.rd.length - b * s.width.toNat) := rfl
  unfold iB
  rw [if_pos hb, e1, e2, e3]
  split
  · omega
  · have h1 := bl_iff n b
    have h2 := bl_iff n (b + 1)
    rw [e3] at h2
    omega
end
/-- Some blocks of a file, of each of which one record at most is lost. -/
structure OneO (s : Ser) (b : Nat) (O : List (List UInt8)) : Prop where
  sub : ∀ r, r ∈ O → r ∈ fileL s
  hd : hdR s ∈ O
  len : O.length ≤ iB s b
  one : ∀ b', b' < b → ∃ k, ∀ j, j ≤ nbS s b' → j ≠ k → recB s b' j ∈ O
theorem OneO.start {s : Ser} (n : SerN s) : OneO s 0 [hdR s] :=
  ⟨fun r hr => by
    simp at hr
    rw [hr]
    exact List.mem_of_getElem? (recsTo_zero s s.rd.length), by simp, by have := n.len; unfold iB; rw [if_pos (by omega)]; simp, fun b' h => absurd h (by omega)⟩
theorem OneO.torn {s : Ser} (n : SerN s) {b : Nat} {O : List (List UInt8)} (o : OneO s b O) (hb : iB s b ≤ 162) : TornF s O :=
  ⟨o.sub, o.hd, by have := o.len; omega, linesL_len (fun r hr => recsTo_seven s _ r (o.sub r hr))⟩
/-- Part of a block besides. -/
structure OneJ (s : Ser) (b k j : Nat) (O O' : List (List UInt8)) : Prop where
  sub : ∀ r, r ∈ O' → r ∈ fileL s
  old : ∀ r, r ∈ O → r ∈ O'
  len : O'.length ≤ O.length + j
  got : ∀ i, i < j → i ≠ k → recB s b i ∈ O'
theorem OneJ.done {s : Ser} {b k : Nat} {O O' : List (List UInt8)} (n : SerN s) (hb : b * s.width.toNat < s.rd.length) (o : OneO s b O) (h : OneJ s b k (nbS s b + 1) O O') : OneO s (b + 1) O' :=
  ⟨h.sub, h.old _ o.hd, by have := o.len; have := h.len; have := iB_next n hb; omega, fun b' hb' => by
    by_cases e : b' = b
    · subst e
      exact ⟨k, fun j hj hne => h.got j (by omega) hne⟩
    · obtain ⟨k', hk'⟩ := o.one b' (by omega)
      exact ⟨k', fun j hj hne => h.old _ (hk' j hj hne)⟩⟩
theorem OneJ.skip {s : Ser} {b k j : Nat} {O O' : List (List UInt8)} (h : OneJ s b k j O O') (hj : j = k) : OneJ s b k (j + 1) O O' :=
  ⟨h.sub, h.old, by have := h.len; omega, fun i hi hne => h.got i (by omega) hne⟩
theorem OneJ.add {s : Ser} {b k j : Nat} {O O' : List (List UInt8)} (h : OneJ s b k j O O') (hm : recB s b j ∈ fileL s) : OneJ s b k (j + 1) O (O' ++ [recB s b j]) :=
  ⟨fun r hr => by
    rcases List.mem_append.1 hr with hr | hr
    · exact h.sub r hr
    · simp at hr
      rw [hr]
      exact hm, fun r hr => List.mem_append_left _ (h.old r hr), by have := h.len; simp; omega, fun i hi hne => by
    by_cases e : i = j
    · rw [e]
      simp
    · exact List.mem_append_left _ (h.got i (by omega) hne)⟩
end Go.Proofs.YtmdlmmfbcnkanaaR
namespace Go.Proofs.YtmdlmmfbcnkanaaR

theorem reads_le {h : Head} {k r n : Nat} (hn : n ∈ readsR h k r) : n ≤ 99 := by
  have := high_le h k r
  have := (mem_reads.1 hn).2
  omega
theorem reach_path {h : Head} {m : List (List UInt8)} : ∀ k x s', (x, s') ∈ reach h m (k + 1) → ∃ g q : Nat → Nat, q (k + 1) = s' ∧ g k = x ∧ ∀ j, j ≤ k → g j ≤ 99 ∧ after h m j (q j) (g j) = some (q (j + 1))
  | 0, x, s', hx => by
    obtain ⟨r, s, h1, h2, h3⟩ := mem_reach.1 hx
    refine ⟨fun _ => x, fun j => if j = 0 then s else s', by simp, rfl, fun j hj => ?_⟩
    obtain rfl : j = 0 := by omega
    exact ⟨reads_le h2, by simpa using h3⟩
  | k + 1, x, s', hx => by
    obtain ⟨r, s, h1, h2, h3⟩ := mem_reach.1 hx
    obtain ⟨g, q, e1, e2, e3⟩ := reach_path k r s h1
    refine ⟨fun j => if j = k + 1 then x else g j, fun j => if j = k + 2 then s' else q j, by simp, by simp, fun j hj => ?_⟩
    dsimp only
    by_cases e : j = k + 1
    · subst e
      simp only [if_true]
      rw [if_neg (by omega), e1]
      exact ⟨reads_le h2, h3⟩
    · rw [if_neg e, if_neg (by omega), if_neg (by omega)]
      exact e3 j (by omega)
theorem go_path {h : Head} {m : List (List UInt8)} : ∀ f j r s, goB h m f j r s = true → ∃ g q : Nat → Nat, q j = s ∧ ∀ i, j ≤ i → i < j + f → g i ≤ 99 ∧ after h m i (q i) (g i) = some (q (i + 1))
  | 0, j, r, s, _ => ⟨fun _ => 0, fun _ => s, rfl, fun i h1 h2 => absurd h2 (by omega)⟩
  | f + 1, j, r, s, hg => by
    obtain ⟨x, s', h1, h2, h3⟩ := goB_succ.1 hg
    obtain ⟨g, q, e1, e2⟩ := go_path f (j + 1) x s' h3
    refine ⟨fun i => if i = j then x else g i, fun i => if i = j then s else q i, by simp, fun i hi1 hi2 => ?_⟩
    dsimp only
    by_cases e : i = j
    · subst e
      simp only [if_true]
      rw [if_neg (by omega), e1]
      exact ⟨reads_le h1, h2⟩
    · rw [if_neg e, if_neg e, if_neg (by omega)]
      exact e2 i (by omega) (by omega)
theorem goes_path {h : Head} {m : List (List UInt8)} {k x : Nat} (hk : k < h.many) (hx : x ∈ goesAt h m k) : ∃ g q : Nat → Nat, g k = x ∧ ∀ j, j < h.many → g j ≤ 99 ∧ after h m j (q j) (g j) = some (q (j + 1)) := by
  obtain ⟨s', h1, h2⟩ := mem_goes.1 hx
  obtain ⟨g, q, e1, e2, e3⟩ := reach_path k x s' h1
  obtain ⟨g', q', d1, d2⟩ := go_path _ _ _ _ h2
  refine ⟨fun j => if j ≤ k then g j else g' j, fun j => if j ≤ k + 1 then q j else q' j, by simp [e2], fun j hj => ?_⟩
  dsimp only
  by_cases h3 : j ≤ k
  · rw [if_pos h3, if_pos (by omega), if_pos (by omega)]
    exact e3 j h3
  · have h4 := d2 j (by omega) (by omega)
    rw [if_neg h3, if_neg (show ¬ j + 1 ≤ k + 1 by omega)]
    by_cases h5 : j = k + 1
    · subst h5
      rw [if_pos (Nat.le_refl _), e1, ← d1]
      exact h4
    · rw [if_neg (by omega)]
      exact h4
theorem after_sum {h : Head} {m : List (List UInt8)} {k s n s' : Nat} (ha : after h m k s n = some s') : s' = if k % h.width = 0 then n else (s + n) % 100 := by
  obtain ⟨q, hq⟩ : ∃ q, q = if k % h.width = 0 then n else (s + n) % 100 := ⟨_, rfl⟩
  rw [after_eq hq] at ha
  split at ha
  · cases ha
    exact hq
  · cases ha
theorem after_P {h : Head} {m : List (List UInt8)} {k s n s' x : Nat} (ha : after h m k s n = some s') (hc : h.closes k = true) (ht : told m 80 (k / h.width) = some x) : s' = x := by
  obtain ⟨q, hq⟩ : ∃ q, q = if k % h.width = 0 then n else (s + n) % 100 := ⟨_, rfl⟩
  rw [after_eq hq] at ha
  split at ha
  · rename_i hcond
    cases ha
    rw [Bool.and_eq_true, hc, ht] at hcond
    have := hcond.2
    simp at this
    exact this.symm
  · cases ha
section
variable {s : Ser} {m : List (List UInt8)} {b p : Nat} {g q : Nat → Nat}
/-- Ahead of the lost one the sums are those of the series. -/
theorem sums_same (n : SerN s) (hb : b * s.width.toNat < s.rd.length) (hp : p < nbS s b) (hq : ∀ j, j < s.rd.length → g j ≤ 99 ∧ after (hdH s) m j (q j) (g j) = some (q (j + 1)))
    (hg : ∀ j, j < nbS s b → j ≠ p → g (b * s.width.toNat + j) = rdN s (b * s.width.toNat + j)) :
    ∀ i, i < p → q (b * s.width.toNat + i + 1) = rs s (b * s.width.toNat + i + 1) := by
  have hw := n.wd
  have hnb : nbS s b = min s.width.toNat (s.rd.length - b * s.width.toNat) := rfl
  have hmod : ∀ i, i < s.width.toNat → (b * s.width.toNat + i) % s.width.toNat = i := fun i hi => by rw [Nat.mul_comm, Nat.mul_add_mod, Nat.mod_eq_of_lt hi]
  intro i
  induction i with
  | zero =>
    intro hi
    have h1 := after_sum (hq (b * s.width.toNat + 0) (by omega)).2
    have h2 := hmod 0 (by omega)
    rw [show (hdH s).width = s.width.toNat from rfl, h2, if_pos rfl, hg 0 (by omega) (by omega)] at h1
    rw [h1]
    show _ = if (b * s.width.toNat + 0) % s.width.toNat = 0 then _ else _
    rw [h2, if_pos rfl]
    rfl
  | succ i ih =>
    intro hi
    have h0 := ih (by omega)
    have h1 := after_sum (hq (b * s.width.toNat + (i + 1)) (by omega)).2
    have h2 := hmod (i + 1) (by omega)
    rw [show (hdH s).width = s.width.toNat from rfl, h2, if_neg (by omega), hg (i + 1) (by omega) (by omega)] at h1
    rw [h1]
    show _ = if (b * s.width.toNat + (i + 1)) % s.width.toNat = 0 then _ else _
    rw [h2, if_neg (by omega)]
    rw [show b * s.width.toNat + (i + 1) = b * s.width.toNat + i + 1 by omega, h0]
/-- Behind it they differ by what it differs. -/
theorem sums_diff (n : SerN s) (hb : b * s.width.toNat < s.rd.length) (hp : p < nbS s b) (hq : ∀ j, j < s.rd.length → g j ≤ 99 ∧ after (hdH s) m j (q j) (g j) = some (q (j + 1)))
    (hg : ∀ j, j < nbS s b → j ≠ p → g (b * s.width.toNat + j) = rdN s (b * s.width.toNat + j)) :
    ∀ d, p + d < nbS s b → (q (b * s.width.toNat + (p + d) + 1) + rdN s (b * s.width.toNat + p)) % 100 = (rs s (b * s.width.toNat + (p + d) + 1) + g (b * s.width.toNat + p)) % 100 := by
  have hw := n.wd
  have hnb : nbS s b = min s.width.toNat (s.rd.length - b * s.width.toNat) := rfl
  have hmod : ∀ i, i < s.width.toNat → (b * s.width.toNat + i) % s.width.toNat = i := fun i hi => by rw [Nat.mul_comm, Nat.mul_add_mod, Nat.mod_eq_of_lt hi]
  have hsame := sums_same n hb hp hq hg
  intro d
  induction d with
  | zero =>
    intro hi
    have h1 := after_sum (hq (b * s.width.toNat + p) (by omega)).2
    have h2 := hmod p (by omega)
    have h3 : rs s (b * s.width.toNat + p + 1) = if (b * s.width.toNat + p) % s.width.toNat = 0 then rdN s (b * s.width.toNat + p) else (rs s (b * s.width.toNat + p) + rdN s (b * s.width.toNat + p)) % 100 := rfl
    rw [show (hdH s).width = s.width.toNat from rfl, h2] at h1
    rw [h2] at h3
    rw [show b * s.width.toNat + (p + 0) + 1 = b * s.width.toNat + p + 1 from rfl, h1, h3]
    by_cases h0 : p = 0
    · rw [if_pos h0, if_pos h0]
      omega
    · rw [if_neg h0, if_neg h0]
      have h4 := hsame (p - 1) (by omega)
      rw [show b * s.width.toNat + (p - 1) + 1 = b * s.width.toNat + p by omega] at h4
      rw [h4]
      omega
  | succ d ih =>
    intro hi
    have h0 := ih (by omega)
    have h1 := after_sum (hq (b * s.width.toNat + (p + (d + 1))) (by omega)).2
    have h2 := hmod (p + (d + 1)) (by omega)
    have h3 : rs s (b * s.width.toNat + (p + (d + 1)) + 1) = if (b * s.width.toNat + (p + (d + 1))) % s.width.toNat = 0 then rdN s (b * s.width.toNat + (p + (d + 1))) else (rs s (b * s.width.toNat + (p + (d + 1))) + rdN s (b * s.width.toNat + (p + (d + 1)))) % 100 := rfl
    rw [show (hdH s).width = s.width.toNat from rfl, h2, if_neg (by omega), hg (p + (d + 1)) (by omega) (by omega)] at h1
    rw [h2, if_neg (by omega)] at h3
    rw [h1, h3, show b * s.width.toNat + (p + (d + 1)) = b * s.width.toNat + (p + d) + 1 by omega]
    omega
end
/-- All readings are known. -/
theorem one_known {s : Ser} (n : SerN s) {m O : List (List UInt8)} (hm : RdM s m) (hmem : ∀ r, r ∈ m ↔ r ∈ O) (o : OneO s (blS s) O) {k : Nat} (hk : k < s.rd.length) : loAt (hdH s) m k = rdN s k ∧ hiAt (hdH s) m k = rdN s k := by
  refine lohi_one (goes_ser n hm hk) (fun x hx => ?_)
  obtain ⟨g, q, rfl, hq⟩ := goes_path (show k < (hdH s).many from hk) hx
  have hq' : ∀ j, j < s.rd.length → g j ≤ 99 ∧ after (hdH s) m j (q j) (g j) = some (q (j + 1)) := hq
  have hw := n.wd
  have hfun := hm.func n
  have hdm := Nat.div_add_mod' k s.width.toNat
  have hlt := Nat.mod_lt k (show 0 < s.width.toNat by omega)
  obtain ⟨b, hb⟩ : ∃ b, k / s.width.toNat = b := ⟨_, rfl⟩
  obtain ⟨i, hi⟩ : ∃ i, k % s.width.toNat = i := ⟨_, rfl⟩
  rw [hb, hi] at hdm
  rw [hi] at hlt
  have hbl : b * s.width.toNat < s.rd.length := by omega
  have hnb : nbS s b = min s.width.toNat (s.rd.length - b * s.width.toNat) := rfl
  have hib : i < nbS s b := by omega
  obtain ⟨p, hp⟩ := o.one b ((bl_iff n b).2 hbl)
  have hR : ∀ j, j < nbS s b → j ≠ p → g (b * s.width.toNat + j) = rdN s (b * s.width.toNat + j) := by
    intro j hj hne
    have h1 := (hmem _).2 (hp j (by omega) hne)
    unfold recB at h1
    rw [if_pos hj] at h1
    have hr := recR_ok n (show b * s.width.toNat + j < s.rd.length by omega)
    have hf : told m 82 (b * s.width.toNat + j) = some (rdN s (b * s.width.toNat + j)) := by
      unfold told
      rw [(find_iff hfun).2 ⟨h1, hr.2.1⟩]
      exact congrArg some hr.2.2.1
    exact told_after (hq' _ (by omega)).2 hf
  rw [← hdm]
  by_cases hpi : i = p
  · -- it is the lost one: the sum tells
    subst hpi
    have hP := (hmem _).2 (hp (nbS s b) (Nat.le_refl _) (by omega))
    unfold recB at hP
    rw [if_neg (by omega)] at hP
    have hb40 : b ≤ 40 := by
      have := n.len
      have : b ≤ b * s.width.toNat := Nat.le_mul_of_pos_right _ (by omega)
      omega
    have hr := recP_ok n hb40
    have hf : told m 80 b = some (smN s b) := by
      unfold told
      rw [(find_iff hfun).2 ⟨hP, hr.2.1⟩]
      exact congrArg some hr.2.2.1
    have hd : (b * s.width.toNat + (nbS s b - 1)) / s.width.toNat = b := by
      rw [Nat.mul_comm, Nat.mul_add_div (by omega), Nat.div_eq_of_lt (by omega)]
      rfl
    have hmd : (b * s.width.toNat + (nbS s b - 1)) % s.width.toNat = nbS s b - 1 := by
      rw [Nat.mul_comm, Nat.mul_add_mod, Nat.mod_eq_of_lt (by omega)]
    have hc : (hdH s).closes (b * s.width.toNat + (nbS s b - 1)) = true := by
      simp only [Head.closes, hdH, Bool.or_eq_true, beq_iff_eq, hmd]
      omega
    have h1 := after_P (hq' (b * s.width.toNat + (nbS s b - 1)) (by omega)).2 hc (by show told m 80 (_ / s.width.toNat) = _; rw [hd]; exact hf)
    have h2 := rs_close n (show b * s.width.toNat + (nbS s b - 1) < s.rd.length by omega) hc
    rw [hd] at h2
    have h3 := sums_diff n hbl hib hq' hR (nbS s b - 1 - i) (by omega)
    rw [show i + (nbS s b - 1 - i) = nbS s b - 1 by omega, h1, h2] at h3
    have h4 := (hq' (b * s.width.toNat + i) (by omega)).1
    have h5 := (n.rd (b * s.width.toNat + i) (by omega)).1
    omega
  · exact hR i hib hpi
theorem gap_one {s : Ser} (n : SerN s) {O : List (List UInt8)} (o : OneO s (blS s) O) : mendC (linesL O) = 0 ∧ gapC (linesL O) = (0, 7) ∧ ∃ m, readM (linesL O) = some (hdH s, m) ∧ ∀ k, k < s.rd.length → loAt (hdH s) m k = rdN s k ∧ hiAt (hdH s) m k = rdN s k := by
  have hsz := file_size n
  have hfl := file_len n
  have hi : iB s (blS s) = 1 + s.rd.length + blS s := by
    unfold iB
    rw [if_neg (fun h => Nat.lt_irrefl _ ((bl_iff n (blS s)).2 h))]
  have t := o.torn n (by omega)
  have hb := t.bytes
  have hl := t.len
  obtain ⟨m, _, hmem, hm, _, hr⟩ := read_torn n t.sub t.hd (by omega)
  have h0 := mend_torn n t.sub t.hd (by omega)
  have hk := fun k hk => one_known n hm hmem o (k := k) hk
  refine ⟨h0, ?_, m, hr, hk⟩
  have hg : gapAt (hdH s) m = none := find_range_none (fun j hj => by
    have := hk j hj
    rw [this.1, this.2]
    simp)
  unfold gapC
  rw [h0, if_pos rfl, hr]
  simp only [hg]
end Go.Proofs.YtmdlmmfbcnkanaaR
namespace Go.Proofs.YtmdlmmfbcnkanaaR
open Go.RowKit Go.Shelf
noncomputable def opsRy0 : Array Oper := (Try.f23.body.bind (regionOf 0)).getD #[]
noncomputable def opsRy1 : Array Oper := (Try.f23.body.bind (regionOf 1)).getD #[]
noncomputable def code23 : Code := (.seq (.region 0 opsRy0 false) (.seq (.region 1 opsRy1 false) .ret))
theorem body23 : Try.f23.body = some code23 := by kernel_rfl
/-- May a law play a series? -/
def readyB (s : Ser) : Bool := decide (s.rd.length ≤ 45) && decide (faultS s = 0)
theorem ready_any (s : Ser) (A : Option Addr) (c : Nat) (W : World) (hs : IntsAt W W.heap.size A s.rd) : Calls Try.prog 23 #[serV s A c] W (EvP W (.bool (readyB s))) := by
  refine (callsIn_wide (n := 5)).1 (callsIn_of_wp Try.func23 body23 trivial ?_ rfl)
  obtain ⟨a, ha⟩ : ∃ a : Act, a = { tmps := #[serV s A c] ++ Array.replicate (Try.f23.ntmps - (#[serV s A c] : Array Value).size) undef, defers := [] } := ⟨_, rfl⟩
  have hsz : a.tmps.size = 10 := by rw [ha]; simp [Try.ntmps23]
  have t0 : a.eval (.tmp 0) = serV s A c := by rw [ha]; simp [Act.eval]
  have hd_a : a.defers = [] := by rw [ha]
  rw [← ha]
  clear ha
  unfold code23
  refine wpIn_seq (region_p 2 ?_)
  intro K hK
  refine ListK.box (i := 0) (u := serV s A c) rfl (by simp [t0]) (bx24 W _ _ _ _ _) ?_
  refine ListK.assign (i := 1) (v := .bool false) rfl (by simp) ?_
  refine ListK.done (hK _ _ ?_)
  clear hK K
  replace hs : IntsAt (W.alloc (.cells #[.int .i64 s.width, .int .i64 s.step, .slice A s.rd.length c] 24)) W.heap.size A s.rd := hs.below ((Below.refl W.heap.size W).alloc (Nat.le_refl _) _) (Nat.le_refl _)
  have w1 := Whole.new W 24 #[.int .i64 s.width, .int .i64 s.step, .slice A s.rd.length c]
  have hb_b1 : Below W.heap.size W (W.alloc (.cells #[.int .i64 s.width, .int .i64 s.step, .slice A s.rd.length c] 24)) := (Below.refl _ W).alloc (Nat.le_refl _) _
  have hB := hb_b1
  generalize hq_b1 : W.heap.size = b1 at *
  generalize W.alloc (.cells #[.int .i64 s.width, .int .i64 s.step, .slice A s.rd.length c] 24) = W1 at *
  have hsz1 := hB.size
  replace hs := hs.more (show b1 ≤ W1.heap.size by omega)
  generalize hA : Act.put _ _ _ = a1
  have hz_a1 : a1.tmps.size = 10 := by rw [← hA]; simp only [size_put, hsz]
  have u1 : a1.eval (.tmp 1) = .pointer (some ⟨b1, 0, none⟩) := by rw [← hA]; exact (by simp [hsz])
  have hd_a1 : a1.defers = [] := by rw [← hA]; simp only [defers_put, hd_a]
  clear hA
  have hsh := short_any s A c W1
  by_cases h45 : s.rd.length ≤ 45
  · have hd : decide ((s.rd.length : Int) ≤ 45) = true := by simp; omega
    rw [hd] at hsh
    have hfa := fun (W2 : World) (hb : Below W1.heap.size W1 W2) => fault_any s A c W2 (by omega) ((hs.below hb (Nat.le_refl _)).more hb.size)
    have hwb := fun (W2 : World) (hb : Below W1.heap.size W1 W2) => w1.below hb w1.lt
    by_cases hf : faultS s = 0
    · skip
      refine wpIn_seq (region_p 8 ?_)
      intro K hK
      refine ListK.load (i := 0) (p := ⟨b1, 0, none⟩) (v := serV s A c) rfl (by simp [u1]) (ld24 ⟨w1.cell 0, w1.cell 1, w1.cell 2⟩) ?_
      refine ListK.call (i := 1) (vs := #[serV s A c]) rfl (enters_of Try.func15 (by kernel_rfl) rfl) (by simp [hz_a1]) ((hsh).mono ?_)
      rintro _ W2 ⟨rfl, hb2⟩
      replace w1 := hwb W2 hb2
      refine ⟨_, rfl, ?_⟩
      refine ListK.move (i := 2) (v := .bool true) rfl (by simp [hz_a1]) ?_
      refine ListK.load (i := 3) (p := ⟨b1, 0, none⟩) (v := serV s A c) rfl (by simp [u1]) (ld24 ⟨w1.cell 0, w1.cell 1, w1.cell 2⟩) ?_ (hw := wanted_g (e := 5) (b' := true) rfl (by simp [hz_a1]) rfl)
      refine ListK.call (i := 4) (vs := #[serV s A c]) rfl (enters_of Try.func20 (by kernel_rfl) rfl) (by simp [hz_a1]) ((hfa W2 hb2).mono ?_) (hw := wanted_g (e := 5) (b' := true) rfl (by simp [hz_a1]) rfl)
      rintro _ W3 ⟨rfl, hb3⟩
      refine ⟨_, rfl, ?_⟩
      refine ListK.bin (i := 5) (u := .int .i64 (faultS s)) (u' := .int .i64 0) (v := .bool true) rfl (by simp [hz_a1]) (by simp) (eql27T hf _) ?_ (hw := wanted_g (e := 5) (b' := true) rfl (by simp [hz_a1]) rfl)
      refine ListK.pick (i := 6) (b := true) (v := .bool true) rfl (by simp [hz_a1]) (by simp [hz_a1]) ?_
      refine ListK.assign (i := 7) (v := .bool true) rfl (by simp [hz_a1]) ?_
      refine ListK.done (hK _ _ (wpIn_ret ?_))
      refine bodyPost_ret (v := .bool true) (res1 Try.results23 (by simp [hz_a1])) (by simp only [defers_put, hd_a1]) ⟨by simp [readyB, h45, hf], ?_⟩
      rw [hq_b1]
      exact hB.trans ((hb2.trans (hb3.mono hb2.size)).mono (by omega))
    · skip
      refine wpIn_seq (region_p 8 ?_)
      intro K hK
      refine ListK.load (i := 0) (p := ⟨b1, 0, none⟩) (v := serV s A c) rfl (by simp [u1]) (ld24 ⟨w1.cell 0, w1.cell 1, w1.cell 2⟩) ?_
      refine ListK.call (i := 1) (vs := #[serV s A c]) rfl (enters_of Try.func15 (by kernel_rfl) rfl) (by simp [hz_a1]) ((hsh).mono ?_)
      rintro _ W2 ⟨rfl, hb2⟩
      replace w1 := hwb W2 hb2
      refine ⟨_, rfl, ?_⟩
      refine ListK.move (i := 2) (v := .bool true) rfl (by simp [hz_a1]) ?_
      refine ListK.load (i := 3) (p := ⟨b1, 0, none⟩) (v := serV s A c) rfl (by simp [u1]) (ld24 ⟨w1.cell 0, w1.cell 1, w1.cell 2⟩) ?_ (hw := wanted_g (e := 5) (b' := true) rfl (by simp [hz_a1]) rfl)
      refine ListK.call (i := 4) (vs := #[serV s A c]) rfl (enters_of Try.func20 (by kernel_rfl) rfl) (by simp [hz_a1]) ((hfa W2 hb2).mono ?_) (hw := wanted_g (e := 5) (b' := true) rfl (by simp [hz_a1]) rfl)
      rintro _ W3 ⟨rfl, hb3⟩
      refine ⟨_, rfl, ?_⟩
      refine ListK.bin (i := 5) (u := .int .i64 (faultS s)) (u' := .int .i64 0) (v := .bool false) rfl (by simp [hz_a1]) (by simp) (eql27F hf _) ?_ (hw := wanted_g (e := 5) (b' := true) rfl (by simp [hz_a1]) rfl)
      refine ListK.pick (i := 6) (b := true) (v := .bool false) rfl (by simp [hz_a1]) (by simp [hz_a1]) ?_
      refine ListK.assign (i := 7) (v := .bool false) rfl (by simp [hz_a1]) ?_
      refine ListK.done (hK _ _ (wpIn_ret ?_))
      refine bodyPost_ret (v := .bool false) (res1 Try.results23 (by simp [hz_a1])) (by simp only [defers_put, hd_a1]) ⟨by simp [readyB, hf], ?_⟩
      rw [hq_b1]
      exact hB.trans ((hb2.trans (hb3.mono hb2.size)).mono (by omega))
  · have hd : decide ((s.rd.length : Int) ≤ 45) = false := by simp; omega
    rw [hd] at hsh
    refine wpIn_seq (region_p 8 ?_)
    intro K hK
    refine ListK.load (i := 0) (p := ⟨b1, 0, none⟩) (v := serV s A c) rfl (by simp [u1]) (ld24 ⟨w1.cell 0, w1.cell 1, w1.cell 2⟩) ?_
    refine ListK.call (i := 1) (vs := #[serV s A c]) rfl (enters_of Try.func15 (by kernel_rfl) rfl) (by simp [hz_a1]) ((hsh).mono ?_)
    rintro _ W2 ⟨rfl, hb2⟩
    refine ⟨_, rfl, ?_⟩
    refine ListK.move (i := 2) (v := .bool false) rfl (by simp [hz_a1]) ?_
    refine ListK.passG (i := 3) (e := 5) (b' := false) rfl rfl (by simp [hz_a1]) rfl ?_
    refine ListK.passG (i := 4) (e := 5) (b' := false) rfl rfl (by simp [hz_a1]) rfl ?_
    refine ListK.passG (i := 5) (e := 5) (b' := false) rfl rfl (by simp [hz_a1]) rfl ?_
    refine ListK.pick (i := 6) (b := false) (v := .bool false) rfl (by simp [hz_a1]) (by simp) ?_
    refine ListK.assign (i := 7) (v := .bool false) rfl (by simp [hz_a1]) ?_
    refine ListK.done (hK _ _ (wpIn_ret ?_))
    refine bodyPost_ret (v := .bool false) (res1 Try.results23 (by simp [hz_a1])) (by simp only [defers_put, hd_a1]) ⟨by simp [readyB, h45], ?_⟩
    rw [hq_b1]
    exact hB.trans (hb2.mono (by omega))
section
attribute [local irreducible] AnyK StepK
variable {s : Ser} {T : List (List UInt8)} {r : List UInt8} {W : World}
end
end Go.Proofs.YtmdlmmfbcnkanaaR
namespace Go.Proofs.YtmdlmmfbcnkanaaR
open Go.RowKit Go.Shelf
theorem neq45F {x y : Operand} (p q : Int) (w : World) : (do eqGuard .neq 45 x y (.agg #[.int .i64 p, .int .i64 q]) (.agg #[.int .i64 p, .int .i64 q]); binOp .neq 45 (.agg #[.int .i64 p, .int .i64 q]) (.agg #[.int .i64 p, .int .i64 q]) : Sem Value).run Try.prog w = .ok (.bool false) w := by go_simp
section
attribute [local irreducible] AnyK StepK
variable {s : Ser} {T : List (List UInt8)} {W : World}
end
end Go.Proofs.YtmdlmmfbcnkanaaR
namespace Go.Proofs.YtmdlmmfbcnkanaaR
open Go.RowKit Go.Shelf
noncomputable def opsOn0 : Array Oper := (Try.f5.body.bind (regionOf 0)).getD #[]
noncomputable def opsOn1 : Array Oper := (Try.f5.body.bind (regionOf 1)).getD #[]
noncomputable def opsOn2 : Array Oper := (Try.f5.body.bind (regionOf 2)).getD #[]
noncomputable def opsOn3 : Array Oper := (Try.f5.body.bind (regionOf 3)).getD #[]
noncomputable def opsOn4 : Array Oper := (Try.f5.body.bind (regionOf 4)).getD #[]
noncomputable def opsOn5 : Array Oper := (Try.f5.body.bind (regionOf 5)).getD #[]
noncomputable def opsOn6 : Array Oper := (Try.f5.body.bind (regionOf 6)).getD #[]
noncomputable def opsOn7 : Array Oper := (Try.f5.body.bind (regionOf 7)).getD #[]
noncomputable def opsOn8 : Array Oper := (Try.f5.body.bind (regionOf 8)).getD #[]
noncomputable def opsOn9 : Array Oper := (Try.f5.body.bind (regionOf 9)).getD #[]
noncomputable def opsOn10 : Array Oper := (Try.f5.body.bind (regionOf 10)).getD #[]
noncomputable def opsOn11 : Array Oper := (Try.f5.body.bind (regionOf 11)).getD #[]
noncomputable def opsOn12 : Array Oper := (Try.f5.body.bind (regionOf 12)).getD #[]
noncomputable def opsOn13 : Array Oper := (Try.f5.body.bind (regionOf 13)).getD #[]
noncomputable def opsOn14 : Array Oper := (Try.f5.body.bind (regionOf 14)).getD #[]
noncomputable def opsOn15 : Array Oper := (Try.f5.body.bind (regionOf 15)).getD #[]
noncomputable def opsOn16 : Array Oper := (Try.f5.body.bind (regionOf 16)).getD #[]
noncomputable def opsOn17 : Array Oper := (Try.f5.body.bind (regionOf 17)).getD #[]
noncomputable def opsOn18 : Array Oper := (Try.f5.body.bind (regionOf 18)).getD #[]
noncomputable def opsOn19 : Array Oper := (Try.f5.body.bind (regionOf 19)).getD #[]
noncomputable def opsOn20 : Array Oper := (Try.f5.body.bind (regionOf 20)).getD #[]
noncomputable def opsOn21 : Array Oper := (Try.f5.body.bind (regionOf 21)).getD #[]
noncomputable def opsOn22 : Array Oper := (Try.f5.body.bind (regionOf 22)).getD #[]
noncomputable def opsOn23 : Array Oper := (Try.f5.body.bind (regionOf 23)).getD #[]
noncomputable def opsOn24 : Array Oper := (Try.f5.body.bind (regionOf 24)).getD #[]
noncomputable def opsOn25 : Array Oper := (Try.f5.body.bind (regionOf 25)).getD #[]
noncomputable def on_i : Code := (.seq (.seq (.region 11 opsOn11 false) (.cond (.tmp 53) .skip (.exit 2))) (.seq (.block 3 (.seq (.region 13 opsOn13 false) (.cond (.tmp 58) (.region 14 opsOn14 false) .skip))) (.region 12 opsOn12 false)))
noncomputable def on_l : Code := (.seq (.seq (.region 6 opsOn6 false) (.cond (.tmp 30) .skip (.exit 0))) (.seq (.block 1 (.seq (.region 8 opsOn8 false) (.seq (.region 9 opsOn9 false) (.seq (.seq (.region 10 opsOn10 false) (.block 2 (.loop on_i))) (.region 15 opsOn15 false))))) (.region 7 opsOn7 false)))
noncomputable def on_r : Code := (.seq (.seq (.region 21 opsOn21 false) (.cond (.tmp 102) .skip (.exit 4))) (.seq (.block 5 (.seq (.region 23 opsOn23 true) (.cond (.tmp 120) (.seq (.region 24 opsOn24 false) .ret) .skip))) (.region 22 opsOn22 false)))
noncomputable def on_e : Code := (.seq (.region 25 opsOn25 false) .ret)
noncomputable def on_c : Code := (.seq (.seq (.region 20 opsOn20 false) (.block 4 (.loop on_r))) on_e)
noncomputable def on_b : Code := (.seq (.region 16 opsOn16 false) (.seq (.region 17 opsOn17 false) (.seq (.seq (.region 18 opsOn18 false) (.cond (.tmp 98) (.seq (.region 19 opsOn19 false) .ret) .skip)) on_c)))
noncomputable def code5 : Code := (.seq (.region 0 opsOn0 false) (.seq (.seq (.region 1 opsOn1 false) (.cond (.tmp 19) (.seq (.region 2 opsOn2 false) .ret) .skip)) (.seq (.region 3 opsOn3 false) (.seq (.region 4 opsOn4 false) (.seq (.seq (.region 5 opsOn5 false) (.block 0 (.loop on_l))) on_b)))))
theorem body5 : Try.f5.body = some code5 := by kernel_rfl
section
attribute [local irreducible] AnyK StepK
variable {s : Ser} {W3 : World} {gl cL cw : Nat} {Aw : Option Addr} {lw : List Nat} {b1 c : Nat} {A : Option Addr}
set_option maxHeartbeats 400000 in
theorem on_i_any {b k j : Nat} {O O' : List (List UInt8)} {v : Value} {a : Act} {W : World} {Q : Exit → Act → World → Prop} (n : SerN s) (hbl : b * s.width.toNat < s.rd.length) (hs : StrsAt W3 W3.heap.size (some ⟨gl, 0, none⟩) (fileL s)) (hj : j ≤ nbS s b + 1) (hOl : O'.length ≤ 1000)
    (hz : a.tmps.size = 122) (hd_a : a.defers = []) (t1 : a.eval (.tmp 1) = .slice Aw lw.length cw) (t2 : a.eval (.tmp 2) = ptr b1) (t5 : a.eval (.tmp 5) = .slice (some ⟨gl, 0, none⟩) (fileL s).length cL) (t6 : a.eval (.tmp 6) = v) (t7 : a.eval (.tmp 7) = .int .i64 (iB s b : Int)) (t8 : a.eval (.tmp 8) = .int .i64 (b : Int)) (t9 : a.eval (.tmp 9) = .int .i64 ((nbS s b + 1 : Nat) : Int)) (t10 : a.eval (.tmp 10) = .int .i64 (k : Int)) (t11 : a.eval (.tmp 11) = .int .i64 (j : Int)) (os : OS W3 v O' W) (oj : OneJ s b k j O O')
    (hN : j < nbS s b + 1 → ∀ a' W' v' O'', a'.tmps.size = 122 → a'.defers = [] → a'.eval (.tmp 1) = .slice Aw lw.length cw → a'.eval (.tmp 2) = ptr b1 → a'.eval (.tmp 5) = .slice (some ⟨gl, 0, none⟩) (fileL s).length cL → a'.eval (.tmp 6) = v' → a'.eval (.tmp 7) = .int .i64 (iB s b : Int) → a'.eval (.tmp 8) = .int .i64 (b : Int) → a'.eval (.tmp 9) = .int .i64 ((nbS s b + 1 : Nat) : Int) → a'.eval (.tmp 10) = .int .i64 (k : Int) → a'.eval (.tmp 11) = .int .i64 ((j + 1 : Nat) : Int) → OS W3 v' O'' W' → OneJ s b k (j + 1) O O'' → Q .normal a' W')
    (hX : j = nbS s b + 1 → ∀ a', a'.tmps.size = 122 → a'.defers = [] → a'.eval (.tmp 1) = .slice Aw lw.length cw → a'.eval (.tmp 2) = ptr b1 → a'.eval (.tmp 5) = .slice (some ⟨gl, 0, none⟩) (fileL s).length cL → a'.eval (.tmp 6) = v → a'.eval (.tmp 7) = .int .i64 (iB s b : Int) → a'.eval (.tmp 8) = .int .i64 (b : Int) → a'.eval (.tmp 9) = .int .i64 ((nbS s b + 1 : Nat) : Int) → Q (.exit 2) a' W) :
    on_i.wpIn Fence.wide 5 Try.prog Q a W := by
  have hlen := n.len
  have hw := n.wd
  have hfl := file_len n
  have hnb : nbS s b = min s.width.toNat (s.rd.length - b * s.width.toNat) := rfl
  have hi : iB s b = 1 + b * (s.width.toNat + 1) := by unfold iB; rw [if_pos hbl]
  unfold on_i
  by_cases hjl : j < nbS s b + 1
  · skip
    refine wpIn_seq (wpIn_seq (region_p 3 ?_))
    intro K hK
    refine ListK.move (i := 0) (v := .int .i64 (j : Int)) rfl (by simp [t11]) ?_
    refine ListK.move (i := 1) (v := .int .i64 ((nbS s b + 1 : Nat) : Int)) rfl (by simp [t9]) ?_
    refine ListK.bin (i := 2) (u := .int .i64 (j : Int)) (u' := .int .i64 ((nbS s b + 1 : Nat) : Int)) (v := .bool true) rfl (by simp [hz]) (by simp [hz]) (lssT3 (by omega) _) ?_
    refine ListK.done (hK _ _ ?_)
    clear hK K
    refine wpIn_cond (t := true) (by simp [hz]) (wpIn_skip ?_)
    generalize hA : Act.put _ _ _ = a1
    have hz_a1 : a1.tmps.size = 122 := by rw [← hA]; simp only [size_put, hz]
    have u1 : a1.eval (.tmp 1) = .slice Aw lw.length cw := by rw [← hA]; exact (by simp [t1])
    have u2 : a1.eval (.tmp 2) = .pointer (some ⟨b1, 0, none⟩) := by rw [← hA]; exact (by simp [t2])
    have u5 : a1.eval (.tmp 5) = .slice (some ⟨gl, 0, none⟩) (fileL s).length cL := by rw [← hA]; exact (by simp [t5])
    have u6 : a1.eval (.tmp 6) = v := by rw [← hA]; exact (by simp [t6])
    have u7 : a1.eval (.tmp 7) = .int .i64 (iB s b : Int) := by rw [← hA]; exact (by simp [t7])
    have u8 : a1.eval (.tmp 8) = .int .i64 (b : Int) := by rw [← hA]; exact (by simp [t8])
    have u9 : a1.eval (.tmp 9) = .int .i64 ((nbS s b + 1 : Nat) : Int) := by rw [← hA]; exact (by simp [t9])
    have u10 : a1.eval (.tmp 10) = .int .i64 (k : Int) := by rw [← hA]; exact (by simp [t10])
    have u11 : a1.eval (.tmp 11) = .int .i64 (j : Int) := by rw [← hA]; exact (by simp [t11])
    have hd_a1 : a1.defers = [] := by rw [← hA]; simp only [defers_put, hd_a]
    clear hA
    have hat := file_at n hbl (show j ≤ nbS s b by omega)
    rw [← hi] at hat
    have hltL : iB s b + j < (fileL s).length := (List.getElem?_eq_some_iff.1 hat).1
    have hgo : ∀ (O'' : List (List UInt8)) (v' : Value) (a' : Act) (W' : World), a'.tmps.size = 122 → a'.defers = [] → a'.eval (.tmp 1) = .slice Aw lw.length cw → a'.eval (.tmp 2) = ptr b1 → a'.eval (.tmp 5) = .slice (some ⟨gl, 0, none⟩) (fileL s).length cL → a'.eval (.tmp 6) = v' → a'.eval (.tmp 7) = .int .i64 (iB s b : Int) → a'.eval (.tmp 8) = .int .i64 (b : Int) → a'.eval (.tmp 9) = .int .i64 ((nbS s b + 1 : Nat) : Int) → a'.eval (.tmp 10) = .int .i64 (k : Int) → a'.eval (.tmp 11) = .int .i64 (j : Int) → OS W3 v' O'' W' → OneJ s b k (j + 1) O O'' →
        (Code.region 12 opsOn12 false).wpIn Fence.wide 5 Try.prog Q a' W' := by
      intro O'' v' a' W' hz_a' hd_a' s1 s2 s5 s6 s7 s8 s9 s10 s11 os' oj'
      refine region_p 3 ?_
      intro K hK
      refine ListK.move (i := 0) (v := .int .i64 (j : Int)) rfl (by simp [s11]) ?_
      refine ListK.bin (i := 1) (u := .int .i64 (j : Int)) (u' := .int .i64 1) (v := .int .i64 ((j + 1 : Nat) : Int)) rfl (by simp [hz_a']) (by simp) (add3 (by omega) (by omega) _) ?_
      refine ListK.assign (i := 2) (v := .int .i64 ((j + 1 : Nat) : Int)) rfl (by simp [hz_a']) ?_
      refine ListK.done (hK _ _ ?_)
      clear hK K
      exact hN hjl _ _ v' O'' (by simp only [size_put, hz_a']) (by simp only [defers_put, hd_a']) (by simp [s1]) (by simp [s2]) (by simp [s5]) (by simp [s6]) (by simp [s7]) (by simp [s8]) (by simp [s9]) (by simp [s10]) (by simp [hz_a']) os' oj'
    refine wpIn_seq (wpIn_block ?_)
    by_cases hjk : j = k
    · skip
      refine wpIn_seq (region_p 3 ?_)
      intro K hK
      refine ListK.move (i := 0) (v := .int .i64 (j : Int)) rfl (by simp [u11]) ?_
      refine ListK.move (i := 1) (v := .int .i64 (k : Int)) rfl (by simp [u10]) ?_
      refine ListK.bin (i := 2) (u := .int .i64 (j : Int)) (u' := .int .i64 (k : Int)) (v := .bool false) rfl (by simp [hz_a1]) (by simp [hz_a1]) (neqF (by omega) _) ?_
      refine ListK.done (hK _ _ ?_)
      clear hK K
      refine wpIn_cond (t := false) (by simp [hz_a1]) (wpIn_skip ?_)
      exact hgo O' v _ W (by simp only [size_put, hz_a1]) (by simp only [defers_put, hd_a1]) (by simp [u1]) (by simp [u2]) (by simp [u5]) (by simp [u6]) (by simp [u7]) (by simp [u8]) (by simp [u9]) (by simp [u10]) (by simp [u11]) os (oj.skip hjk)
    · skip
      refine wpIn_seq (region_p 3 ?_)
      intro K hK
      refine ListK.move (i := 0) (v := .int .i64 (j : Int)) rfl (by simp [u11]) ?_
      refine ListK.move (i := 1) (v := .int .i64 (k : Int)) rfl (by simp [u10]) ?_
      refine ListK.bin (i := 2) (u := .int .i64 (j : Int)) (u' := .int .i64 (k : Int)) (v := .bool true) rfl (by simp [hz_a1]) (by simp [hz_a1]) (neqT (by omega) _) ?_
      refine ListK.done (hK _ _ ?_)
      clear hK K
      refine wpIn_cond (t := true) (by simp [hz_a1]) ?_
      generalize hA : Act.put _ _ _ = a2
      have hz_a2 : a2.tmps.size = 122 := by rw [← hA]; simp only [size_put, hz_a1]
      have q1 : a2.eval (.tmp 1) = .slice Aw lw.length cw := by rw [← hA]; exact (by simp [u1])
      have q2 : a2.eval (.tmp 2) = .pointer (some ⟨b1, 0, none⟩) := by rw [← hA]; exact (by simp [u2])
      have q5 : a2.eval (.tmp 5) = .slice (some ⟨gl, 0, none⟩) (fileL s).length cL := by rw [← hA]; exact (by simp [u5])
      have q6 : a2.eval (.tmp 6) = v := by rw [← hA]; exact (by simp [u6])
      have q7 : a2.eval (.tmp 7) = .int .i64 (iB s b : Int) := by rw [← hA]; exact (by simp [u7])
      have q8 : a2.eval (.tmp 8) = .int .i64 (b : Int) := by rw [← hA]; exact (by simp [u8])
      have q9 : a2.eval (.tmp 9) = .int .i64 ((nbS s b + 1 : Nat) : Int) := by rw [← hA]; exact (by simp [u9])
      have q10 : a2.eval (.tmp 10) = .int .i64 (k : Int) := by rw [← hA]; exact (by simp [u10])
      have q11 : a2.eval (.tmp 11) = .int .i64 (j : Int) := by rw [← hA]; exact (by simp [u11])
      have hd_a2 : a2.defers = [] := by rw [← hA]; simp only [defers_put, hd_a1]
      clear hA
      have c1 := (hs.below os.low (Nat.le_refl _)).cell36 hat
      rw [Nat.zero_add] at c1
      have hol := oj.len
      obtain ⟨v4, W4, hap4, os4⟩ := app36_run (l := recB s b j) (b := W.heap.size) (c := 1) (ty := 36) (os.below ((Below.refl W.heap.size W).alloc (Nat.le_refl _) (.cells #[strV (recB s b j)] 9))) ((Whole.new W 9 #[strV (recB s b j)]).cell 0) (by omega)
      refine region_p 10 ?_
      intro K hK
      refine ListK.move (i := 0) (v := v) rfl (by simp [q6]) ?_
      refine ListK.move (i := 1) (v := .slice (some ⟨gl, 0, none⟩) (fileL s).length cL) rfl (by simp [q5]) ?_
      refine ListK.move (i := 2) (v := .int .i64 (iB s b : Int)) rfl (by simp [q7]) ?_
      refine ListK.move (i := 3) (v := .int .i64 (j : Int)) rfl (by simp [q11]) ?_
      refine ListK.bin (i := 4) (u := .int .i64 (iB s b : Int)) (u' := .int .i64 (j : Int)) (v := .int .i64 ((iB s b + j : Nat) : Int)) rfl (by simp [hz_a2]) (by simp [hz_a2]) (add3e (by omega) (by omega) (by omega) _) ?_
      refine ListK.index (i := 5) (u := .slice (some ⟨gl, 0, none⟩) (fileL s).length cL) (u' := .int .i64 ((iB s b + j : Nat) : Int)) (v := .pointer (some ⟨gl, iB s b + j, none⟩)) rfl (by simp [hz_a2]) (by simp [hz_a2]) (by have := ix36 (b := gl) (o := 0) (c := cL) hltL W; rwa [Nat.zero_add] at this) ?_
      refine ListK.load (i := 6) (p := ⟨gl, iB s b + j, none⟩) (v := strV (recB s b j)) rfl (by simp [hz_a2]) (ld9 (c1)) ?_
      refine ListK.bsl (i := 7) (ps := #[(0, strV (recB s b j))]) (v := .slice (some ⟨W.heap.size, 0, none⟩) 1 1) rfl (by simp [hz_a2]) (bs36_1 _ W) ?_
      refine ListK.app36 (i := 8) rfl (by simp [hz_a2]) (by simp [hz_a2]) hap4 ?_
      refine ListK.assign (i := 9) (v := v4) rfl (by simp [hz_a2]) ?_
      refine ListK.done (hK _ _ ?_)
      clear hK K
      exact hgo (O' ++ [recB s b j]) v4 _ W4 (by simp only [size_put, hz_a2]) (by simp only [defers_put, hd_a2]) (by simp [q1]) (by simp [q2]) (by simp [q5]) (by simp [hz_a2]) (by simp [q7]) (by simp [q8]) (by simp [q9]) (by simp [q10]) (by simp [q11]) os4 (oj.add (List.mem_of_getElem? hat))
  · skip
    refine wpIn_seq (wpIn_seq (region_p 3 ?_))
    intro K hK
    refine ListK.move (i := 0) (v := .int .i64 (j : Int)) rfl (by simp [t11]) ?_
    refine ListK.move (i := 1) (v := .int .i64 ((nbS s b + 1 : Nat) : Int)) rfl (by simp [t9]) ?_
    refine ListK.bin (i := 2) (u := .int .i64 (j : Int)) (u' := .int .i64 ((nbS s b + 1 : Nat) : Int)) (v := .bool false) rfl (by simp [hz]) (by simp [hz]) (lssF3 (by omega) _) ?_
    refine ListK.done (hK _ _ ?_)
    clear hK K
    refine wpIn_cond (t := false) (by simp [hz]) (wpIn_exit ?_)
    exact hX (by omega) _ (by simp only [size_put, hz]) (by simp only [defers_put, hd_a]) (by simp [t1]) (by simp [t2]) (by simp [t5]) (by simp [t6]) (by simp [t7]) (by simp [t8]) (by simp [t9])
end
end Go.Proofs.YtmdlmmfbcnkanaaR
namespace Go.Proofs.YtmdlmmfbcnkanaaR
open Go.RowKit Go.Shelf
section
attribute [local irreducible] AnyK StepK
variable {s : Ser} {W3 : World} {gl cL cw : Nat} {Aw : Option Addr} {lw : List Nat} {b1 c : Nat} {A : Option Addr}
set_option maxHeartbeats 400000 in
theorem on_l_any {b : Nat} {O : List (List UInt8)} {v : Value} {a : Act} {W : World} {Q : Exit → Act → World → Prop} (n : SerN s) (hs : StrsAt W3 W3.heap.size (some ⟨gl, 0, none⟩) (fileL s)) (hw3 : WordsAt W3 W3.heap.size Aw lw) (w3 : Whole W3 b1 24 #[.int .i64 s.width, .int .i64 s.step, .slice A s.rd.length c]) (hbl : b ≤ blS s)
    (hz : a.tmps.size = 122) (hd_a : a.defers = []) (t1 : a.eval (.tmp 1) = .slice Aw lw.length cw) (t2 : a.eval (.tmp 2) = ptr b1) (t5 : a.eval (.tmp 5) = .slice (some ⟨gl, 0, none⟩) (fileL s).length cL) (t6 : a.eval (.tmp 6) = v) (t7 : a.eval (.tmp 7) = .int .i64 (iB s b : Int)) (t8 : a.eval (.tmp 8) = .int .i64 (b : Int)) (os : OS W3 v O W) (oo : OneO s b O)
    (hN : b < blS s → ∀ a' W' v' O', a'.tmps.size = 122 → a'.defers = [] → a'.eval (.tmp 1) = .slice Aw lw.length cw → a'.eval (.tmp 2) = ptr b1 → a'.eval (.tmp 5) = .slice (some ⟨gl, 0, none⟩) (fileL s).length cL → a'.eval (.tmp 6) = v' → a'.eval (.tmp 7) = .int .i64 (iB s (b + 1) : Int) → a'.eval (.tmp 8) = .int .i64 ((b + 1 : Nat) : Int) → OS W3 v' O' W' → OneO s (b + 1) O' → Q .normal a' W')
    (hX : b = blS s → ∀ a', a'.tmps.size = 122 → a'.defers = [] → a'.eval (.tmp 2) = ptr b1 → a'.eval (.tmp 6) = v → Q (.exit 0) a' W) :
    on_l.wpIn Fence.wide 5 Try.prog Q a W := by
  have hlen := n.len
  have hwd := n.wd
  have hfl := file_len n
  have hsz := file_size n
  have hbi := bl_iff n b
  have hol := oo.len
  have hnb : nbS s b = min s.width.toNat (s.rd.length - b * s.width.toNat) := rfl
  unfold on_l
  by_cases hlt : b * s.width.toNat < s.rd.length
  · have hi : iB s b = 1 + b * (s.width.toNat + 1) := by unfold iB; rw [if_pos hlt]
    have hltL : iB s b + 0 < (fileL s).length := by
      have hat := file_at n hlt (Nat.zero_le _)
      rw [← hi] at hat
      exact (List.getElem?_eq_some_iff.1 hat).1
    have hbb : b ≤ 40 := by
      have : b ≤ b * s.width.toNat := Nat.le_mul_of_pos_right _ (by omega)
      omega
    have hnx := iB_next n hlt
    refine wpIn_seq (wpIn_seq (region_p 4 ?_))
    intro K hK
    refine ListK.move (i := 0) (v := .int .i64 (iB s b : Int)) rfl (by simp [t7]) ?_
    refine ListK.move (i := 1) (v := .slice (some ⟨gl, 0, none⟩) (fileL s).length cL) rfl (by simp [t5]) ?_
    refine ListK.len (i := 2) (u := .slice (some ⟨gl, 0, none⟩) (fileL s).length cL) (v := .int .i64 (fileL s).length) rfl (by simp [hz]) (ln36 _ _ _ _ _) rfl ?_
    refine ListK.bin (i := 3) (u := .int .i64 (iB s b : Int)) (u' := .int .i64 (fileL s).length) (v := .bool true) rfl (by simp [hz]) (by simp [hz]) (lssT3 (by omega) _) ?_
    refine ListK.done (hK _ _ ?_)
    clear hK K
    refine wpIn_cond (t := true) (by simp [hz]) (wpIn_skip ?_)
    generalize hA : Act.put _ _ _ = a1
    have hz_a1 : a1.tmps.size = 122 := by rw [← hA]; simp only [size_put, hz]
    have u1 : a1.eval (.tmp 1) = .slice Aw lw.length cw := by rw [← hA]; exact (by simp [t1])
    have u2 : a1.eval (.tmp 2) = .pointer (some ⟨b1, 0, none⟩) := by rw [← hA]; exact (by simp [t2])
    have u5 : a1.eval (.tmp 5) = .slice (some ⟨gl, 0, none⟩) (fileL s).length cL := by rw [← hA]; exact (by simp [t5])
    have u6 : a1.eval (.tmp 6) = v := by rw [← hA]; exact (by simp [t6])
    have u7 : a1.eval (.tmp 7) = .int .i64 (iB s b : Int) := by rw [← hA]; exact (by simp [t7])
    have u8 : a1.eval (.tmp 8) = .int .i64 (b : Int) := by rw [← hA]; exact (by simp [t8])
    have hd_a1 : a1.defers = [] := by rw [← hA]; simp only [defers_put, hd_a]
    clear hA
    have w1 := w3.below os.low w3.lt
    have x0 : W.cell? ⟨b1, 0, none⟩ = some (.int .i64 (s.width.toNat : Int)) := (w1.cell 0).trans (congrArg (fun z => some (Value.int .i64 z)) hwd.2.2)
    have x2 : W.cell? ⟨b1, 2, none⟩ = some (.slice A s.rd.length c) := w1.cell 2
    have em : (b : Int) * (s.width.toNat : Int) = ((b * s.width.toNat : Nat) : Int) := by push_cast; rfl
    have hmn : min (s.width.toNat : Int) ((s.rd.length - b * s.width.toNat : Nat) : Int) = ((nbS s b : Nat) : Int) := by rw [hnb]; omega
    refine wpIn_seq (wpIn_block ?_)
    refine wpIn_seq (region_p 13 ?_)
    intro K hK
    refine ListK.field (i := 0) (u := .pointer (some ⟨b1, 0, none⟩)) (v := .pointer (some ⟨b1, 0, none⟩)) rfl (by simp [u2]) (fa24_0 _) ?_
    refine ListK.load (i := 1) (p := ⟨b1, 0, none⟩) (v := .int .i64 (s.width.toNat : Int)) rfl (by simp [hz_a1]) (ld3 (x0)) ?_
    refine ListK.field (i := 2) (u := .pointer (some ⟨b1, 0, none⟩)) (v := .pointer (some ⟨b1, 2, none⟩)) rfl (by simp [u2]) (fa24_2 _) ?_
    refine ListK.load (i := 3) (p := ⟨b1, 2, none⟩) (v := .slice A s.rd.length c) rfl (by simp [hz_a1]) (ld22 (x2)) ?_
    refine ListK.len (i := 4) (u := .slice A s.rd.length c) (v := .int .i64 s.rd.length) rfl (by simp [hz_a1]) (ln22 _ _ _ _ _) rfl ?_
    refine ListK.move (i := 5) (v := .int .i64 (b : Int)) rfl (by simp [u8]) ?_
    refine ListK.field (i := 6) (u := .pointer (some ⟨b1, 0, none⟩)) (v := .pointer (some ⟨b1, 0, none⟩)) rfl (by simp [u2]) (fa24_0 _) ?_
    refine ListK.load (i := 7) (p := ⟨b1, 0, none⟩) (v := .int .i64 (s.width.toNat : Int)) rfl (by simp [hz_a1]) (ld3 (x0)) ?_
    refine ListK.bin (i := 8) (u := .int .i64 (b : Int)) (u' := .int .i64 (s.width.toNat : Int)) (v := .int .i64 ((b * s.width.toNat : Nat) : Int)) rfl (by simp [hz_a1]) (by simp [hz_a1]) (by rw [← em]; exact mul3 (by omega) (by omega) _) ?_
    refine ListK.bin (i := 9) (u := .int .i64 s.rd.length) (u' := .int .i64 ((b * s.width.toNat : Nat) : Int)) (v := .int .i64 ((s.rd.length - b * s.width.toNat : Nat) : Int)) rfl (by simp [hz_a1]) (by simp [hz_a1]) (by rw [show ((s.rd.length - b * s.width.toNat : Nat) : Int) = (s.rd.length : Int) - ((b * s.width.toNat : Nat) : Int) by omega]; exact sub3 (by omega) (by omega) _) ?_
    refine ListK.bmin (i := 10) (m := (s.width.toNat : Int)) (n := ((s.rd.length - b * s.width.toNat : Nat) : Int)) rfl (by simp [hz_a1]) (by simp [hz_a1]) ?_
    rw [hmn]
    refine ListK.bin (i := 11) (u := .int .i64 ((nbS s b : Nat) : Int)) (u' := .int .i64 1) (v := .int .i64 ((nbS s b + 1 : Nat) : Int)) rfl (by simp [hz_a1]) (by simp) (add3 (by omega) (by omega) _) ?_
    refine ListK.assign (i := 12) (v := .int .i64 ((nbS s b + 1 : Nat) : Int)) rfl (by simp [hz_a1]) ?_
    refine ListK.done (hK _ _ ?_)
    clear hK K
    generalize hA : Act.put _ _ _ = a2
    have hz_a2 : a2.tmps.size = 122 := by rw [← hA]; simp only [size_put, hz_a1]
    have q1 : a2.eval (.tmp 1) = .slice Aw lw.length cw := by rw [← hA]; exact (by simp [u1])
    have q2 : a2.eval (.tmp 2) = .pointer (some ⟨b1, 0, none⟩) := by rw [← hA]; exact (by simp [u2])
    have q5 : a2.eval (.tmp 5) = .slice (some ⟨gl, 0, none⟩) (fileL s).length cL := by rw [← hA]; exact (by simp [u5])
    have q6 : a2.eval (.tmp 6) = v := by rw [← hA]; exact (by simp [u6])
    have q7 : a2.eval (.tmp 7) = .int .i64 (iB s b : Int) := by rw [← hA]; exact (by simp [u7])
    have q8 : a2.eval (.tmp 8) = .int .i64 (b : Int) := by rw [← hA]; exact (by simp [u8])
    have q9 : a2.eval (.tmp 9) = .int .i64 ((nbS s b + 1 : Nat) : Int) := by rw [← hA]; exact (by simp [hz_a1])
    have hd_a2 : a2.defers = [] := by rw [← hA]; simp only [defers_put, hd_a1]
    clear hA
    refine wpIn_seq (region_p 7 ?_)
    intro K hK
    refine ListK.move (i := 0) (v := .slice Aw lw.length cw) rfl (by simp [q1]) ?_
    refine ListK.move (i := 1) (v := .int .i64 (b : Int)) rfl (by simp [q8]) ?_
    refine ListK.call (i := 2) (vs := #[.slice Aw lw.length cw, .int .i64 (b : Int)]) rfl (enters_of Try.func29 (by kernel_rfl) rfl) (by simp [hz_a2]) ((word_any Aw lw cw b W (by omega) ((hw3.below os.low).more os.low.size)).mono ?_)
    rintro _ W1x ⟨wv, rfl, hwv, hWe⟩
    have hWf := hWe.symm
    subst hWf
    refine ⟨_, rfl, ?_⟩
    refine ListK.move (i := 3) (v := .int .i64 ((nbS s b + 1 : Nat) : Int)) rfl (by simp [q9]) ?_
    refine ListK.bin (i := 4) (u := .int .i64 ((nbS s b + 1 : Nat) : Int)) (u' := .int .i64 1) (v := .int .i64 ((nbS s b + 1 + 1 : Nat) : Int)) rfl (by simp [hz_a2]) (by simp) (add3 (by omega) (by omega) _) ?_
    refine ListK.bin (i := 5) (u := .int .i64 (wv : Int)) (u' := .int .i64 ((nbS s b + 1 + 1 : Nat) : Int)) (v := .int .i64 ((wv % (nbS s b + 1 + 1) : Nat) : Int)) rfl (by simp [hz_a2]) (by simp [hz_a2]) (rem3r (by omega) (by omega) rfl _) ?_
    refine ListK.assign (i := 6) (v := .int .i64 ((wv % (nbS s b + 1 + 1) : Nat) : Int)) rfl (by simp [hz_a2]) ?_
    refine ListK.done (hK _ _ ?_)
    clear hK K
    obtain ⟨k, hk⟩ : ∃ k, wv % (nbS s b + 1 + 1) = k := ⟨_, rfl⟩
    rw [hk]
    generalize hA : Act.put _ _ _ = a3
    have hz_a3 : a3.tmps.size = 122 := by rw [← hA]; simp only [size_put, hz_a2]
    have r1 : a3.eval (.tmp 1) = .slice Aw lw.length cw := by rw [← hA]; exact (by simp [q1])
    have r2 : a3.eval (.tmp 2) = .pointer (some ⟨b1, 0, none⟩) := by rw [← hA]; exact (by simp [q2])
    have r5 : a3.eval (.tmp 5) = .slice (some ⟨gl, 0, none⟩) (fileL s).length cL := by rw [← hA]; exact (by simp [q5])
    have r6 : a3.eval (.tmp 6) = v := by rw [← hA]; exact (by simp [q6])
    have r7 : a3.eval (.tmp 7) = .int .i64 (iB s b : Int) := by rw [← hA]; exact (by simp [q7])
    have r8 : a3.eval (.tmp 8) = .int .i64 (b : Int) := by rw [← hA]; exact (by simp [q8])
    have r9 : a3.eval (.tmp 9) = .int .i64 ((nbS s b + 1 : Nat) : Int) := by rw [← hA]; exact (by simp [q9])
    have r10 : a3.eval (.tmp 10) = .int .i64 (k : Int) := by rw [← hA]; exact (by simp [hz_a2])
    have hd_a3 : a3.defers = [] := by rw [← hA]; simp only [defers_put, hd_a2]
    clear hA
    refine wpIn_seq ?_
    refine wpIn_seq (region_p 1 ?_)
    intro K hK
    refine ListK.assign (i := 0) (v := .int .i64 0) rfl (by simp) ?_
    refine ListK.done (hK _ _ ?_)
    clear hK K
    generalize hA : Act.put _ _ _ = a4
    have hz_a4 : a4.tmps.size = 122 := by rw [← hA]; simp only [size_put, hz_a3]
    have p1 : a4.eval (.tmp 1) = .slice Aw lw.length cw := by rw [← hA]; exact (by simp [r1])
    have p2 : a4.eval (.tmp 2) = .pointer (some ⟨b1, 0, none⟩) := by rw [← hA]; exact (by simp [r2])
    have p5 : a4.eval (.tmp 5) = .slice (some ⟨gl, 0, none⟩) (fileL s).length cL := by rw [← hA]; exact (by simp [r5])
    have p6 : a4.eval (.tmp 6) = v := by rw [← hA]; exact (by simp [r6])
    have p7 : a4.eval (.tmp 7) = .int .i64 (iB s b : Int) := by rw [← hA]; exact (by simp [r7])
    have p8 : a4.eval (.tmp 8) = .int .i64 (b : Int) := by rw [← hA]; exact (by simp [r8])
    have p9 : a4.eval (.tmp 9) = .int .i64 ((nbS s b + 1 : Nat) : Int) := by rw [← hA]; exact (by simp [r9])
    have p10 : a4.eval (.tmp 10) = .int .i64 (k : Int) := by rw [← hA]; exact (by simp [r10])
    have p11 : a4.eval (.tmp 11) = .int .i64 0 := by rw [← hA]; exact (by simp [hz_a3])
    have hd_a4 : a4.defers = [] := by rw [← hA]; simp only [defers_put, hd_a3]
    clear hA
    refine wpIn_block (wpIn_loop (fun a W' => ∃ (j : Nat) (v' : Value) (O' : List (List UInt8)), j ≤ nbS s b + 1 ∧ a.tmps.size = 122 ∧ a.defers = [] ∧ a.eval (.tmp 1) = .slice Aw lw.length cw ∧ a.eval (.tmp 2) = ptr b1 ∧ a.eval (.tmp 5) = .slice (some ⟨gl, 0, none⟩) (fileL s).length cL ∧ a.eval (.tmp 6) = v' ∧ a.eval (.tmp 7) = .int .i64 (iB s b : Int) ∧ a.eval (.tmp 8) = .int .i64 (b : Int) ∧ a.eval (.tmp 9) = .int .i64 ((nbS s b + 1 : Nat) : Int) ∧ a.eval (.tmp 10) = .int .i64 (k : Int) ∧ a.eval (.tmp 11) = .int .i64 (j : Int) ∧ OS W3 v' O' W' ∧ OneJ s b k j O O') (fun a _ => nbS s b + 1 - (intOf (a.eval (.tmp 11))).toNat)
      ⟨0, v, O, Nat.zero_le _, hz_a4, hd_a4, p1, p2, p5, p6, p7, p8, p9, p10, p11, os, ⟨oo.sub, fun r h => h, Nat.le_refl _, fun i h => absurd h (Nat.not_lt_zero _)⟩⟩ ?_)
    rintro d1 W5 ⟨j, v5, O5, hj, hz_d, hd_d, y1, y2, y5, y6, y7, y8, y9, y10, y11, os5, oj5⟩
    have hol5 := oj5.len
    refine on_i_any n hlt hs hj (by omega) hz_d hd_d y1 y2 y5 y6 y7 y8 y9 y10 y11 os5 oj5 (fun hjl a' W' v' O' z0 zd z1 z2 z5 z6 z7 z8 z9 z10 z11 os' oj' => ?_) (fun hje a' z0 zd z1 z2 z5 z6 z7 z8 z9 => ?_)
    · refine ⟨⟨j + 1, v', O', by omega, z0, zd, z1, z2, z5, z6, z7, z8, z9, z10, z11, os', oj'⟩, ?_⟩
      rw [y11, z11]
      simp only [intOf]
      omega
    · subst hje
      show (Code.region 15 opsOn15 false).wpIn _ _ _ _ _ _
      refine region_p 4 ?_
      intro K hK
      refine ListK.move (i := 0) (v := .int .i64 (iB s b : Int)) rfl (by simp [z7]) ?_
      refine ListK.move (i := 1) (v := .int .i64 ((nbS s b + 1 : Nat) : Int)) rfl (by simp [z9]) ?_
      refine ListK.bin (i := 2) (u := .int .i64 (iB s b : Int)) (u' := .int .i64 ((nbS s b + 1 : Nat) : Int)) (v := .int .i64 (iB s (b + 1) : Int)) rfl (by simp [z0]) (by simp [z0]) (by rw [← hnx]; exact add3e (by omega) (by omega) (by omega) _) ?_
      refine ListK.assign (i := 3) (v := .int .i64 (iB s (b + 1) : Int)) rfl (by simp [z0]) ?_
      refine ListK.done (hK _ _ ?_)
      clear hK K
      show (Code.region 7 opsOn7 false).wpIn _ _ _ _ _ _
      have zd2 := zd
      generalize hA : Act.put _ _ _ = a6
      have hz_a6 : a6.tmps.size = 122 := by rw [← hA]; simp only [size_put, z0]
      have hd_a6 : a6.defers = [] := by rw [← hA]; simp only [defers_put, zd2]
      have x1 : a6.eval (.tmp 1) = .slice Aw lw.length cw := by rw [← hA]; exact (by simp [z1])
      have x22 : a6.eval (.tmp 2) = ptr b1 := by rw [← hA]; exact (by simp [z2])
      have x5 : a6.eval (.tmp 5) = .slice (some ⟨gl, 0, none⟩) (fileL s).length cL := by rw [← hA]; exact (by simp [z5])
      have x6 : a6.eval (.tmp 6) = v5 := by rw [← hA]; exact (by simp [z6])
      have x7 : a6.eval (.tmp 7) = .int .i64 (iB s (b + 1) : Int) := by rw [← hA]; exact (by simp [z0])
      have x8 : a6.eval (.tmp 8) = .int .i64 (b : Int) := by rw [← hA]; exact (by simp [z8])
      clear hA
      refine region_p 3 ?_
      intro K hK
      refine ListK.move (i := 0) (v := .int .i64 (b : Int)) rfl (by simp [x8]) ?_
      refine ListK.bin (i := 1) (u := .int .i64 (b : Int)) (u' := .int .i64 1) (v := .int .i64 ((b + 1 : Nat) : Int)) rfl (by simp [hz_a6]) (by simp) (add3 (by omega) (by omega) _) ?_
      refine ListK.assign (i := 2) (v := .int .i64 ((b + 1 : Nat) : Int)) rfl (by simp [hz_a6]) ?_
      refine ListK.done (hK _ _ ?_)
      clear hK K
      exact hN (hbi.2 hlt) _ W5 v5 O5 (by simp only [size_put, hz_a6]) (by simp only [defers_put, hd_a6]) (by simp [x1]) (by simp [x22]) (by simp [x5]) (by simp [x6]) (by simp [x7]) (by simp [hz_a6]) os5 (OneJ.done n hlt oo oj5)
  · have hbe : b = blS s := by omega
    have hi : iB s b = 1 + s.rd.length + blS s := by unfold iB; rw [if_neg hlt]
    refine wpIn_seq (wpIn_seq (region_p 4 ?_))
    intro K hK
    refine ListK.move (i := 0) (v := .int .i64 (iB s b : Int)) rfl (by simp [t7]) ?_
    refine ListK.move (i := 1) (v := .slice (some ⟨gl, 0, none⟩) (fileL s).length cL) rfl (by simp [t5]) ?_
    refine ListK.len (i := 2) (u := .slice (some ⟨gl, 0, none⟩) (fileL s).length cL) (v := .int .i64 (fileL s).length) rfl (by simp [hz]) (ln36 _ _ _ _ _) rfl ?_
    refine ListK.bin (i := 3) (u := .int .i64 (iB s b : Int)) (u' := .int .i64 (fileL s).length) (v := .bool false) rfl (by simp [hz]) (by simp [hz]) (lssF3 (by omega) _) ?_
    refine ListK.done (hK _ _ ?_)
    clear hK K
    refine wpIn_cond (t := false) (by simp [hz]) (wpIn_exit ?_)
    exact hX hbe _ (by simp only [size_put, hz]) (by simp only [defers_put, hd_a]) (by simp [t2]) (by simp [t6])
end
section
attribute [local irreducible] AnyK StepK
variable {s : Ser} {W : World}
set_option maxHeartbeats 400000 in
theorem on_c_any {b1 c : Nat} {A : Option Addr} {g1 : Nat} {f1 : Nat → Int} {a : Act} {W6 : World} (n : SerN s)
    (row1 : Row W6 g1 ((hdH s).many * 2) f1) (hf1 : ∀ i, i < (hdH s).many → f1 (i * 2) = rdN s i ∧ f1 (i * 2 + 1) = rdN s i) (w6 : Whole W6 b1 24 #[.int .i64 s.width, .int .i64 s.step, .slice A s.rd.length c]) (hs : IntsAt W6 W6.heap.size A s.rd)
    (hz : a.tmps.size = 122) (hd_a : a.defers = []) (t2 : a.eval (.tmp 2) = ptr b1) (t12 : a.eval (.tmp 12) = .slice (some ⟨g1, 0, none⟩) (hdH s).many (hdH s).many) (hB : Below W.heap.size W W6) :
    on_c.wpIn Fence.wide 5 Try.prog (bodyPost Try.prog Try.f5 (TP W true)) a W6 := by
  have hlen := n.len
  have hM : (hdH s).many = s.rd.length := rfl
  unfold on_c
  refine wpIn_seq (wpIn_seq (region_p 1 ?_))
  intro K hK
  refine ListK.assign (i := 0) (v := .int .i64 0) rfl (by simp) ?_
  refine ListK.done (hK _ _ ?_)
  clear hK K
  generalize hA : Act.put _ _ _ = a3
  have hz_a3 : a3.tmps.size = 122 := by rw [← hA]; simp only [size_put, hz]
  have q2 : a3.eval (.tmp 2) = .pointer (some ⟨b1, 0, none⟩) := by rw [← hA]; exact (by simp [t2])
  have q12 : a3.eval (.tmp 12) = .slice (some ⟨g1, 0, none⟩) (hdH s).many (hdH s).many := by rw [← hA]; exact (by simp [t12])
  have q16 : a3.eval (.tmp 16) = .int .i64 0 := by rw [← hA]; exact (by simp [hz])
  have hd_a3 : a3.defers = [] := by rw [← hA]; simp only [defers_put, hd_a]
  clear hA
  refine wpIn_block (wpIn_loop (fun a W' => ∃ k : Nat, Below W6.heap.size W6 W' ∧ k ≤ (hdH s).many ∧ a.tmps.size = 122 ∧ a.defers = [] ∧ a.eval (.tmp 2) = ptr b1 ∧ a.eval (.tmp 12) = .slice (some ⟨g1, 0, none⟩) (hdH s).many (hdH s).many ∧ a.eval (.tmp 16) = .int .i64 (k : Int)) (fun a _ => (hdH s).many - (intOf (a.eval (.tmp 16))).toNat)
    ⟨0, Below.refl _ _, by omega, hz_a3, hd_a3, q2, q12, q16⟩ ?_)
  rintro b2 W9 ⟨k, hb9, hkm, hz_b1, hd_b2, s2, s12, s16⟩
  unfold on_r
  by_cases hlt : k < (hdH s).many
  · skip
    refine wpIn_seq (wpIn_seq (region_p 4 ?_))
    intro K hK
    refine ListK.move (i := 0) (v := .int .i64 (k : Int)) rfl (by simp [s16]) ?_
    refine ListK.move (i := 1) (v := .slice (some ⟨g1, 0, none⟩) (hdH s).many (hdH s).many) rfl (by simp [s12]) ?_
    refine ListK.len (i := 2) (u := .slice (some ⟨g1, 0, none⟩) (hdH s).many (hdH s).many) (v := .int .i64 (hdH s).many) rfl (by simp [hz_b1]) (ln40 _ _ _ _ _) rfl ?_
    refine ListK.bin (i := 3) (u := .int .i64 (k : Int)) (u' := .int .i64 (hdH s).many) (v := .bool true) rfl (by simp [hz_b1]) (by simp [hz_b1]) (lssT3 (by omega) _) ?_
    refine ListK.done (hK _ _ ?_)
    clear hK K
    refine wpIn_cond (t := true) (by simp [hz_b1]) (wpIn_skip ?_)
    generalize hA : Act.put _ _ _ = b3
    have hz_b3 : b3.tmps.size = 122 := by rw [← hA]; simp only [size_put, hz_b1]
    have o2 : b3.eval (.tmp 2) = .pointer (some ⟨b1, 0, none⟩) := by rw [← hA]; exact (by simp [s2])
    have o12 : b3.eval (.tmp 12) = .slice (some ⟨g1, 0, none⟩) (hdH s).many (hdH s).many := by rw [← hA]; exact (by simp [s12])
    have o16 : b3.eval (.tmp 16) = .int .i64 (k : Int) := by rw [← hA]; exact (by simp [s16])
    have hd_b3 : b3.defers = [] := by rw [← hA]; simp only [defers_put, hd_b2]
    clear hA
    refine wpIn_seq (wpIn_block ?_)
    have w9 := w6.below hb9 w6.lt
    have r9 := row1.below hb9
    have hs9 := hs.below hb9 (Nat.le_refl _)
    have hks : k < s.rd.length := hlt
    have hx := (n.rd k hks).2
    have c1 := (r9 (k * 2) (by omega)).1
    have c2 := (r9 (k * 2 + 1) (by omega)).1
    rw [(hf1 k hlt).1] at c1
    rw [(hf1 k hlt).2] at c2
    obtain ⟨gb, off, hA, hgb, c3⟩ := hs9 k _ hx
    have hbd := (Below.refl W9.heap.size W9).drew
    have hgr : ∀ w w', (fun w : World => (Whole w b1 24 #[.int .i64 s.width, .int .i64 s.step, .slice A s.rd.length c] ∧ w.cell? ⟨gb, off + k, none⟩ = some (.int .i64 (rdN s k : Int))) ∧ (w.cell? ⟨g1, k * 2, none⟩ = some (.int .i64 (rdN s k : Int)) ∧ w.cell? ⟨g1, k * 2 + 1, none⟩ = some (.int .i64 (rdN s k : Int))) ∧ Below W9.heap.size W9 w) w → Below w.heap.size w w' → (fun w : World => (Whole w b1 24 #[.int .i64 s.width, .int .i64 s.step, .slice A s.rd.length c] ∧ w.cell? ⟨gb, off + k, none⟩ = some (.int .i64 (rdN s k : Int))) ∧ (w.cell? ⟨g1, k * 2, none⟩ = some (.int .i64 (rdN s k : Int)) ∧ w.cell? ⟨g1, k * 2 + 1, none⟩ = some (.int .i64 (rdN s k : Int))) ∧ Below W9.heap.size W9 w) w' := fun w w' h hb => ⟨⟨h.1.1.below hb h.1.1.lt, (hb.cell (block_lt_of_cell h.1.2)).trans h.1.2⟩, ⟨(hb.cell (block_lt_of_cell h.2.1.1)).trans h.2.1.1, (hb.cell (block_lt_of_cell h.2.1.2)).trans h.2.1.2⟩, h.2.2.trans (hb.mono h.2.2.size)⟩
    have hR9 : (fun w : World => (Whole w b1 24 #[.int .i64 s.width, .int .i64 s.step, .slice A s.rd.length c] ∧ w.cell? ⟨gb, off + k, none⟩ = some (.int .i64 (rdN s k : Int))) ∧ (w.cell? ⟨g1, k * 2, none⟩ = some (.int .i64 (rdN s k : Int)) ∧ w.cell? ⟨g1, k * 2 + 1, none⟩ = some (.int .i64 (rdN s k : Int))) ∧ Below W9.heap.size W9 w) W9 := ⟨⟨w9, c3⟩, ⟨c1, c2⟩, Below.refl _ _⟩
    refine wpIn_seq (region_K (KpR (fun w : World => (Whole w b1 24 #[.int .i64 s.width, .int .i64 s.step, .slice A s.rd.length c] ∧ w.cell? ⟨gb, off + k, none⟩ = some (.int .i64 (rdN s k : Int))) ∧ (w.cell? ⟨g1, k * 2, none⟩ = some (.int .i64 (rdN s k : Int)) ∧ w.cell? ⟨g1, k * 2 + 1, none⟩ = some (.int .i64 (rdN s k : Int))) ∧ Below W9.heap.size W9 w) (fun _ => false)) (wideF_plain _) (by kernel_rfl) Try.mixed ?_)
    change AnyK _ _ _ _ 16 (Array.replicate 16 false) _ _
    have hR : (fun w : World => (Whole w b1 24 #[.int .i64 s.width, .int .i64 s.step, .slice A s.rd.length c] ∧ w.cell? ⟨gb, off + k, none⟩ = some (.int .i64 (rdN s k : Int))) ∧ (w.cell? ⟨g1, k * 2, none⟩ = some (.int .i64 (rdN s k : Int)) ∧ w.cell? ⟨g1, k * 2 + 1, none⟩ = some (.int .i64 (rdN s k : Int))) ∧ Below W9.heap.size W9 w) W9.drew := hgr _ _ hR9 hbd
    refine AnyK.move (i := 0) may_o (v := .slice (some ⟨g1, 0, none⟩) (hdH s).many (hdH s).many) (by simp [o12]) hR ?_
    refine AnyK.move (i := 1) may_o (v := .int .i64 (k : Int)) (by simp [o16]) hR ?_
    refine AnyK.index (i := 2) may_o (u := .slice (some ⟨g1, 0, none⟩) (hdH s).many (hdH s).many) (u' := .int .i64 (k : Int)) (v := .pointer (some ⟨g1, k * 2, none⟩)) (by simp [hz_b3]) (by simp [hz_b3]) (fun w => by have := ix40 (b := g1) (o := 0) (c := (hdH s).many) hlt w; rwa [Nat.zero_add] at this) hR ?_
    refine AnyK.load (i := 3) may_o (p := ⟨g1, k * 2, none⟩) (v := .agg #[.int .i64 (rdN s k : Int), .int .i64 (rdN s k : Int)]) (by simp [hz_b3]) (fun w hw => ld45 hw.2.1.1 hw.2.1.2) hR ?_
    refine AnyK.field (i := 4) may_o (u := .pointer (some ⟨b1, 0, none⟩)) (v := .pointer (some ⟨b1, 2, none⟩)) (by simp [o2]) (fun w => fa24_2 w) hR ?_
    refine AnyK.load (i := 5) may_o (p := ⟨b1, 2, none⟩) (v := .slice (some ⟨gb, off, none⟩) s.rd.length c) (by simp [hz_b3]) (fun w hw => ld22 ((hw.1.1.cell 2).trans (by rw [hA]; rfl))) hR ?_
    refine AnyK.move (i := 6) may_o (v := .int .i64 (k : Int)) (by simp [o16]) hR ?_
    refine AnyK.index (i := 7) may_o (u := .slice (some ⟨gb, off, none⟩) s.rd.length c) (u' := .int .i64 (k : Int)) (v := .pointer (some ⟨gb, off + k, none⟩)) (by simp [hz_b3]) (by simp [hz_b3]) (fun w => ix22 hks w) hR ?_
    refine AnyK.load (i := 8) may_o (p := ⟨gb, off + k, none⟩) (v := .int .i64 (rdN s k : Int)) (by simp [hz_b3]) (fun w hw => ld3 hw.1.2) hR ?_
    refine AnyK.field (i := 9) may_o (u := .pointer (some ⟨b1, 0, none⟩)) (v := .pointer (some ⟨b1, 2, none⟩)) (by simp [o2]) (fun w => fa24_2 w) hR ?_
    refine AnyK.load (i := 10) may_o (p := ⟨b1, 2, none⟩) (v := .slice (some ⟨gb, off, none⟩) s.rd.length c) (by simp [hz_b3]) (fun w hw => ld22 ((hw.1.1.cell 2).trans (by rw [hA]; rfl))) hR ?_
    refine AnyK.move (i := 11) may_o (v := .int .i64 (k : Int)) (by simp [o16]) hR ?_
    refine AnyK.index (i := 12) may_o (u := .slice (some ⟨gb, off, none⟩) s.rd.length c) (u' := .int .i64 (k : Int)) (v := .pointer (some ⟨gb, off + k, none⟩)) (by simp [hz_b3]) (by simp [hz_b3]) (fun w => ix22 hks w) hR ?_
    refine AnyK.load (i := 13) may_o (p := ⟨gb, off + k, none⟩) (v := .int .i64 (rdN s k : Int)) (by simp [hz_b3]) (fun w hw => ld3 hw.1.2) hR ?_
    refine AnyK.pick1 (i := 14) (by kernel_rfl) ?_
    refine StepK.call (i := 14) (f := 28) (vs := #[.int .i64 (rdN s k : Int), .int .i64 (rdN s k : Int)]) rfl (enters_of Try.func28 (by kernel_rfl) rfl) rfl (by simp [hz_b3]) ((between_any (rdN s k : Int) (rdN s k : Int) _).mono ?_)
    rintro _ V14 ⟨rfl, hv14⟩
    replace hR : (fun w : World => (Whole w b1 24 #[.int .i64 s.width, .int .i64 s.step, .slice A s.rd.length c] ∧ w.cell? ⟨gb, off + k, none⟩ = some (.int .i64 (rdN s k : Int))) ∧ (w.cell? ⟨g1, k * 2, none⟩ = some (.int .i64 (rdN s k : Int)) ∧ w.cell? ⟨g1, k * 2 + 1, none⟩ = some (.int .i64 (rdN s k : Int))) ∧ Below W9.heap.size W9 w) V14 := hgr _ _ hR hv14
    refine ⟨_, rfl, fun _ _ => hR, ?_⟩
    refine AnyK.bin (i := 15) may_o (u := .agg #[.int .i64 (rdN s k : Int), .int .i64 (rdN s k : Int)]) (u' := .agg #[.int .i64 (rdN s k : Int), .int .i64 (rdN s k : Int)]) (v := .bool false) (by simp [hz_b3]) (by simp [hz_b3]) (fun w => neq45F _ _ w) hR ?_
    refine AnyK.done (by kernel_rfl) ?_
    refine wpIn_cond (t := false) (by simp [hz_b3]) (wpIn_skip ?_)
    generalize hA : Act.put _ _ _ = b4
    have hz_b4 : b4.tmps.size = 122 := by rw [← hA]; simp only [size_put, hz_b3]
    have x2 : b4.eval (.tmp 2) = .pointer (some ⟨b1, 0, none⟩) := by rw [← hA]; exact (by simp [o2])
    have x12 : b4.eval (.tmp 12) = .slice (some ⟨g1, 0, none⟩) (hdH s).many (hdH s).many := by rw [← hA]; exact (by simp [o12])
    have x16 : b4.eval (.tmp 16) = .int .i64 (k : Int) := by rw [← hA]; exact (by simp [o16])
    have hd_b4 : b4.defers = [] := by rw [← hA]; simp only [defers_put, hd_b3]
    clear hA
    refine region_p 3 ?_
    intro K hK
    refine ListK.move (i := 0) (v := .int .i64 (k : Int)) rfl (by simp [x16]) ?_
    refine ListK.bin (i := 1) (u := .int .i64 (k : Int)) (u' := .int .i64 1) (v := .int .i64 ((k + 1 : Nat) : Int)) rfl (by simp [hz_b4]) (by simp) (add3 (by omega) (by omega) _) ?_
    refine ListK.assign (i := 2) (v := .int .i64 ((k + 1 : Nat) : Int)) rfl (by simp [hz_b4]) ?_
    refine ListK.done (hK _ _ ?_)
    clear hK K
    refine ⟨⟨k + 1, hb9.trans (hR.2.2.mono hb9.size), by omega, (by simp only [size_put, hz_b4]), (by simp only [defers_put, hd_b4]), (by simp [x2]), (by simp [x12]), (by simp [hz_b4])⟩, ?_⟩
    rw [s16, show (Act.put _ _ _).eval (.tmp 16) = .int .i64 ((k + 1 : Nat) : Int) from (by simp [hz_b4])]
    simp only [intOf]
    omega
  · skip
    refine wpIn_seq (wpIn_seq (region_p 4 ?_))
    intro K hK
    refine ListK.move (i := 0) (v := .int .i64 (k : Int)) rfl (by simp [s16]) ?_
    refine ListK.move (i := 1) (v := .slice (some ⟨g1, 0, none⟩) (hdH s).many (hdH s).many) rfl (by simp [s12]) ?_
    refine ListK.len (i := 2) (u := .slice (some ⟨g1, 0, none⟩) (hdH s).many (hdH s).many) (v := .int .i64 (hdH s).many) rfl (by simp [hz_b1]) (ln40 _ _ _ _ _) rfl ?_
    refine ListK.bin (i := 3) (u := .int .i64 (k : Int)) (u' := .int .i64 (hdH s).many) (v := .bool false) rfl (by simp [hz_b1]) (by simp [hz_b1]) (lssF3 (by omega) _) ?_
    refine ListK.done (hK _ _ ?_)
    clear hK K
    refine wpIn_cond (t := false) (by simp [hz_b1]) (wpIn_exit ?_)
    show on_e.wpIn _ _ _ _ _ _
    unfold on_e
    refine wpIn_seq (region_p 2 ?_)
    intro K hK
    refine ListK.call (i := 0) (vs := #[]) rfl (enters_of Try.func16 (by kernel_rfl) rfl) (by simp) ((awake_any W9).mono ?_)
    rintro _ W10 ⟨rfl, hb10⟩
    refine ⟨_, rfl, ?_⟩
    refine ListK.assign (i := 1) (v := .bool true) rfl (by simp [hz_b1]) ?_
    refine ListK.done (hK _ _ (wpIn_ret ?_))
    exact bodyPost_ret (v := .bool true) (res1 Try.results5 (by simp [hz_b1])) (by simp only [defers_put, hd_b2]) ⟨rfl, hB.trans ((hb9.trans (hb10.mono hb9.size)).mono hB.size)⟩
set_option maxHeartbeats 400000 in
theorem on_b_any {b1 c : Nat} {A : Option Addr} {W3 : World} {v : Value} {O : List (List UInt8)} {a : Act} {W4 : World} (n : SerN s) (oo : OneO s (blS s) O) (os : OS W3 v O W4) (w4 : Whole W4 b1 24 #[.int .i64 s.width, .int .i64 s.step, .slice A s.rd.length c]) (hs : IntsAt W4 W4.heap.size A s.rd)
    (hz : a.tmps.size = 122) (hd_a : a.defers = []) (t2 : a.eval (.tmp 2) = ptr b1) (t6 : a.eval (.tmp 6) = v) (hB : Below W.heap.size W W4) :
    on_b.wpIn Fence.wide 5 Try.prog (bodyPost Try.prog Try.f5 (TP W true)) a W4 := by
  obtain ⟨h0, hgap, m, hrm, hkn⟩ := gap_one n oo
  have hsz := file_size n
  have hfl := file_len n
  have hi : iB s (blS s) = 1 + s.rd.length + blS s := by
    unfold iB
    rw [if_neg (fun h => Nat.lt_irrefl _ ((bl_iff n (blS s)).2 h))]
  have t := oo.torn n (by omega)
  have hTl := t.len
  have hTb := t.bytes
  obtain ⟨A4, c4, rfl, hst⟩ := os.strs
  unfold on_b
  refine wpIn_seq (region_p 9 ?_)
  intro K hK
  refine ListK.move (i := 0) (v := .slice A4 O.length c4) rfl (by simp [t6]) ?_
  refine ListK.call (i := 1) (vs := #[.slice A4 O.length c4]) rfl (enters_of Try.func21 (by kernel_rfl) rfl) (by simp [hz]) ((refLines_any A4 c4 O (by omega) (by omega) W4 hst).mono ?_)
  rintro _ W4x ⟨rfl, hWe⟩
  have hWf := hWe.symm
  subst hWf
  refine ⟨_, rfl, ?_⟩
  refine ListK.call (i := 2) (vs := #[strV (linesL O)]) rfl (enters_of Try.func26 (by kernel_rfl) rfl) (by simp [hz]) ((bytes_any (linesL O) (by omega) W4).mono ?_)
  rintro _ V6 ⟨v6, rfl, ob6⟩
  obtain ⟨A6, c6, rfl, hc6, hy6⟩ := ob6.bytes
  refine ⟨_, rfl, ?_⟩
  refine ListK.call (i := 3) (vs := #[.slice A6 (linesL O).length c6]) rfl (enters_of Try.func25 (by kernel_rfl) rfl) (by simp [hz]) ((mendX_any A6 (linesL O) c6 V6 hc6 (by omega) hy6).mono ?_)
  rintro e W6 hmp
  obtain ⟨hb6, B6, n6, d6, rfl, hx6, hm6⟩ := hmp
  refine ⟨_, rfl, ?_⟩
  refine ListK.move (i := 4) (v := .tuple #[.slice B6 n6 d6, .int .i64 (mendC (linesL O))]) rfl (by simp [hz]) ?_
  refine ListK.extract (i := 5) (u := .tuple #[.slice B6 n6 d6, .int .i64 (mendC (linesL O))]) (v := .slice B6 n6 d6) rfl (by simp [hz]) (ex0 _ _ _) ?_
  refine ListK.extract (i := 6) (u := .tuple #[.slice B6 n6 d6, .int .i64 (mendC (linesL O))]) (v := .int .i64 (mendC (linesL O))) rfl (by simp [hz]) (ex1 _ _ _) ?_
  refine ListK.assign (i := 7) (v := .slice B6 n6 d6) rfl (by simp [hz]) ?_
  refine ListK.assign (i := 8) (v := .int .i64 (mendC (linesL O))) rfl (by simp [hz]) ?_
  refine ListK.done (hK _ _ ?_)
  clear hK K
  have hb46 := ob6.low.trans (hb6.mono ob6.low.size)
  obtain ⟨hd1, m1, g1, f1, hr1, _, hh1, rfl, rfl, rfl, row1, hf1⟩ := hm6 h0
  rw [hrm] at hr1
  cases hr1
  rw [h0]
  generalize hA : Act.put _ _ _ = a1
  have hz_a1 : a1.tmps.size = 122 := by rw [← hA]; simp only [size_put, hz]
  have u2 : a1.eval (.tmp 2) = .pointer (some ⟨b1, 0, none⟩) := by rw [← hA]; exact (by simp [t2])
  have u6 : a1.eval (.tmp 6) = .slice A4 O.length c4 := by rw [← hA]; exact (by simp [t6])
  have u12 : a1.eval (.tmp 12) = .slice (some ⟨g1, 0, none⟩) (hdH s).many (hdH s).many := by rw [← hA]; exact (by simp [hz])
  have u13 : a1.eval (.tmp 13) = .int .i64 0 := by rw [← hA]; exact (by simp [hz])
  have hd_a1 : a1.defers = [] := by rw [← hA]; simp only [defers_put, hd_a]
  clear hA
  have hst6 := (hst.below hb46 (Nat.le_refl _)).wide hb46.size
  refine wpIn_seq (region_p 9 ?_)
  intro K hK
  refine ListK.move (i := 0) (v := .slice A4 O.length c4) rfl (by simp [u6]) ?_
  refine ListK.call (i := 1) (vs := #[.slice A4 O.length c4]) rfl (enters_of Try.func21 (by kernel_rfl) rfl) (by simp [hz_a1]) ((refLines_any A4 c4 O (by omega) (by omega) W6 hst6).mono ?_)
  rintro _ W6x ⟨rfl, hWe⟩
  have hWf := hWe.symm
  subst hWf
  refine ⟨_, rfl, ?_⟩
  refine ListK.call (i := 2) (vs := #[strV (linesL O)]) rfl (enters_of Try.func26 (by kernel_rfl) rfl) (by simp [hz_a1]) ((bytes_any (linesL O) (by omega) W6).mono ?_)
  rintro _ V7 ⟨v7, rfl, ob7⟩
  obtain ⟨A7, c7, rfl, hc7, hy7⟩ := ob7.bytes
  refine ⟨_, rfl, ?_⟩
  refine ListK.call (i := 3) (vs := #[.slice A7 (linesL O).length c7]) rfl (enters_of Try.func30 (by kernel_rfl) rfl) (by simp [hz_a1]) ((gap_any A7 (linesL O) c7 V7 hc7 (by omega) hy7).mono ?_)
  rintro _ W7 ⟨rfl, hb7⟩
  rw [hgap]
  refine ⟨_, rfl, ?_⟩
  refine ListK.move (i := 4) (v := .tuple #[.int .i64 0, .int .i64 7]) rfl (by simp [hz_a1]) ?_
  refine ListK.extract (i := 5) (u := .tuple #[.int .i64 0, .int .i64 7]) (v := .int .i64 0) rfl (by simp [hz_a1]) (ex0 _ _ _) ?_
  refine ListK.extract (i := 6) (u := .tuple #[.int .i64 0, .int .i64 7]) (v := .int .i64 7) rfl (by simp [hz_a1]) (ex1 _ _ _) ?_
  refine ListK.assign (i := 7) (v := .int .i64 0) rfl (by simp [hz_a1]) ?_
  refine ListK.assign (i := 8) (v := .int .i64 7) rfl (by simp [hz_a1]) ?_
  refine ListK.done (hK _ _ ?_)
  clear hK K
  have hb67 := ob7.low.trans (hb7.mono ob7.low.size)
  have hb47 := hb46.trans (hb67.mono hb46.size)
  have w7 := w4.below hb47 w4.lt
  have hs7 := (hs.below hb47 (Nat.le_refl _)).more hb47.size
  generalize hA : Act.put _ _ _ = a2
  have hz_a2 : a2.tmps.size = 122 := by rw [← hA]; simp only [size_put, hz_a1]
  have q2 : a2.eval (.tmp 2) = .pointer (some ⟨b1, 0, none⟩) := by rw [← hA]; exact (by simp [u2])
  have q12 : a2.eval (.tmp 12) = .slice (some ⟨g1, 0, none⟩) (hdH s).many (hdH s).many := by rw [← hA]; exact (by simp [u12])
  have q13 : a2.eval (.tmp 13) = .int .i64 0 := by rw [← hA]; exact (by simp [u13])
  have q14 : a2.eval (.tmp 14) = .int .i64 0 := by rw [← hA]; exact (by simp [hz_a1])
  have q15 : a2.eval (.tmp 15) = .int .i64 7 := by rw [← hA]; exact (by simp [hz_a1])
  have hd_a2 : a2.defers = [] := by rw [← hA]; simp only [defers_put, hd_a1]
  clear hA
  have x2 : W7.cell? ⟨b1, 2, none⟩ = some (.slice A s.rd.length c) := w7.cell 2
  refine wpIn_seq (wpIn_seq (region_p 14 ?_))
  intro K hK
  refine ListK.move (i := 0) (v := .int .i64 0) rfl (by simp [q13]) ?_
  refine ListK.bin (i := 1) (u := .int .i64 0) (u' := .int .i64 0) (v := .bool false) rfl (by simp [hz_a2]) (by simp) (neq27F rfl _) ?_
  refine ListK.move (i := 2) (v := .bool false) rfl (by simp [hz_a2]) ?_
  refine ListK.move (i := 3) (v := .slice (some ⟨g1, 0, none⟩) (hdH s).many (hdH s).many) rfl (by simp [q12]) ?_ (hw := wanted_g (e := 87) (b' := false) rfl (by simp [hz_a2]) rfl)
  refine ListK.lenW (i := 4) (u := .slice (some ⟨g1, 0, none⟩) (hdH s).many (hdH s).many) (v := .int .i64 (hdH s).many) rfl (by simp [hz_a2]) (ln40 _ _ _ _ _) rfl ?_ (hw := wanted_g (e := 87) (b' := false) rfl (by simp [hz_a2]) rfl)
  refine ListK.field (i := 5) (u := .pointer (some ⟨b1, 0, none⟩)) (v := .pointer (some ⟨b1, 2, none⟩)) rfl (by simp [q2]) (fa24_2 _) ?_ (hw := wanted_g (e := 87) (b' := false) rfl (by simp [hz_a2]) rfl)
  refine ListK.load (i := 6) (p := ⟨b1, 2, none⟩) (v := .slice A s.rd.length c) rfl (by simp [hz_a2]) (ld22 (x2)) ?_ (hw := wanted_g (e := 87) (b' := false) rfl (by simp [hz_a2]) rfl)
  refine ListK.lenW (i := 7) (u := .slice A s.rd.length c) (v := .int .i64 s.rd.length) rfl (by simp [hz_a2]) (ln22 _ _ _ _ _) rfl ?_ (hw := wanted_g (e := 87) (b' := false) rfl (by simp [hz_a2]) rfl)
  refine ListK.bin (i := 8) (u := .int .i64 (hdH s).many) (u' := .int .i64 s.rd.length) (v := .bool false) rfl (by simp [hz_a2]) (by simp [hz_a2]) (neqF rfl _) ?_ (hw := wanted_g (e := 87) (b' := false) rfl (by simp [hz_a2]) rfl)
  refine ListK.pick (i := 9) (b := false) (v := .bool false) rfl (by simp [hz_a2]) (by simp [hz_a2]) ?_
  refine ListK.move (i := 10) (v := .bool false) rfl (by simp [hz_a2]) ?_
  refine ListK.move (i := 11) (v := .int .i64 7) rfl (by simp [q15]) ?_ (hw := wanted_g (e := 95) (b' := false) rfl (by simp [hz_a2]) rfl)
  refine ListK.bin (i := 12) (u := .int .i64 7) (u' := .int .i64 7) (v := .bool false) rfl (by simp [hz_a2]) (by simp) (neq27F rfl _) ?_ (hw := wanted_g (e := 95) (b' := false) rfl (by simp [hz_a2]) rfl)
  refine ListK.pick (i := 13) (b := false) (v := .bool false) rfl (by simp [hz_a2]) (by simp [hz_a2]) ?_
  refine ListK.done (hK _ _ ?_)
  clear hK K
  refine wpIn_cond (t := false) (by simp [hz_a2]) (wpIn_skip ?_)
  show on_c.wpIn _ _ _ _ _ _
  exact on_c_any n (row1.below hb67) (fun i hi => ⟨(hf1 i hi).1.trans (hkn i hi).1, (hf1 i hi).2.trans (hkn i hi).2⟩) w7 hs7 (by simp only [size_put, hz_a2]) (by simp only [defers_put, hd_a2]) (by simp [q2]) (by simp [q12]) (hB.trans (hb47.mono hB.size))
end
set_option maxHeartbeats 400000 in
theorem one_wp (s : Ser) (A Aw : Option Addr) (c cw : Nat) (lw : List Nat) (W : World) (hs : IntsAt W W.heap.size A s.rd) (hw : WordsAt W W.heap.size Aw lw) :
    Calls Try.prog 5 #[serV s A c, .slice Aw lw.length cw] W (TP W true) := by
  refine (callsIn_wide (n := 5)).1 (callsIn_of_wp Try.func5 body5 trivial ?_ rfl)
  obtain ⟨a, ha⟩ : ∃ a : Act, a = { tmps := #[serV s A c, .slice Aw lw.length cw] ++ Array.replicate (Try.f5.ntmps - (#[serV s A c, .slice Aw lw.length cw] : Array Value).size) undef, defers := [] } := ⟨_, rfl⟩
  have hsz : a.tmps.size = 122 := by rw [ha]; simp [Try.ntmps5]
  have t0 : a.eval (.tmp 0) = serV s A c := by rw [ha]; simp [Act.eval]
  have t1 : a.eval (.tmp 1) = .slice Aw lw.length cw := by rw [ha]; simp [Act.eval]
  have hd_a : a.defers = [] := by rw [ha]
  rw [← ha]
  clear ha
  unfold code5
  refine wpIn_seq (region_p 2 ?_)
  intro K hK
  refine ListK.box (i := 0) (u := serV s A c) rfl (by simp [t0]) (bx24 W _ _ _ _ _) ?_
  refine ListK.assign (i := 1) (v := .bool false) rfl (by simp) ?_
  refine ListK.done (hK _ _ ?_)
  clear hK K
  replace hs : IntsAt (W.alloc (.cells #[.int .i64 s.width, .int .i64 s.step, .slice A s.rd.length c] 24)) W.heap.size A s.rd := hs.below ((Below.refl W.heap.size W).alloc (Nat.le_refl _) _) (Nat.le_refl _)
  replace hw : WordsAt (W.alloc (.cells #[.int .i64 s.width, .int .i64 s.step, .slice A s.rd.length c] 24)) W.heap.size Aw lw := hw.below ((Below.refl W.heap.size W).alloc (Nat.le_refl _) _)
  have w1 := Whole.new W 24 #[.int .i64 s.width, .int .i64 s.step, .slice A s.rd.length c]
  have hb_b1 : Below W.heap.size W (W.alloc (.cells #[.int .i64 s.width, .int .i64 s.step, .slice A s.rd.length c] 24)) := (Below.refl _ W).alloc (Nat.le_refl _) _
  have hB := hb_b1
  generalize hq_b1 : W.heap.size = b1 at *
  generalize W.alloc (.cells #[.int .i64 s.width, .int .i64 s.step, .slice A s.rd.length c] 24) = W1 at *
  have hsz1 := hB.size
  replace hs := hs.more (show b1 ≤ W1.heap.size by omega)
  replace hw := hw.more (show b1 ≤ W1.heap.size by omega)
  generalize hA : Act.put _ _ _ = a1
  have hz_a1 : a1.tmps.size = 122 := by rw [← hA]; simp only [size_put, hsz]
  have u1 : a1.eval (.tmp 1) = .slice Aw lw.length cw := by rw [← hA]; exact (by simp [t1])
  have u2 : a1.eval (.tmp 2) = .pointer (some ⟨b1, 0, none⟩) := by rw [← hA]; exact (by simp [hsz])
  have hd_a1 : a1.defers = [] := by rw [← hA]; simp only [defers_put, hd_a]
  clear hA
  have hrd := ready_any s A c W1 hs
  cases hrb : readyB s
  · rw [hrb] at hrd
    refine wpIn_seq (wpIn_seq (region_p 3 ?_))
    intro K hK
    refine ListK.load (i := 0) (p := ⟨b1, 0, none⟩) (v := serV s A c) rfl (by simp [u2]) (ld24 ⟨w1.cell 0, w1.cell 1, w1.cell 2⟩) ?_
    refine ListK.call (i := 1) (vs := #[serV s A c]) rfl (enters_of Try.func23 (by kernel_rfl) rfl) (by simp [hz_a1]) ((hrd).mono ?_)
    rintro _ W2 ⟨rfl, hb2⟩
    refine ⟨_, rfl, ?_⟩
    refine ListK.un (i := 2) (u := .bool false) (v := .bool true) rfl (by simp [hz_a1]) (not4 _ _) ?_
    refine ListK.done (hK _ _ ?_)
    clear hK K
    refine wpIn_cond (t := true) (by simp [hz_a1]) ?_
    refine wpIn_seq (region_p 2 ?_)
    intro K hK
    refine ListK.call (i := 0) (vs := #[]) rfl (enters_of Try.func16 (by kernel_rfl) rfl) (by simp) ((awake_any W2).mono ?_)
    rintro _ W3 ⟨rfl, hb3⟩
    refine ⟨_, rfl, ?_⟩
    refine ListK.assign (i := 1) (v := .bool true) rfl (by simp [hz_a1]) ?_
    refine ListK.done (hK _ _ (wpIn_ret ?_))
    refine bodyPost_ret (v := .bool true) (res1 Try.results5 (by simp [hz_a1])) (by simp only [defers_put, hd_a1]) ⟨rfl, ?_⟩
    rw [hq_b1]
    exact (hB.trans (hb2.mono (by omega))).trans (hb3.mono (by have := hb2.size; omega))
  rw [hrb] at hrd
  have hrb2 : s.rd.length ≤ 45 ∧ faultS s = 0 := by simpa [readyB] using hrb
  have n := serN hrb2.2
  have hfl := file_len n
  refine wpIn_seq (wpIn_seq (region_p 3 ?_))
  intro K hK
  refine ListK.load (i := 0) (p := ⟨b1, 0, none⟩) (v := serV s A c) rfl (by simp [u2]) (ld24 ⟨w1.cell 0, w1.cell 1, w1.cell 2⟩) ?_
  refine ListK.call (i := 1) (vs := #[serV s A c]) rfl (enters_of Try.func23 (by kernel_rfl) rfl) (by simp [hz_a1]) ((hrd).mono ?_)
  rintro _ W2 ⟨rfl, hb2⟩
  refine ⟨_, rfl, ?_⟩
  refine ListK.un (i := 2) (u := .bool true) (v := .bool false) rfl (by simp [hz_a1]) (not4 _ _) ?_
  refine ListK.done (hK _ _ ?_)
  clear hK K
  refine wpIn_cond (t := false) (by simp [hz_a1]) (wpIn_skip ?_)
  generalize hA : Act.put _ _ _ = a2
  have hz_a2 : a2.tmps.size = 122 := by rw [← hA]; simp only [size_put, hz_a1]
  have v1 : a2.eval (.tmp 1) = .slice Aw lw.length cw := by rw [← hA]; exact (by simp [u1])
  have v2 : a2.eval (.tmp 2) = .pointer (some ⟨b1, 0, none⟩) := by rw [← hA]; exact (by simp [u2])
  have hd_a2 : a2.defers = [] := by rw [← hA]; simp only [defers_put, hd_a1]
  clear hA
  have w2 := w1.below hb2 w1.lt
  have hs2 := (hs.below hb2 (Nat.le_refl _)).more hb2.size
  have hw2 := (hw.below hb2).more hb2.size
  have hB2 := hB.trans (hb2.mono (by omega))
  have hz2 := hB2.size
  rw [← hq_b1] at hB2
  refine wpIn_seq (region_p 3 ?_)
  intro K hK
  refine ListK.load (i := 0) (p := ⟨b1, 0, none⟩) (v := serV s A c) rfl (by simp [v2]) (ld24 ⟨w2.cell 0, w2.cell 1, w2.cell 2⟩) ?_
  refine ListK.call (i := 1) (vs := #[serV s A c]) rfl (enters_of Try.func22 (by kernel_rfl) rfl) (by simp [hz_a2]) ((refRecords_any s A c W2 hrb2.2 hs2).mono ?_)
  rintro _ W3 ⟨v3, rfl, os3⟩
  obtain ⟨g3, c3, rfl, _, hst3⟩ := os3.strs2 (List.ne_nil_of_length_pos hfl.2)
  refine ⟨_, rfl, ?_⟩
  refine ListK.assign (i := 2) (v := .slice (some ⟨g3, 0, none⟩) (fileL s).length c3) rfl (by simp [hz_a2]) ?_
  refine ListK.done (hK _ _ ?_)
  clear hK K
  have hB3 := hB2.trans (os3.low.mono hB2.size)
  have w3 := w2.below os3.low w2.lt
  have hs3 := (hs2.below os3.low (Nat.le_refl _)).more os3.low.size
  have hw3 := (hw2.below os3.low).more os3.low.size
  generalize hA : Act.put _ _ _ = a3
  have hz_a3 : a3.tmps.size = 122 := by rw [← hA]; simp only [size_put, hz_a2]
  have q1 : a3.eval (.tmp 1) = .slice Aw lw.length cw := by rw [← hA]; exact (by simp [v1])
  have q2 : a3.eval (.tmp 2) = .pointer (some ⟨b1, 0, none⟩) := by rw [← hA]; exact (by simp [v2])
  have q5 : a3.eval (.tmp 5) = .slice (some ⟨g3, 0, none⟩) (fileL s).length c3 := by rw [← hA]; exact (by simp [hz_a2])
  have hd_a3 : a3.defers = [] := by rw [← hA]; simp only [defers_put, hd_a2]
  clear hA
  have c0 := hst3.cell36 (recsTo_zero s s.rd.length)
  refine wpIn_seq (region_p 5 ?_)
  intro K hK
  refine ListK.move (i := 0) (v := .slice (some ⟨g3, 0, none⟩) (fileL s).length c3) rfl (by simp [q5]) ?_
  refine ListK.index (i := 1) (u := .slice (some ⟨g3, 0, none⟩) (fileL s).length c3) (u' := .int .i64 0) (v := .pointer (some ⟨g3, 0, none⟩)) rfl (by simp [hz_a3]) (by simp) (ix36 (i := 0) hfl.2 _) ?_
  refine ListK.load (i := 2) (p := ⟨g3, 0, none⟩) (v := strV (hdR s)) rfl (by simp [hz_a3]) (ld9 (c0)) ?_
  refine ListK.bsl (i := 3) (ps := #[(0, strV (hdR s))]) (v := .slice (some ⟨W3.heap.size, 0, none⟩) 1 1) rfl (by simp [hz_a3]) (bs36_1 _ W3) ?_
  refine ListK.assign (i := 4) (v := .slice (some ⟨W3.heap.size, 0, none⟩) 1 1) rfl (by simp [hz_a3]) ?_
  refine ListK.done (hK _ _ ?_)
  clear hK K
  have os4 := os_new (l := hdR s) (Below.refl W3.heap.size W3)
  generalize W3.alloc (.cells #[strV (hdR s)] 9) = W4 at *
  generalize hA : Act.put _ _ _ = a4
  have hz_a4 : a4.tmps.size = 122 := by rw [← hA]; simp only [size_put, hz_a3]
  have r1 : a4.eval (.tmp 1) = .slice Aw lw.length cw := by rw [← hA]; exact (by simp [q1])
  have r2 : a4.eval (.tmp 2) = .pointer (some ⟨b1, 0, none⟩) := by rw [← hA]; exact (by simp [q2])
  have r5 : a4.eval (.tmp 5) = .slice (some ⟨g3, 0, none⟩) (fileL s).length c3 := by rw [← hA]; exact (by simp [q5])
  have r6 : a4.eval (.tmp 6) = .slice (some ⟨W3.heap.size, 0, none⟩) 1 1 := by rw [← hA]; exact (by simp [hz_a3])
  have hd_a4 : a4.defers = [] := by rw [← hA]; simp only [defers_put, hd_a3]
  clear hA
  have hi0 : iB s 0 = 1 := by have := n.len; unfold iB; rw [if_pos (by omega)]; simp
  refine wpIn_seq (wpIn_seq (region_p 2 ?_))
  intro K hK
  refine ListK.assign (i := 0) (v := .int .i64 1) rfl (by simp) ?_
  refine ListK.assign (i := 1) (v := .int .i64 0) rfl (by simp) ?_
  refine ListK.done (hK _ _ ?_)
  clear hK K
  generalize hA : Act.put _ _ _ = a5
  have hz_a5 : a5.tmps.size = 122 := by rw [← hA]; simp only [size_put, hz_a4]
  have p1 : a5.eval (.tmp 1) = .slice Aw lw.length cw := by rw [← hA]; exact (by simp [r1])
  have p2 : a5.eval (.tmp 2) = .pointer (some ⟨b1, 0, none⟩) := by rw [← hA]; exact (by simp [r2])
  have p5 : a5.eval (.tmp 5) = .slice (some ⟨g3, 0, none⟩) (fileL s).length c3 := by rw [← hA]; exact (by simp [r5])
  have p6 : a5.eval (.tmp 6) = .slice (some ⟨W3.heap.size, 0, none⟩) 1 1 := by rw [← hA]; exact (by simp [r6])
  have p7 : a5.eval (.tmp 7) = .int .i64 1 := by rw [← hA]; exact (by simp [hz_a4])
  have p8 : a5.eval (.tmp 8) = .int .i64 0 := by rw [← hA]; exact (by simp [hz_a4])
  have hd_a5 : a5.defers = [] := by rw [← hA]; simp only [defers_put, hd_a4]
  clear hA
  refine wpIn_block (wpIn_loop (fun a W' => ∃ (b : Nat) (v' : Value) (O' : List (List UInt8)), b ≤ blS s ∧ a.tmps.size = 122 ∧ a.defers = [] ∧ a.eval (.tmp 1) = .slice Aw lw.length cw ∧ a.eval (.tmp 2) = ptr b1 ∧ a.eval (.tmp 5) = .slice (some ⟨g3, 0, none⟩) (fileL s).length c3 ∧ a.eval (.tmp 6) = v' ∧ a.eval (.tmp 7) = .int .i64 (iB s b : Int) ∧ a.eval (.tmp 8) = .int .i64 (b : Int) ∧ OS W3 v' O' W' ∧ OneO s b O') (fun a _ => blS s - (intOf (a.eval (.tmp 8))).toNat)
    ⟨0, _, [hdR s], Nat.zero_le _, hz_a5, hd_a5, p1, p2, p5, p6, by rw [hi0]; exact p7, p8, os4, OneO.start n⟩ ?_)
  rintro d1 W5 ⟨b, v5, O5, hb, hz_d, hd_d, y1, y2, y5, y6, y7, y8, os5, oo5⟩
  refine on_l_any n hst3 hw3 w3 hb hz_d hd_d y1 y2 y5 y6 y7 y8 os5 oo5 (fun hbl a' W' v' O' z0 zd z1 z2 z5 z6 z7 z8 os' oo' => ?_) (fun hbe a' z0 zd z2 z6 => ?_)
  · refine ⟨⟨b + 1, v', O', by omega, z0, zd, z1, z2, z5, z6, z7, z8, os', oo'⟩, ?_⟩
    rw [y8, z8]
    simp only [intOf]
    omega
  · subst hbe
    show on_b.wpIn _ _ _ _ _ _
    exact on_b_any n oo5 os5 (w3.below os5.low w3.lt) ((hs3.below os5.low (Nat.le_refl _)).more os5.low.size) z0 zd z2 z6 (hB3.trans (os5.low.mono hB3.size))
end Go.Proofs.YtmdlmmfbcnkanaaR
