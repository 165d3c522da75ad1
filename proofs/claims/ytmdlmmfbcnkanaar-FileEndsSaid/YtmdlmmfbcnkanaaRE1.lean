/- Texts for a law of package file, behind the shared ones, part 1: the law's own contracts and plain words. -/
import Derived.Test.YtmdlmmfbcnkanaaRA4

set_option linter.unusedVariables false
set_option maxRecDepth 10000

namespace Go.Proofs.YtmdlmmfbcnkanaaR
open Go.RowKit Go.Shelf
/-- A slice of words. -/
def WordsAt (w : World) (B : Nat) (A : Option Addr) (l : List Nat) : Prop := ∀ (k x : Nat), l[k]? = some x → x < 65536 ∧ ∃ b off, A = some ⟨b, off, none⟩ ∧ b < B ∧ w.cell? ⟨b, off + k, none⟩ = some (.int .u16 x)
theorem eql27F {x y : Operand} {m n : Int} (h : m ≠ n) (w : World) : (do eqGuard .eql 27 x y (.int .i64 m) (.int .i64 n); binOp .eql 27 (.int .i64 m) (.int .i64 n) : Sem Value).run Try.prog w = .ok (.bool false) w := by
  go_simp
section
variable {W0 : World} {b2 b3 b4 ba M : Nat} {Ds : List Nat} {m : List (List UInt8)}
theorem dig_nat {b : UInt8} (h : isDig b = true) : (dig b : Nat) = b.toNat - 48 ∧ dig b ≤ 9 := by
  simp [isDig] at h
  have : dig b = b.toNat - 48 := by
    unfold dig
    rw [UInt8.toNat_sub_of_le _ _ (by rw [UInt8.le_iff_toNat_le]; exact h.1)]
    rfl
  omega
end
end Go.Proofs.YtmdlmmfbcnkanaaR
namespace Go.Proofs.YtmdlmmfbcnkanaaR
open Go.RowKit Go.Shelf
noncomputable def opsFa0 : Array Oper := (Try.f20.body.bind (regionOf 0)).getD #[]
noncomputable def opsFa1 : Array Oper := (Try.f20.body.bind (regionOf 1)).getD #[]
noncomputable def code20 : Code := (.seq (.region 0 opsFa0 false) (.seq (.region 1 opsFa1 false) .ret))
theorem body20 : Try.f20.body = some code20 := by kernel_rfl
theorem fault_any (s : Ser) (A : Option Addr) (c : Nat) (W : World) (hl : s.rd.length ≤ 1000000) (hs : IntsAt W W.heap.size A s.rd) : Calls Try.prog 20 #[serV s A c] W (EvP W (.int .i64 (faultS s))) := by
  refine (callsIn_wide (n := 5)).1 (callsIn_of_wp Try.func20 body20 trivial ?_ rfl)
  obtain ⟨a, ha⟩ : ∃ a : Act, a = { tmps := #[serV s A c] ++ Array.replicate (Try.f20.ntmps - (#[serV s A c] : Array Value).size) undef, defers := [] } := ⟨_, rfl⟩
  have hsz : a.tmps.size = 5 := by rw [ha]; simp [Try.ntmps20]
  have t0 : a.eval (.tmp 0) = serV s A c := by rw [ha]; simp [Act.eval]
  have hd_a : a.defers = [] := by rw [ha]
  rw [← ha]
  clear ha
  unfold code20
  refine wpIn_seq (region_p 2 ?_)
  intro K hK
  refine ListK.box (i := 0) (u := serV s A c) rfl (by simp [t0]) (bx24 W _ _ _ _ _) ?_
  refine ListK.assign (i := 1) (v := .int .i64 0) rfl (by simp) ?_
  refine ListK.done (hK _ _ ?_)
  clear hK K
  replace hs : IntsAt (W.alloc (.cells #[.int .i64 s.width, .int .i64 s.step, .slice A s.rd.length c] 24)) W.heap.size A s.rd := hs.below ((Below.refl W.heap.size W).alloc (Nat.le_refl _) _) (Nat.le_refl _)
  have w1 := Whole.new W 24 #[.int .i64 s.width, .int .i64 s.step, .slice A s.rd.length c]
  have hb_b1 : Below W.heap.size W (W.alloc (.cells #[.int .i64 s.width, .int .i64 s.step, .slice A s.rd.length c] 24)) := (Below.refl _ W).alloc (Nat.le_refl _) _
  have hB := hb_b1
  generalize hq_b1 : W.heap.size = b1 at *
  generalize W.alloc (.cells #[.int .i64 s.width, .int .i64 s.step, .slice A s.rd.length c] 24) = W1 at *
  have hsz1 := hB.size
  generalize hA : Act.put _ _ _ = a1
  have hz_a1 : a1.tmps.size = 5 := by rw [← hA]; simp only [size_put, hsz]
  have u1 : a1.eval (.tmp 1) = .pointer (some ⟨b1, 0, none⟩) := by rw [← hA]; exact (by simp [hsz])
  have hd_a1 : a1.defers = [] := by rw [← hA]; simp only [defers_put, hd_a]
  clear hA
  refine wpIn_seq (region_p 3 ?_)
  intro K hK
  refine ListK.load (i := 0) (p := ⟨b1, 0, none⟩) (v := serV s A c) rfl (by simp [u1]) (ld24 ⟨w1.cell 0, w1.cell 1, w1.cell 2⟩) ?_
  refine ListK.call (i := 1) (vs := #[serV s A c]) rfl (enters_of Try.func35 (by kernel_rfl) rfl) (by simp [hz_a1]) ((refFault_any s A c W1 hl (hs.more (by omega))).mono ?_)
  rintro _ W2 ⟨rfl, hb2⟩
  refine ⟨_, rfl, ?_⟩
  refine ListK.assign (i := 2) (v := .int .i64 (faultS s)) rfl (by simp [hz_a1]) ?_
  refine ListK.done (hK _ _ (wpIn_ret ?_))
  exact bodyPost_ret (v := .int .i64 (faultS s)) (res1 Try.results20 (by simp [hz_a1])) (by simp only [defers_put, hd_a1]) ⟨rfl, by rw [hq_b1]; exact hB.trans (hb2.mono (by omega))⟩
noncomputable def opsSh0 : Array Oper := (Try.f15.body.bind (regionOf 0)).getD #[]
noncomputable def opsSh1 : Array Oper := (Try.f15.body.bind (regionOf 1)).getD #[]
noncomputable def code15 : Code := (.seq (.region 0 opsSh0 false) (.seq (.region 1 opsSh1 false) .ret))
theorem body15 : Try.f15.body = some code15 := by kernel_rfl
theorem short_any (s : Ser) (A : Option Addr) (c : Nat) (W : World) : Calls Try.prog 15 #[serV s A c] W (EvP W (.bool (decide ((s.rd.length : Int) ≤ 45)))) := by
  refine (callsIn_wide (n := 5)).1 (callsIn_of_wp Try.func15 body15 trivial ?_ rfl)
  obtain ⟨a, ha⟩ : ∃ a : Act, a = { tmps := #[serV s A c] ++ Array.replicate (Try.f15.ntmps - (#[serV s A c] : Array Value).size) undef, defers := [] } := ⟨_, rfl⟩
  have hsz : a.tmps.size = 7 := by rw [ha]; simp [Try.ntmps15]
  have t0 : a.eval (.tmp 0) = serV s A c := by rw [ha]; simp [Act.eval]
  have hd_a : a.defers = [] := by rw [ha]
  rw [← ha]
  clear ha
  unfold code15
  refine wpIn_seq (region_p 2 ?_)
  intro K hK
  refine ListK.box (i := 0) (u := serV s A c) rfl (by simp [t0]) (bx24 W _ _ _ _ _) ?_
  refine ListK.assign (i := 1) (v := .bool false) rfl (by simp) ?_
  refine ListK.done (hK _ _ ?_)
  clear hK K
  have w1 := Whole.new W 24 #[.int .i64 s.width, .int .i64 s.step, .slice A s.rd.length c]
  have hb_b1 : Below W.heap.size W (W.alloc (.cells #[.int .i64 s.width, .int .i64 s.step, .slice A s.rd.length c] 24)) := (Below.refl _ W).alloc (Nat.le_refl _) _
  have hB := hb_b1
  generalize hq_b1 : W.heap.size = b1 at *
  generalize W.alloc (.cells #[.int .i64 s.width, .int .i64 s.step, .slice A s.rd.length c] 24) = W1 at *
  generalize hA : Act.put _ _ _ = a1
  have hz_a1 : a1.tmps.size = 7 := by rw [← hA]; simp only [size_put, hsz]
  have u1 : a1.eval (.tmp 1) = .pointer (some ⟨b1, 0, none⟩) := by rw [← hA]; exact (by simp [hsz])
  have hd_a1 : a1.defers = [] := by rw [← hA]; simp only [defers_put, hd_a]
  clear hA
  refine wpIn_seq (region_p 5 ?_)
  intro K hK
  refine ListK.field (i := 0) (u := .pointer (some ⟨b1, 0, none⟩)) (v := .pointer (some ⟨b1, 2, none⟩)) rfl (by simp [u1]) (fa24_2 _) ?_
  refine ListK.load (i := 1) (p := ⟨b1, 2, none⟩) (v := .slice A s.rd.length c) rfl (by simp [hz_a1]) (ld22 (w1.cell 2)) ?_
  refine ListK.len (i := 2) (u := .slice A s.rd.length c) (v := .int .i64 s.rd.length) rfl (by simp [hz_a1]) (ln22 _ _ _ _ _) rfl ?_
  refine ListK.bin (i := 3) (u := .int .i64 s.rd.length) (u' := .int .i64 45) (v := .bool (decide ((s.rd.length : Int) ≤ 45))) rfl (by simp [hz_a1]) (by simp) (leq3 _) ?_
  refine ListK.assign (i := 4) (v := .bool (decide ((s.rd.length : Int) ≤ 45))) rfl (by simp [hz_a1]) ?_
  refine ListK.done (hK _ _ (wpIn_ret ?_))
  exact bodyPost_ret (v := .bool (decide ((s.rd.length : Int) ≤ 45))) (res1 Try.results15 (by simp [hz_a1])) (by simp only [defers_put, hd_a1]) ⟨rfl, by rw [hq_b1]; exact hB⟩
section
attribute [local irreducible] AnyK StepK
end
end Go.Proofs.YtmdlmmfbcnkanaaR
namespace Go.Proofs.YtmdlmmfbcnkanaaR
open Go.RowKit Go.Shelf
theorem ld66 {w : World} {p : Addr} {v : Value} (h : w.cell? p = some v) : (Instr.loadAt 66 (.pointer (some p))).run Try.prog w = .ok v w := by go_simp
theorem ln38 (A : Option Addr) (n c : Nat) (t : TypeId) (w : World) : (builtin .len #[38] t #[false] #[.slice A n c]).run Try.prog w = .ok (.value (.int .i64 (n : Int))) w := by go_simp
theorem ix38 {b o n c : Nat} {i : Nat} (h : i < n) (w : World) : (Instr.indexAt 38 (.slice (some ⟨b, o, none⟩) n c) (.int .i64 i)).run Try.prog w = .ok (.pointer (some ⟨b, o + i, none⟩)) w := by go_simp
theorem cv66 {n : Nat} (h : n < 65536) (w : World) : (convert 66 3 (.int .u16 (n : Int))).run Try.prog w = .ok (.int .i64 (n : Int)) w := by
  have h2 := IntWalk.i64_in (n : Int) (by omega)
  go_simp
theorem sl36L {b o n c k : Nat} (h : k ≤ n) (h2 : n ≤ c) (hc : k < c) (w : World) : (Instr.sliceAt 36 (.slice (some ⟨b, o, none⟩) n c) (some (.int .i64 k)) none none).run Try.prog w = .ok (.slice (some ⟨b, o + k, none⟩) (n - k) (c - k)) w := by
  go_simp
  omega
theorem sl36H {b o n c k : Nat} (h : k ≤ n) (h2 : n ≤ c) (w : World) : (Instr.sliceAt 36 (.slice (some ⟨b, o, none⟩) n c) none (some (.int .i64 k)) none).run Try.prog w = .ok (.slice (some ⟨b, o, none⟩) k c) w := by
  go_simp
  omega
noncomputable def opsWd0 : Array Oper := (Try.f29.body.bind (regionOf 0)).getD #[]
noncomputable def opsWd1 : Array Oper := (Try.f29.body.bind (regionOf 1)).getD #[]
noncomputable def opsWd2 : Array Oper := (Try.f29.body.bind (regionOf 2)).getD #[]
noncomputable def opsWd3 : Array Oper := (Try.f29.body.bind (regionOf 3)).getD #[]
noncomputable def code29 : Code := (.seq (.region 0 opsWd0 false) (.seq (.seq (.region 1 opsWd1 false) (.cond (.tmp 7) (.seq (.region 2 opsWd2 false) .ret) .skip)) (.seq (.region 3 opsWd3 false) .ret)))
theorem body29 : Try.f29.body = some code29 := by kernel_rfl
theorem word_any (A : Option Addr) (lw : List Nat) (c i : Nat) (W : World) (hi : i ≤ 100000) (hs : WordsAt W W.heap.size A lw) : Calls Try.prog 29 #[.slice A lw.length c, .int .i64 (i : Int)] W fun e w' => ∃ n : Nat, e = .returned (.int .i64 (n : Int)) ∧ n < 65536 ∧ w' = W := by
  refine (callsIn_wide (n := 5)).1 (callsIn_of_wp Try.func29 body29 trivial ?_ rfl)
  obtain ⟨a, ha⟩ : ∃ a : Act, a = { tmps := #[.slice A lw.length c, .int .i64 (i : Int)] ++ Array.replicate (Try.f29.ntmps - (#[.slice A lw.length c, .int .i64 (i : Int)] : Array Value).size) undef, defers := [] } := ⟨_, rfl⟩
  have hsz : a.tmps.size = 16 := by rw [ha]; simp [Try.ntmps29]
  have t0 : a.eval (.tmp 0) = .slice A lw.length c := by rw [ha]; simp [Act.eval]
  have t1 : a.eval (.tmp 1) = .int .i64 (i : Int) := by rw [ha]; simp [Act.eval]
  have hd_a : a.defers = [] := by rw [ha]
  rw [← ha]
  clear ha
  unfold code29
  refine wpIn_seq (region_p 1 ?_)
  intro K hK
  refine ListK.assign (i := 0) (v := .int .i64 0) rfl (by simp) ?_
  refine ListK.done (hK _ _ ?_)
  clear hK K
  generalize hA : Act.put _ _ _ = a1
  have hz_a1 : a1.tmps.size = 16 := by rw [← hA]; simp only [size_put, hsz]
  have u0 : a1.eval (.tmp 0) = .slice A lw.length c := by rw [← hA]; exact (by simp [t0])
  have u1 : a1.eval (.tmp 1) = .int .i64 (i : Int) := by rw [← hA]; exact (by simp [t1])
  have hd_a1 : a1.defers = [] := by rw [← hA]; simp only [defers_put, hd_a]
  clear hA
  by_cases h0 : lw.length = 0
  · skip
    refine wpIn_seq (wpIn_seq (region_p 3 ?_))
    intro K hK
    refine ListK.move (i := 0) (v := .slice A lw.length c) rfl (by simp [u0]) ?_
    refine ListK.len (i := 1) (u := .slice A lw.length c) (v := .int .i64 lw.length) rfl (by simp [hz_a1]) (ln38 _ _ _ _ _) rfl ?_
    refine ListK.bin (i := 2) (u := .int .i64 lw.length) (u' := .int .i64 0) (v := .bool true) rfl (by simp [hz_a1]) (by simp) (eql3T (by omega) _) ?_
    refine ListK.done (hK _ _ ?_)
    clear hK K
    refine wpIn_cond (t := true) (by simp [hz_a1]) ?_
    refine wpIn_seq (region_p 1 ?_)
    intro K hK
    refine ListK.assign (i := 0) (v := .int .i64 0) rfl (by simp) ?_
    refine ListK.done (hK _ _ (wpIn_ret ?_))
    simp only [Exit.then]
    refine bodyPost_ret (v := .int .i64 0) (res1 Try.results29 (by simp [hz_a1])) (by simp only [defers_put, hd_a1]) ?_
    exact ⟨0, rfl, by omega, rfl⟩
  · skip
    refine wpIn_seq (wpIn_seq (region_p 3 ?_))
    intro K hK
    refine ListK.move (i := 0) (v := .slice A lw.length c) rfl (by simp [u0]) ?_
    refine ListK.len (i := 1) (u := .slice A lw.length c) (v := .int .i64 lw.length) rfl (by simp [hz_a1]) (ln38 _ _ _ _ _) rfl ?_
    refine ListK.bin (i := 2) (u := .int .i64 lw.length) (u' := .int .i64 0) (v := .bool false) rfl (by simp [hz_a1]) (by simp) (eql3F (by omega) _) ?_
    refine ListK.done (hK _ _ ?_)
    clear hK K
    refine wpIn_cond (t := false) (by simp [hz_a1]) (wpIn_skip ?_)
    generalize hA : Act.put _ _ _ = a2
    have hz_a2 : a2.tmps.size = 16 := by rw [← hA]; simp only [size_put, hz_a1]
    have v0 : a2.eval (.tmp 0) = .slice A lw.length c := by rw [← hA]; exact (by simp [u0])
    have v1 : a2.eval (.tmp 1) = .int .i64 (i : Int) := by rw [← hA]; exact (by simp [u1])
    have hd_a2 : a2.defers = [] := by rw [← hA]; simp only [defers_put, hd_a1]
    clear hA
    have hlt := Nat.mod_lt i (show 0 < lw.length by omega)
    have hx := List.getElem?_eq_getElem hlt
    obtain ⟨hx6, b, off, rfl, hb, hc⟩ := hs (i % lw.length) _ hx
    refine wpIn_seq (region_p 9 ?_)
    intro K hK
    refine ListK.move (i := 0) (v := .slice (some ⟨b, off, none⟩) lw.length c) rfl (by simp [v0]) ?_
    refine ListK.move (i := 1) (v := .int .i64 (i : Int)) rfl (by simp [v1]) ?_
    refine ListK.move (i := 2) (v := .slice (some ⟨b, off, none⟩) lw.length c) rfl (by simp [v0]) ?_
    refine ListK.len (i := 3) (u := .slice (some ⟨b, off, none⟩) lw.length c) (v := .int .i64 lw.length) rfl (by simp [hz_a2]) (ln38 _ _ _ _ _) rfl ?_
    refine ListK.bin (i := 4) (u := .int .i64 (i : Int)) (u' := .int .i64 lw.length) (v := .int .i64 ((i % lw.length : Nat) : Int)) rfl (by simp [hz_a2]) (by simp [hz_a2]) (rem3r (by omega) (by omega) rfl _) ?_
    refine ListK.index (i := 5) (u := .slice (some ⟨b, off, none⟩) lw.length c) (u' := .int .i64 ((i % lw.length : Nat) : Int)) (v := .pointer (some ⟨b, off + i % lw.length, none⟩)) rfl (by simp [hz_a2]) (by simp [hz_a2]) (ix38 hlt _) ?_
    refine ListK.load (i := 6) (p := ⟨b, off + i % lw.length, none⟩) (v := .int .u16 (lw[i % lw.length] : Int)) rfl (by simp [hz_a2]) (ld66 (hc)) ?_
    refine ListK.conv (i := 7) (u := .int .u16 (lw[i % lw.length] : Int)) (v := .int .i64 (lw[i % lw.length] : Int)) rfl (by simp [hz_a2]) (cv66 hx6 _) ?_
    refine ListK.assign (i := 8) (v := .int .i64 (lw[i % lw.length] : Int)) rfl (by simp [hz_a2]) ?_
    refine ListK.done (hK _ _ (wpIn_ret ?_))
    refine bodyPost_ret (v := .int .i64 (lw[i % lw.length] : Int)) (res1 Try.results29 (by simp [hz_a2])) (by simp only [defers_put, hd_a2]) ?_
    exact ⟨_, rfl, hx6, rfl⟩
theorem app36n_run {W0 W : World} {v : Value} {L ys : List (List UInt8)} {A : Option Addr} {c : Nat} {ty : TypeId} (h : OS W0 v L W) (hs : StrsAt W W.heap.size A ys) (hL : L.length ≤ 100000) (hy : ys.length ≤ 100000) :
    ∃ v' w', (Builtin.append_ #[36, 36] ty #[v, .slice A ys.length c]).run Try.prog W = .ok v' w' ∧ OS W0 v' (L ++ ys) w' := by
  obtain ⟨i0, hi0, hi1, hi2, hi3⟩ := info_parts Try.info9
  by_cases hm : ys = []
  · subst hm
    refine ⟨v, W, ?_, by simpa using h⟩
    rcases h.own.2 with ⟨rfl, h0⟩ | ⟨g, cap, cur, rfl, hb, hg, hc, _⟩
    · cases A <;> simp [Builtin.append_, run_underlying Try.und36, sizeOf, typeInfo, hi0, Builtin.lenOf, Builtin.firstCells, loadCells, loadCellsFrom]
    · cases A <;> simp [Builtin.append_, run_underlying Try.und36, sizeOf, typeInfo, hi0, Builtin.lenOf, Builtin.firstCells, hc, storeCells, loadCells, loadCellsFrom]
  · have hpos : 0 < ys.length := List.length_pos_iff.2 hm
    obtain ⟨b, off, rfl, _, _⟩ := hs 0 ys[0] (List.getElem?_eq_getElem hpos)
    obtain ⟨g, cap, w', hr, h2, h3, h4, _⟩ := run_append_lies (P := Try.prog) W 36 ty W0.heap.size 9 i0 (strV []) 1 16 Try.und36 hi0 hi1 hi2 hi3 rfl (by omega) v L.length (L.map strV) h.own ⟨b, off, none⟩ ys.length c (ys.map strV) (by simp)
      (fun j u hu => by
        simp only [List.getElem?_map, Option.map_eq_some_iff] at hu
        obtain ⟨x, hx, rfl⟩ := hu
        obtain ⟨b', o', e, _, hc⟩ := hs j x hx
        cases e
        rw [addr_add]
        exact hc) (fun u hu => by
          obtain ⟨x, _, rfl⟩ := List.mem_map.1 hu
          rfl) hpos (by unfold maxLen; omega) (by omega) h.low.size W.heap.size rfl
    refine ⟨_, w', hr, h.low.grown h3 h.low.size (fun k e => (h.own.lt k e).1), ?_⟩
    rw [List.length_append, List.map_append]
    exact h2
theorem OS.strs2 {W0 W : World} {v : Value} {L : List (List UInt8)} (h : OS W0 v L W) (hne : L ≠ []) : ∃ g c, v = .slice (some ⟨g, 0, none⟩) L.length c ∧ L.length ≤ c ∧ StrsAt W W.heap.size (some ⟨g, 0, none⟩) L := by
  obtain ⟨A, c, rfl, hs⟩ := h.strs
  rcases h.own.2 with ⟨h0, h1⟩ | ⟨g, cap, cur, h0, hb, hg, h1, _⟩
  · exact (hne (List.eq_nil_of_length_eq_zero h1)).elim
  · cases h0
    exact ⟨g, _, rfl, h1, hs⟩
theorem StrsAt.drop {w : World} {B b off : Nat} {L : List (List UInt8)} (k : Nat) (h : StrsAt w B (some ⟨b, off, none⟩) L) : StrsAt w B (some ⟨b, off + k, none⟩) (L.drop k) := by
  intro i l hl
  rw [List.getElem?_drop] at hl
  obtain ⟨b', o', e, h1, h2⟩ := h (k + i) l hl
  cases e
  exact ⟨b, off + k, rfl, h1, by rw [Nat.add_assoc]; exact h2⟩
theorem StrsAt.take {w : World} {B : Nat} {A : Option Addr} {L : List (List UInt8)} (k : Nat) (h : StrsAt w B A L) : StrsAt w B A (L.take k) := by
  intro i l hl
  rw [List.getElem?_take] at hl
  split at hl
  · exact h i l hl
  · cases hl
end Go.Proofs.YtmdlmmfbcnkanaaR
namespace Go.Proofs.YtmdlmmfbcnkanaaR
open Go.RowKit Go.Shelf Go.ChangeShapes Go.WideShapes
section
variable {H : Type} {enc : TypeId × Value → H} {W : World} {r : Reach} {b0 : Nat}
theorem c66 : Try.prog.cellsOf 66 = 1 := by kernel_rfl
set_option maxRecDepth 100000 in
theorem open_words {v : Value} {d : DataW H} {ps : List MemPlace} (hval : Value.okWide Try.prog W r b0 38 v) (hd : DataW.Trod enc Try.prog W 0 (fun _ => true) true 38 v d ps) :
    ∃ (A : Option Addr) (l : List Nat) (c : Nat), v = .slice A l.length c ∧ l.length ≤ c ∧ WordsAt W W.heap.size A l := by
  obtain ⟨a, n, c, rfl⟩ := okWide_slice Try.underlying38 hval
  obtain ⟨fuel, hf⟩ := hd
  rcases open_ints Try.underlying38 Try.underlying66 c66 hf with ⟨hcs, _⟩ | ⟨a', n', c', zs, hcs, _, hle, _, hall, _, hcell, hwf⟩
  · simp [Value.cells] at hcs
    obtain ⟨rfl, rfl, rfl⟩ := hcs
    exact ⟨none, [], 0, rfl, Nat.le_refl _, fun k x hx => by simp at hx⟩
  · simp [Value.cells] at hcs
    obtain ⟨rfl, rfl, rfl⟩ := hcs
    simp at hall
    refine ⟨some a', (zs.take n).map Int.toNat, c, by rw [List.length_map, List.length_take]; congr 1; omega, by rw [List.length_map, List.length_take]; omega, ?_⟩
    intro k x hx
    rw [List.getElem?_map, Option.map_eq_some_iff] at hx
    obtain ⟨z, hx, rfl⟩ := hx
    rw [List.getElem?_take] at hx
    split at hx
    · have hk : k < zs.length := (List.getElem?_eq_some_iff.1 hx).1
      have hb := bounds_u16 (hwf z (List.mem_of_getElem? hx))
      obtain ⟨b, off, rfl, hc⟩ := ints_at hcell (by omega)
      have h1 := hc k hk
      have h2 : zs.getD k 0 = z := by simp [List.getD, hx]
      rw [h2] at h1
      refine ⟨by omega, b, off, rfl, block_lt_of_cell h1, ?_⟩
      rw [Int.toNat_of_nonneg hb.1]
      exact h1
    · cases hx
end
theorem r38 : Try.prog.readableRec 38 = true := by kernel_rfl
theorem s38 : 38 < Try.prog.types.size := of_decide_eq_true (by kernel_rfl)
end Go.Proofs.YtmdlmmfbcnkanaaR
namespace Go.Proofs.YtmdlmmfbcnkanaaR
open Go.RowKit Go.Shelf
theorem bs36_2 (l k : List UInt8) (w : World) : (Instr.buildSlice 36 2 #[(0, strV l), (1, strV k)]).run Try.prog w = .ok (.slice (some ⟨w.heap.size, 0, none⟩) 2 2) (w.alloc (.cells #[strV l, strV k] 9)) := by go_simp
theorem bs36_0 (w : World) : (Instr.buildSlice 36 0 #[]).run Try.prog w = .ok (.slice (some ⟨w.heap.size, 0, none⟩) 0 0) (w.alloc (.cells #[] 9)) := by go_simp
theorem os_empty {W1 W : World} (hb : Below W1.heap.size W1 W) : OS W1 (.slice (some ⟨W.heap.size, 0, none⟩) 0 0) [] (W.alloc (.cells #[] 9)) :=
  ⟨hb.trans ((Below.refl W.heap.size W).alloc (Nat.le_refl _) _ |>.mono hb.size), rfl, .inr ⟨W.heap.size, 0, #[], rfl, hb.size, World.alloc_heap_new _ _, Nat.le_refl _, by decide, rfl, rfl⟩⟩
section
variable {ops : Array Oper} {K : Act → World → Prop} {Kp : Nat → World → World → Prop} {fuel d i : Nat} {listed : Array Bool} {a : Act} {w w' : World} {ty : TypeId} {pos : String} {aft : Array Edge} {v v2 v' : Value}
theorem StepK.app36 {s z : Operand} (hi : ops[i]? = some ⟨some d, .call { callee := .builtin .append, args := #[s, z], argTypes := #[36, 36] }, ty, pos, aft, none⟩) (hs : a.eval s = v) (hx : a.eval z = v2)
    (hr : (Builtin.append_ #[36, 36] ty #[v, v2]).run Try.prog w = .ok v' w') (hk : Kp i w w') (h : AnyK Try.prog ops K Kp fuel (listed.setIfInBounds i true) (a.put (some d) v') w') : StepK Try.prog ops K Kp fuel listed a w i := by
  unfold StepK opG
  simp only [hi]
  rw [if_pos (show Region.wanted _ _ = true from rfl)]
  simp [Oper.wp, execOp, resolve, invoke, builtin, hs, hx, hr, Oper.upon]
  exact ⟨hk, h⟩
end
/-- What is left of some records. -/
structure Tn (L : List (List UInt8)) (i : Nat) (T : List (List UInt8)) : Prop where
  sub : ∀ r, r ∈ T → r ∈ L
  hd : 0 < i → ∀ h, L[0]? = some h → h ∈ T
  len : T.length ≤ 2 * i
theorem Tn.skip {L : List (List UInt8)} {i : Nat} {T : List (List UInt8)} (t : Tn L i T) (hi : 0 < i) : Tn L (i + 1) T := ⟨t.sub, fun _ => t.hd hi, by have := t.len; omega⟩
theorem Tn.one {L : List (List UInt8)} {i : Nat} {T : List (List UInt8)} {l : List UInt8} (t : Tn L i T) (hl : L[i]? = some l) : Tn L (i + 1) (T ++ [l]) := by
  refine ⟨fun r hr => ?_, fun _ h hh => ?_, by have := t.len; simp; omega⟩
  · rcases List.mem_append.1 hr with hr | hr
    · exact t.sub r hr
    · simp at hr
      rw [hr]
      exact List.mem_of_getElem? hl
  · by_cases h0 : i = 0
    · subst h0
      rw [hl] at hh
      cases hh
      simp
    · exact List.mem_append_left _ (t.hd (by omega) h hh)
theorem Tn.two {L : List (List UInt8)} {i : Nat} {T : List (List UInt8)} {l : List UInt8} (t : Tn L i T) (hl : L[i]? = some l) : Tn L (i + 1) (T ++ [l, l]) := by
  have h1 := t.one hl
  refine ⟨fun r hr => h1.sub r (by simpa using hr), fun h0 h hh => by simpa using h1.hd h0 h hh, by have := t.len; simp; omega⟩
theorem strs_two (w : World) (l k : List UInt8) : StrsAt (w.alloc (.cells #[strV l, strV k] 9)) (w.alloc (.cells #[strV l, strV k] 9)).heap.size (some ⟨w.heap.size, 0, none⟩) [l, k] := by
  have h := Whole.new w 9 #[strV l, strV k]
  intro i x hx
  match i, hx with
  | 0, hx =>
    simp at hx
    subst hx
    exact ⟨_, _, rfl, by simp, h.cell 0⟩
  | 1, hx =>
    simp at hx
    subst hx
    exact ⟨_, _, rfl, by simp, h.cell 1⟩
theorem StrsAt.cell36 {w : World} {B b off i : Nat} {L : List (List UInt8)} {l : List UInt8} (h : StrsAt w B (some ⟨b, off, none⟩) L) (hl : L[i]? = some l) : w.cell? ⟨b, off + i, none⟩ = some (strV l) := by
  obtain ⟨b', o', e, _, hc⟩ := h i l hl
  cases e
  exact hc
theorem WordsAt.below {w w' : World} {B : Nat} {A : Option Addr} {l : List Nat} (h : WordsAt w B A l) (hb : Below B w w') : WordsAt w' B A l := by
  intro k x hx
  obtain ⟨h1, b, off, e, h2, h3⟩ := h k x hx
  exact ⟨h1, b, off, e, h2, by rw [hb.cell (show Addr.block ⟨b, off + k, none⟩ < B from h2)]; exact h3⟩
theorem WordsAt.more {w : World} {B B' : Nat} {A : Option Addr} {l : List Nat} (h : WordsAt w B A l) (hb : B ≤ B') : WordsAt w B' A l := by
  intro k x hx
  obtain ⟨h1, b, off, e, h2, h3⟩ := h k x hx
  exact ⟨h1, b, off, e, Nat.lt_of_lt_of_le h2 hb, h3⟩
theorem os_none (W : World) : OS W (.slice none 0 0) [] W := ⟨Below.refl _ _, rfl, .inl ⟨rfl, rfl⟩⟩
theorem gtr3T {x y : Operand} {m n : Int} (h : n < m) (w : World) : (do eqGuard .gtr 3 x y (.int .i64 m) (.int .i64 n); binOp .gtr 3 (.int .i64 m) (.int .i64 n) : Sem Value).run Try.prog w = .ok (.bool true) w := by
  rw [gtr3, decide_eq_true h]
theorem gtr3F {x y : Operand} {m n : Int} (h : ¬n < m) (w : World) : (do eqGuard .gtr 3 x y (.int .i64 m) (.int .i64 n); binOp .gtr 3 (.int .i64 m) (.int .i64 n) : Sem Value).run Try.prog w = .ok (.bool false) w := by
  rw [gtr3, decide_eq_false h]
theorem StrsAt.wide {w : World} {B B' : Nat} {A : Option Addr} {L : List (List UInt8)} (h : StrsAt w B A L) (hb : B ≤ B') : StrsAt w B' A L := by
  intro i l hl
  obtain ⟨b, o, e1, e2, e3⟩ := h i l hl
  exact ⟨b, o, e1, Nat.lt_of_lt_of_le e2 hb, e3⟩
theorem Tn.turn {L T : List (List UInt8)} {i : Nat} (t : Tn L i T) (k : Nat) : Tn L i (T.drop k ++ T.take k) := by
  have hm : ∀ r, r ∈ T.drop k ++ T.take k ↔ r ∈ T := by
    intro r
    rw [List.mem_append, or_comm, ← List.mem_append, List.take_append_drop]
  refine ⟨fun r hr => t.sub r ((hm r).1 hr), fun h0 h hh => (hm h).2 (t.hd h0 h hh), ?_⟩
  have := t.len
  simp
  omega
noncomputable def opsTn0 : Array Oper := (Try.f24.body.bind (regionOf 0)).getD #[]
noncomputable def opsTn1 : Array Oper := (Try.f24.body.bind (regionOf 1)).getD #[]
noncomputable def opsTn2 : Array Oper := (Try.f24.body.bind (regionOf 2)).getD #[]
noncomputable def opsTn3 : Array Oper := (Try.f24.body.bind (regionOf 3)).getD #[]
noncomputable def opsTn4 : Array Oper := (Try.f24.body.bind (regionOf 4)).getD #[]
noncomputable def opsTn5 : Array Oper := (Try.f24.body.bind (regionOf 5)).getD #[]
noncomputable def opsTn6 : Array Oper := (Try.f24.body.bind (regionOf 6)).getD #[]
noncomputable def opsTn7 : Array Oper := (Try.f24.body.bind (regionOf 7)).getD #[]
noncomputable def opsTn8 : Array Oper := (Try.f24.body.bind (regionOf 8)).getD #[]
noncomputable def opsTn9 : Array Oper := (Try.f24.body.bind (regionOf 9)).getD #[]
noncomputable def opsTn10 : Array Oper := (Try.f24.body.bind (regionOf 10)).getD #[]
noncomputable def opsTn11 : Array Oper := (Try.f24.body.bind (regionOf 11)).getD #[]
noncomputable def tn_l : Code := (.seq (.seq (.region 3 opsTn3 false) (.cond (.tmp 14) .skip (.exit 0))) (.seq (.block 1 (.seq (.region 5 opsTn5 false) (.block 2 (.seq (.region 7 opsTn7 false) (.cond (.tmp 27) (.exit 1) (.seq (.region 8 opsTn8 false) (.cond (.tmp 35) (.region 9 opsTn9 true) (.region 6 opsTn6 false)))))))) (.region 4 opsTn4 false)))
noncomputable def tn_e : Code := (.seq (.region 10 opsTn10 false) (.seq (.region 11 opsTn11 true) .ret))
noncomputable def code24 : Code := (.seq (.region 0 opsTn0 false) (.seq (.region 1 opsTn1 false) (.seq (.seq (.region 2 opsTn2 false) (.block 0 (.loop tn_l))) tn_e)))
theorem body24 : Try.f24.body = some code24 := by kernel_rfl
section
attribute [local irreducible] AnyK StepK
variable {L : List (List UInt8)} {A Aw : Option Addr} {c cw by_ : Nat} {lw : List Nat} {W : World}
set_option maxHeartbeats 400000 in
theorem tn_e_any {T : List (List UInt8)} {v : Value} {a : Act} {W1 : World} (hL : L.length ≤ 1000) (hne : 0 < L.length) (hby : by_ < 256) (hz : a.tmps.size = 64) (hd_a : a.defers = []) (t2 : a.eval (.tmp 2) = .int .u8 (by_ : Int)) (t7 : a.eval (.tmp 7) = v) (os : OS W v T W1) (tn : Tn L L.length T) :
    tn_e.wpIn Fence.wide 5 Try.prog (bodyPost Try.prog Try.f24 (fun e w' => ∃ v T', e = .returned v ∧ OS W v T' w' ∧ Tn L L.length T')) a W1 := by
  have hT : T ≠ [] := by
    have := tn.hd hne _ (List.getElem?_eq_getElem hne)
    exact List.ne_nil_of_mem this
  have hTl : 0 < T.length := List.length_pos_iff.2 hT
  have htl := tn.len
  obtain ⟨g, cT, rfl, hcT, hst⟩ := os.strs2 hT
  unfold tn_e
  refine wpIn_seq (region_p 6 ?_)
  intro K hK
  refine ListK.move (i := 0) (v := .int .u8 (by_ : Int)) rfl (by simp [t2]) ?_
  refine ListK.conv (i := 1) (u := .int .u8 (by_ : Int)) (v := .int .i64 (by_ : Int)) rfl (by simp [hz]) (cvu8 hby _) ?_
  refine ListK.move (i := 2) (v := .slice (some ⟨g, 0, none⟩) T.length cT) rfl (by simp [t7]) ?_
  refine ListK.len (i := 3) (u := .slice (some ⟨g, 0, none⟩) T.length cT) (v := .int .i64 T.length) rfl (by simp [hz]) (ln36 _ _ _ _ _) rfl ?_
  refine ListK.bin (i := 4) (u := .int .i64 (by_ : Int)) (u' := .int .i64 T.length) (v := .int .i64 ((by_ % T.length : Nat) : Int)) rfl (by simp [hz]) (by simp [hz]) (rem3r (by omega) (by omega) rfl _) ?_
  refine ListK.assign (i := 5) (v := .int .i64 ((by_ % T.length : Nat) : Int)) rfl (by simp [hz]) ?_
  refine ListK.done (hK _ _ ?_)
  clear hK K
  obtain ⟨k, hk⟩ : ∃ k, by_ % T.length = k := ⟨_, rfl⟩
  have hkl : k < T.length := by rw [← hk]; exact Nat.mod_lt _ hTl
  rw [hk]
  generalize hA : Act.put _ _ _ = a1
  have hz_a1 : a1.tmps.size = 64 := by rw [← hA]; simp only [size_put, hz]
  have u7 : a1.eval (.tmp 7) = .slice (some ⟨g, 0, none⟩) T.length cT := by rw [← hA]; exact (by simp [t7])
  have u10 : a1.eval (.tmp 10) = .int .i64 (k : Int) := by rw [← hA]; exact (by simp [hz])
  have hd_a1 : a1.defers = [] := by rw [← hA]; simp only [defers_put, hd_a]
  clear hA
  have hbd : Below W1.heap.size W1 W1.drew := (Below.refl W1.heap.size W1).drew
  have os1 := os_empty hbd
  have hd1 : (T.drop k).length = T.length - k := List.length_drop
  have ht1 : (T.take k).length = k := by rw [List.length_take]; omega
  obtain ⟨v3, W3, hap3, os3⟩ := app36n_run (A := some ⟨g, 0 + k, none⟩) (c := cT - k) (ty := 36) os1 (((hst.below os1.low (Nat.le_refl _)).wide os1.low.size).drop k) (by simp) (by omega)
  obtain ⟨v4, W4, hap4, os4⟩ := app36n_run (A := some ⟨g, 0, none⟩) (c := cT) (ty := 36) os3 (((hst.below os3.low (Nat.le_refl _)).wide os3.low.size).take k) (by simp; omega) (by omega)
  rw [hd1] at hap3
  rw [ht1] at hap4
  refine wpIn_seq (region_K (KpR (fun _ : World => True) (fun _ => false)) (wideF_plain _) (by kernel_rfl) Try.mixed ?_)
  change AnyK _ _ _ _ 10 (Array.replicate 10 false) _ _
  have hR : (fun _ : World => True) W1.drew := trivial
  refine AnyK.move (i := 1) may_o (v := .slice (some ⟨g, 0, none⟩) T.length cT) (by simp [u7]) hR ?_
  refine AnyK.move (i := 2) may_o (v := .int .i64 (k : Int)) (by simp [u10]) hR ?_
  refine AnyK.sliceL (i := 3) may_o (u := .slice (some ⟨g, 0, none⟩) T.length cT) (u' := .int .i64 (k : Int)) (v := .slice (some ⟨g, 0 + k, none⟩) (T.length - k) (cT - k)) (by simp [hz_a1]) (by simp [hz_a1]) (fun w => sl36L (by omega) (by omega) (by omega) w) hR ?_
  refine AnyK.move (i := 5) may_o (v := .slice (some ⟨g, 0, none⟩) T.length cT) (by simp [u7]) hR ?_
  refine AnyK.move (i := 6) may_o (v := .int .i64 (k : Int)) (by simp [u10]) hR ?_
  refine AnyK.sliceH (i := 7) may_o (u := .slice (some ⟨g, 0, none⟩) T.length cT) (u' := .int .i64 (k : Int)) (v := .slice (some ⟨g, 0, none⟩) k cT) (by simp [hz_a1]) (by simp [hz_a1]) (fun w => sl36H (by omega) (by omega) w) hR ?_
  refine AnyK.pick1 (i := 0) (by kernel_rfl) ?_
  refine StepK.buildG (i := 0) (ps := #[]) rfl (by simp) (bs36_0 W1.drew) (fun _ _ => trivial) ?_
  refine AnyK.pick1 (i := 4) (by kernel_rfl) ?_
  refine StepK.app36 (i := 4) rfl (by simp [hz_a1]) (by simp [hz_a1]) hap3 (fun _ _ => trivial) ?_
  refine AnyK.pick1 (i := 8) (by kernel_rfl) ?_
  refine StepK.app36 (i := 8) rfl (by simp [hz_a1]) (by simp [hz_a1]) hap4 (fun _ _ => trivial) ?_
  refine AnyK.assign (i := 9) may_o (v := v4) (by simp [hz_a1]) hR ?_
  refine AnyK.done (by kernel_rfl) ?_
  refine wpIn_ret ?_
  refine bodyPost_ret (v := v4) (res1 Try.results24 (by simp [hz_a1])) (by simp only [defers_put, hd_a1]) ⟨v4, _, rfl, os4.base os.low, ?_⟩
  simpa using tn.turn k
set_option maxHeartbeats 400000 in
theorem tn_l_any {T : List (List UInt8)} {i : Nat} {v : Value} {a : Act} {W1 : World} {Q : Exit → Act → World → Prop} (hL : L.length ≤ 1000) (hs : StrsAt W W.heap.size A L) (hw : WordsAt W W.heap.size Aw lw) (hi : i ≤ L.length)
    (hz : a.tmps.size = 64) (hd_a : a.defers = []) (t0 : a.eval (.tmp 0) = .slice A L.length c) (t1 : a.eval (.tmp 1) = .slice Aw lw.length cw) (t2 : a.eval (.tmp 2) = .int .u8 (by_ : Int)) (t7 : a.eval (.tmp 7) = v) (t8 : a.eval (.tmp 8) = .int .i64 (i : Int)) (os : OS W v T W1) (tn : Tn L i T)
    (hN : i < L.length → ∀ a' W' v' T', a'.tmps.size = 64 → a'.defers = [] → a'.eval (.tmp 0) = .slice A L.length c → a'.eval (.tmp 1) = .slice Aw lw.length cw → a'.eval (.tmp 2) = .int .u8 (by_ : Int) → a'.eval (.tmp 7) = v' → a'.eval (.tmp 8) = .int .i64 ((i + 1 : Nat) : Int) → OS W v' T' W' → Tn L (i + 1) T' → Q .normal a' W')
    (hX : i = L.length → ∀ a', a'.tmps.size = 64 → a'.defers = [] → a'.eval (.tmp 2) = .int .u8 (by_ : Int) → a'.eval (.tmp 7) = v → Q (.exit 0) a' W1) :
    tn_l.wpIn Fence.wide 5 Try.prog Q a W1 := by
  have hs1 := hs.below os.low (Nat.le_refl _)
  have hw1 : WordsAt W1 W1.heap.size Aw lw := (hw.below os.low).more os.low.size
  have htl := tn.len
  unfold tn_l
  by_cases hil : i < L.length
  · skip
    refine wpIn_seq (wpIn_seq (region_p 4 ?_))
    intro K hK
    refine ListK.move (i := 0) (v := .int .i64 (i : Int)) rfl (by simp [t8]) ?_
    refine ListK.move (i := 1) (v := .slice A L.length c) rfl (by simp [t0]) ?_
    refine ListK.len (i := 2) (u := .slice A L.length c) (v := .int .i64 L.length) rfl (by simp [hz]) (ln36 _ _ _ _ _) rfl ?_
    refine ListK.bin (i := 3) (u := .int .i64 (i : Int)) (u' := .int .i64 L.length) (v := .bool true) rfl (by simp [hz]) (by simp [hz]) (lssT3 (by omega) _) ?_
    refine ListK.done (hK _ _ ?_)
    clear hK K
    refine wpIn_cond (t := true) (by simp [hz]) (wpIn_skip ?_)
    generalize hA : Act.put _ _ _ = a1
    have hz_a1 : a1.tmps.size = 64 := by rw [← hA]; simp only [size_put, hz]
    have u0 : a1.eval (.tmp 0) = .slice A L.length c := by rw [← hA]; exact (by simp [t0])
    have u1 : a1.eval (.tmp 1) = .slice Aw lw.length cw := by rw [← hA]; exact (by simp [t1])
    have u2 : a1.eval (.tmp 2) = .int .u8 (by_ : Int) := by rw [← hA]; exact (by simp [t2])
    have u7 : a1.eval (.tmp 7) = v := by rw [← hA]; exact (by simp [t7])
    have u8 : a1.eval (.tmp 8) = .int .i64 (i : Int) := by rw [← hA]; exact (by simp [t8])
    have hd_a1 : a1.defers = [] := by rw [← hA]; simp only [defers_put, hd_a]
    clear hA
    have hgo : ∀ (T' : List (List UInt8)) (v' : Value) (b : Act) (W' : World), b.tmps.size = 64 → b.defers = [] → b.eval (.tmp 0) = .slice A L.length c → b.eval (.tmp 1) = .slice Aw lw.length cw → b.eval (.tmp 2) = .int .u8 (by_ : Int) → b.eval (.tmp 7) = v' → b.eval (.tmp 8) = .int .i64 (i : Int) → OS W v' T' W' → Tn L (i + 1) T' →
        (Code.region 4 opsTn4 false).wpIn Fence.wide 5 Try.prog Q b W' := by
      intro T' v' b W' hz_b hd_b s0 s1 s2 s7 s8 os' tn'
      refine region_p 3 ?_
      intro K hK
      refine ListK.move (i := 0) (v := .int .i64 (i : Int)) rfl (by simp [s8]) ?_
      refine ListK.bin (i := 1) (u := .int .i64 (i : Int)) (u' := .int .i64 1) (v := .int .i64 ((i + 1 : Nat) : Int)) rfl (by simp [hz_b]) (by simp) (add3 (by omega) (by omega) _) ?_
      refine ListK.assign (i := 2) (v := .int .i64 ((i + 1 : Nat) : Int)) rfl (by simp [hz_b]) ?_
      refine ListK.done (hK _ _ ?_)
      clear hK K
      exact hN hil _ _ v' T' (by simp only [size_put, hz_b]) (by simp only [defers_put, hd_b]) (by simp [s0]) (by simp [s1]) (by simp [s2]) (by simp [s7]) (by simp [hz_b]) os' tn'
    refine wpIn_seq (wpIn_block (wpIn_seq ?_))
    refine region_p 4 ?_
    intro K hK
    refine ListK.move (i := 0) (v := .slice Aw lw.length cw) rfl (by simp [u1]) ?_
    refine ListK.move (i := 1) (v := .int .i64 (i : Int)) rfl (by simp [u8]) ?_
    refine ListK.call (i := 2) (vs := #[.slice Aw lw.length cw, .int .i64 (i : Int)]) rfl (enters_of Try.func29 (by kernel_rfl) rfl) (by simp [hz_a1]) ((word_any Aw lw cw i W1 (by omega) hw1).mono ?_)
    rintro _ W1x ⟨n, rfl, hn, hWe⟩
    have hWf := hWe.symm
    subst hWf
    refine ⟨_, rfl, ?_⟩
    refine ListK.assign (i := 3) (v := .int .i64 (n : Int)) rfl (by simp [hz_a1]) ?_
    refine ListK.done (hK _ _ ?_)
    clear hK K
    generalize hA : Act.put _ _ _ = a2
    have hz_a2 : a2.tmps.size = 64 := by rw [← hA]; simp only [size_put, hz_a1]
    have q0 : a2.eval (.tmp 0) = .slice A L.length c := by rw [← hA]; exact (by simp [u0])
    have q1 : a2.eval (.tmp 1) = .slice Aw lw.length cw := by rw [← hA]; exact (by simp [u1])
    have q2 : a2.eval (.tmp 2) = .int .u8 (by_ : Int) := by rw [← hA]; exact (by simp [u2])
    have q7 : a2.eval (.tmp 7) = v := by rw [← hA]; exact (by simp [u7])
    have q8 : a2.eval (.tmp 8) = .int .i64 (i : Int) := by rw [← hA]; exact (by simp [u8])
    have q9 : a2.eval (.tmp 9) = .int .i64 (n : Int) := by rw [← hA]; exact (by simp [hz_a1])
    have hd_a2 : a2.defers = [] := by rw [← hA]; simp only [defers_put, hd_a1]
    clear hA
    have hl := List.getElem?_eq_getElem hil
    obtain ⟨gb, off, rfl, hgb, c1⟩ := hs1 i _ hl
    have hlast : ∀ b : Act, b.tmps.size = 64 → b.defers = [] → b.eval (.tmp 0) = .slice (some ⟨gb, off, none⟩) L.length c → b.eval (.tmp 1) = .slice Aw lw.length cw → b.eval (.tmp 2) = .int .u8 (by_ : Int) → b.eval (.tmp 7) = v → b.eval (.tmp 8) = .int .i64 (i : Int) → b.eval (.tmp 9) = .int .i64 (n : Int) →
        (Code.seq (.region 8 opsTn8 false) (.cond (.tmp 35) (.region 9 opsTn9 true) (.region 6 opsTn6 false))).wpIn Fence.wide 5 Try.prog (Exit.inBlock 2 (Exit.inBlock 1 (Exit.then ((Code.region 4 opsTn4 false).wpIn Fence.wide 5 Try.prog Q) Q))) b W1 := by
      intro b hz_b hd_b s0 s1 s2 s7 s8 s9
      by_cases h9 : n % 9 = 1
      · skip
        refine wpIn_seq (region_p 4 ?_)
        intro K hK
        refine ListK.move (i := 0) (v := .int .i64 (n : Int)) rfl (by simp [s9]) ?_
        refine ListK.bin (i := 1) (u := .int .i64 (n : Int)) (u' := .int .i64 9) (v := .int .i64 ((n % 9 : Nat) : Int)) rfl (by simp [hz_b]) (by simp) (rem3r (by omega) (by omega) rfl _) ?_
        refine ListK.bin (i := 2) (u := .int .i64 ((n % 9 : Nat) : Int)) (u' := .int .i64 1) (v := .bool true) rfl (by simp [hz_b]) (by simp) (eql3T (by omega) _) ?_
        refine ListK.assign (i := 3) (v := .bool true) rfl (by simp [hz_b]) ?_
        refine ListK.done (hK _ _ ?_)
        clear hK K
        refine wpIn_cond (t := true) (by simp [hz_b]) ?_
        generalize hA : Act.put _ _ _ = b2
        have hz_b2 : b2.tmps.size = 64 := by rw [← hA]; simp only [size_put, hz_b]
        have p0 : b2.eval (.tmp 0) = .slice (some ⟨gb, off, none⟩) L.length c := by rw [← hA]; exact (by simp [s0])
        have p1 : b2.eval (.tmp 1) = .slice Aw lw.length cw := by rw [← hA]; exact (by simp [s1])
        have p2 : b2.eval (.tmp 2) = .int .u8 (by_ : Int) := by rw [← hA]; exact (by simp [s2])
        have p7 : b2.eval (.tmp 7) = v := by rw [← hA]; exact (by simp [s7])
        have p8 : b2.eval (.tmp 8) = .int .i64 (i : Int) := by rw [← hA]; exact (by simp [s8])
        have hd_b2 : b2.defers = [] := by rw [← hA]; simp only [defers_put, hd_b]
        clear hA
        have hbd : Below W1.heap.size W1 (W1.drew.alloc (.cells #[strV L[i], strV L[i]] 9)) := (Below.refl W1.heap.size W1).drew.alloc (Nat.le_refl _) _
        obtain ⟨v4, W4, hap4, os4⟩ := app36n_run (ys := [L[i], L[i]]) (A := some ⟨W1.drew.heap.size, 0, none⟩) (c := 2) (ty := 36) (os.below hbd) (strs_two W1.drew L[i] L[i]) (by omega) (by simp)
        have c4 : W4.cell? ⟨gb, off + i, none⟩ = some (strV L[i]) := (hs.below os4.low (Nat.le_refl _)).cell36 hl
        refine region_K (KpR (fun w : World => w.cell? ⟨gb, off + i, none⟩ = some (strV L[i])) (fun _ => false)) (wideF_plain _) (by kernel_rfl) Try.mixed ?_
        change AnyK _ _ _ _ 12 (Array.replicate 12 false) _ _
        have hR : (fun w : World => w.cell? ⟨gb, off + i, none⟩ = some (strV L[i])) W1.drew := c1
        refine AnyK.move (i := 0) may_o (v := v) (by simp [p7]) hR ?_
        refine AnyK.move (i := 1) may_o (v := .slice (some ⟨gb, off, none⟩) L.length c) (by simp [p0]) hR ?_
        refine AnyK.move (i := 2) may_o (v := .int .i64 (i : Int)) (by simp [p8]) hR ?_
        refine AnyK.index (i := 3) may_o (u := .slice (some ⟨gb, off, none⟩) L.length c) (u' := .int .i64 (i : Int)) (v := .pointer (some ⟨gb, off + i, none⟩)) (by simp [hz_b2]) (by simp [hz_b2]) (fun w => ix36 hil w) hR ?_
        refine AnyK.load (i := 4) may_o (p := ⟨gb, off + i, none⟩) (v := strV L[i]) (by simp [hz_b2]) (fun w hw => ld9 hw) hR ?_
        refine AnyK.move (i := 5) may_o (v := .slice (some ⟨gb, off, none⟩) L.length c) (by simp [p0]) hR ?_
        refine AnyK.move (i := 6) may_o (v := .int .i64 (i : Int)) (by simp [p8]) hR ?_
        refine AnyK.index (i := 7) may_o (u := .slice (some ⟨gb, off, none⟩) L.length c) (u' := .int .i64 (i : Int)) (v := .pointer (some ⟨gb, off + i, none⟩)) (by simp [hz_b2]) (by simp [hz_b2]) (fun w => ix36 hil w) hR ?_
        refine AnyK.load (i := 8) may_o (p := ⟨gb, off + i, none⟩) (v := strV L[i]) (by simp [hz_b2]) (fun w hw => ld9 hw) hR ?_
        refine AnyK.pick1 (i := 9) (by kernel_rfl) ?_
        replace hR : (fun w : World => w.cell? ⟨gb, off + i, none⟩ = some (strV L[i])) (W1.drew.alloc (.cells #[strV L[i], strV L[i]] 9)) := (by show World.cell? _ _ = _; rw [hbd.cell (show Addr.block ⟨gb, off + i, none⟩ < W1.heap.size from Nat.lt_of_lt_of_le hgb os.low.size)]; exact c1)
        refine StepK.buildG (i := 9) (ps := #[(0, strV L[i]), (1, strV L[i])]) rfl (by simp [hz_b2]) (bs36_2 _ _ W1.drew) (fun _ _ => hR) ?_
        refine AnyK.pick1 (i := 10) (by kernel_rfl) ?_
        replace hR : (fun w : World => w.cell? ⟨gb, off + i, none⟩ = some (strV L[i])) W4 := c4
        refine StepK.app36 (i := 10) rfl (by simp [hz_b2]) (by simp [hz_b2]) hap4 (fun _ _ => hR) ?_
        refine AnyK.assign (i := 11) may_o (v := v4) (by simp [hz_b2]) hR ?_
        refine AnyK.done (by kernel_rfl) ?_
        exact hgo (T ++ [L[i], L[i]]) v4 _ W4 (by simp only [size_put, hz_b2]) (by simp only [defers_put, hd_b2]) (by simp [p0]) (by simp [p1]) (by simp [p2]) (by simp [hz_b2]) (by simp [p8]) os4 (tn.two hl)
      · skip
        refine wpIn_seq (region_p 4 ?_)
        intro K hK
        refine ListK.move (i := 0) (v := .int .i64 (n : Int)) rfl (by simp [s9]) ?_
        refine ListK.bin (i := 1) (u := .int .i64 (n : Int)) (u' := .int .i64 9) (v := .int .i64 ((n % 9 : Nat) : Int)) rfl (by simp [hz_b]) (by simp) (rem3r (by omega) (by omega) rfl _) ?_
        refine ListK.bin (i := 2) (u := .int .i64 ((n % 9 : Nat) : Int)) (u' := .int .i64 1) (v := .bool false) rfl (by simp [hz_b]) (by simp) (eql3F (by omega) _) ?_
        refine ListK.assign (i := 3) (v := .bool false) rfl (by simp [hz_b]) ?_
        refine ListK.done (hK _ _ ?_)
        clear hK K
        refine wpIn_cond (t := false) (by simp [hz_b]) ?_
        generalize hA : Act.put _ _ _ = b2
        have hz_b2 : b2.tmps.size = 64 := by rw [← hA]; simp only [size_put, hz_b]
        have p0 : b2.eval (.tmp 0) = .slice (some ⟨gb, off, none⟩) L.length c := by rw [← hA]; exact (by simp [s0])
        have p1 : b2.eval (.tmp 1) = .slice Aw lw.length cw := by rw [← hA]; exact (by simp [s1])
        have p2 : b2.eval (.tmp 2) = .int .u8 (by_ : Int) := by rw [← hA]; exact (by simp [s2])
        have p7 : b2.eval (.tmp 7) = v := by rw [← hA]; exact (by simp [s7])
        have p8 : b2.eval (.tmp 8) = .int .i64 (i : Int) := by rw [← hA]; exact (by simp [s8])
        have hd_b2 : b2.defers = [] := by rw [← hA]; simp only [defers_put, hd_b]
        clear hA
        obtain ⟨v4, W4, hap4, os4⟩ := app36_run (l := L[i]) (b := W1.heap.size) (c := 1) (ty := 36) (os.below ((Below.refl W1.heap.size W1).alloc (Nat.le_refl _) (.cells #[strV L[i]] 9))) ((Whole.new W1 9 #[strV L[i]]).cell 0) (by omega)
        refine region_p 8 ?_
        intro K hK
        refine ListK.move (i := 0) (v := v) rfl (by simp [p7]) ?_
        refine ListK.move (i := 1) (v := .slice (some ⟨gb, off, none⟩) L.length c) rfl (by simp [p0]) ?_
        refine ListK.move (i := 2) (v := .int .i64 (i : Int)) rfl (by simp [p8]) ?_
        refine ListK.index (i := 3) (u := .slice (some ⟨gb, off, none⟩) L.length c) (u' := .int .i64 (i : Int)) (v := .pointer (some ⟨gb, off + i, none⟩)) rfl (by simp [hz_b2]) (by simp [hz_b2]) (ix36 hil _) ?_
        refine ListK.load (i := 4) (p := ⟨gb, off + i, none⟩) (v := strV L[i]) rfl (by simp [hz_b2]) (ld9 (c1)) ?_
        refine ListK.bsl (i := 5) (ps := #[(0, strV L[i])]) (v := .slice (some ⟨W1.heap.size, 0, none⟩) 1 1) rfl (by simp [hz_b2]) (bs36_1 _ W1) ?_
        refine ListK.app36 (i := 6) rfl (by simp [hz_b2]) (by simp [hz_b2]) hap4 ?_
        refine ListK.assign (i := 7) (v := v4) rfl (by simp [hz_b2]) ?_
        refine ListK.done (hK _ _ ?_)
        clear hK K
        exact hgo (T ++ [L[i]]) v4 _ W4 (by simp only [size_put, hz_b2]) (by simp only [defers_put, hd_b2]) (by simp [p0]) (by simp [p1]) (by simp [p2]) (by simp [hz_b2]) (by simp [p8]) os4 (tn.one hl)
    refine wpIn_block (wpIn_seq ?_)
    by_cases h0 : i = 0
    · skip
      refine region_p 8 ?_
      intro K hK
      refine ListK.move (i := 0) (v := .int .i64 (i : Int)) rfl (by simp [q8]) ?_
      refine ListK.bin (i := 1) (u := .int .i64 (i : Int)) (u' := .int .i64 0) (v := .bool false) rfl (by simp [hz_a2]) (by simp) (gtr3F (by omega) _) ?_
      refine ListK.move (i := 2) (v := .bool false) rfl (by simp [hz_a2]) ?_
      refine ListK.passG (i := 3) (e := 30) (b' := false) rfl rfl (by simp [hz_a2]) rfl ?_
      refine ListK.passG (i := 4) (e := 30) (b' := false) rfl rfl (by simp [hz_a2]) rfl ?_
      refine ListK.passG (i := 5) (e := 30) (b' := false) rfl rfl (by simp [hz_a2]) rfl ?_
      refine ListK.pick (i := 6) (b := false) (v := .bool false) rfl (by simp [hz_a2]) (by simp) ?_
      refine ListK.assign (i := 7) (v := .bool false) rfl (by simp [hz_a2]) ?_
      refine ListK.done (hK _ _ ?_)
      clear hK K
      refine wpIn_cond (t := false) (by simp [hz_a2]) ?_
      generalize hA : Act.put _ _ _ = a3
      have hz_a3 : a3.tmps.size = 64 := by rw [← hA]; simp only [size_put, hz_a2]
      have r0 : a3.eval (.tmp 0) = .slice (some ⟨gb, off, none⟩) L.length c := by rw [← hA]; exact (by simp [q0])
      have r1 : a3.eval (.tmp 1) = .slice Aw lw.length cw := by rw [← hA]; exact (by simp [q1])
      have r2 : a3.eval (.tmp 2) = .int .u8 (by_ : Int) := by rw [← hA]; exact (by simp [q2])
      have r7 : a3.eval (.tmp 7) = v := by rw [← hA]; exact (by simp [q7])
      have r8 : a3.eval (.tmp 8) = .int .i64 (i : Int) := by rw [← hA]; exact (by simp [q8])
      have r9 : a3.eval (.tmp 9) = .int .i64 (n : Int) := by rw [← hA]; exact (by simp [q9])
      have hd_a3 : a3.defers = [] := by rw [← hA]; simp only [defers_put, hd_a2]
      clear hA
      exact hlast _ hz_a3 hd_a3 r0 r1 r2 r7 r8 r9
    · by_cases h4 : n % 4 = 0
      · skip
        refine region_p 8 ?_
        intro K hK
        refine ListK.move (i := 0) (v := .int .i64 (i : Int)) rfl (by simp [q8]) ?_
        refine ListK.bin (i := 1) (u := .int .i64 (i : Int)) (u' := .int .i64 0) (v := .bool true) rfl (by simp [hz_a2]) (by simp) (gtr3T (by omega) _) ?_
        refine ListK.move (i := 2) (v := .bool true) rfl (by simp [hz_a2]) ?_
        refine ListK.move (i := 3) (v := .int .i64 (n : Int)) rfl (by simp [q9]) ?_ (hw := wanted_g (e := 30) (b' := true) rfl (by simp [hz_a2]) rfl)
        refine ListK.bin (i := 4) (u := .int .i64 (n : Int)) (u' := .int .i64 4) (v := .int .i64 ((n % 4 : Nat) : Int)) rfl (by simp [hz_a2]) (by simp) (rem3r (by omega) (by omega) rfl _) ?_ (hw := wanted_g (e := 30) (b' := true) rfl (by simp [hz_a2]) rfl)
        refine ListK.bin (i := 5) (u := .int .i64 ((n % 4 : Nat) : Int)) (u' := .int .i64 0) (v := .bool true) rfl (by simp [hz_a2]) (by simp) (eql3T (by omega) _) ?_ (hw := wanted_g (e := 30) (b' := true) rfl (by simp [hz_a2]) rfl)
        refine ListK.pick (i := 6) (b := true) (v := .bool true) rfl (by simp [hz_a2]) (by simp [hz_a2]) ?_
        refine ListK.assign (i := 7) (v := .bool true) rfl (by simp [hz_a2]) ?_
        refine ListK.done (hK _ _ ?_)
        clear hK K
        refine wpIn_cond (t := true) (by simp [hz_a2]) (wpIn_exit ?_)
        exact hgo T v _ W1 (by simp only [size_put, hz_a2]) (by simp only [defers_put, hd_a2]) (by simp [q0]) (by simp [q1]) (by simp [q2]) (by simp [q7]) (by simp [q8]) os (tn.skip (by omega))
      · skip
        refine region_p 8 ?_
        intro K hK
        refine ListK.move (i := 0) (v := .int .i64 (i : Int)) rfl (by simp [q8]) ?_
        refine ListK.bin (i := 1) (u := .int .i64 (i : Int)) (u' := .int .i64 0) (v := .bool true) rfl (by simp [hz_a2]) (by simp) (gtr3T (by omega) _) ?_
        refine ListK.move (i := 2) (v := .bool true) rfl (by simp [hz_a2]) ?_
        refine ListK.move (i := 3) (v := .int .i64 (n : Int)) rfl (by simp [q9]) ?_ (hw := wanted_g (e := 30) (b' := true) rfl (by simp [hz_a2]) rfl)
        refine ListK.bin (i := 4) (u := .int .i64 (n : Int)) (u' := .int .i64 4) (v := .int .i64 ((n % 4 : Nat) : Int)) rfl (by simp [hz_a2]) (by simp) (rem3r (by omega) (by omega) rfl _) ?_ (hw := wanted_g (e := 30) (b' := true) rfl (by simp [hz_a2]) rfl)
        refine ListK.bin (i := 5) (u := .int .i64 ((n % 4 : Nat) : Int)) (u' := .int .i64 0) (v := .bool false) rfl (by simp [hz_a2]) (by simp) (eql3F (by omega) _) ?_ (hw := wanted_g (e := 30) (b' := true) rfl (by simp [hz_a2]) rfl)
        refine ListK.pick (i := 6) (b := true) (v := .bool false) rfl (by simp [hz_a2]) (by simp [hz_a2]) ?_
        refine ListK.assign (i := 7) (v := .bool false) rfl (by simp [hz_a2]) ?_
        refine ListK.done (hK _ _ ?_)
        clear hK K
        refine wpIn_cond (t := false) (by simp [hz_a2]) ?_
        generalize hA : Act.put _ _ _ = a3
        have hz_a3 : a3.tmps.size = 64 := by rw [← hA]; simp only [size_put, hz_a2]
        have r0 : a3.eval (.tmp 0) = .slice (some ⟨gb, off, none⟩) L.length c := by rw [← hA]; exact (by simp [q0])
        have r1 : a3.eval (.tmp 1) = .slice Aw lw.length cw := by rw [← hA]; exact (by simp [q1])
        have r2 : a3.eval (.tmp 2) = .int .u8 (by_ : Int) := by rw [← hA]; exact (by simp [q2])
        have r7 : a3.eval (.tmp 7) = v := by rw [← hA]; exact (by simp [q7])
        have r8 : a3.eval (.tmp 8) = .int .i64 (i : Int) := by rw [← hA]; exact (by simp [q8])
        have r9 : a3.eval (.tmp 9) = .int .i64 (n : Int) := by rw [← hA]; exact (by simp [q9])
        have hd_a3 : a3.defers = [] := by rw [← hA]; simp only [defers_put, hd_a2]
        clear hA
        exact hlast _ hz_a3 hd_a3 r0 r1 r2 r7 r8 r9
  · skip
    refine wpIn_seq (wpIn_seq (region_p 4 ?_))
    intro K hK
    refine ListK.move (i := 0) (v := .int .i64 (i : Int)) rfl (by simp [t8]) ?_
    refine ListK.move (i := 1) (v := .slice A L.length c) rfl (by simp [t0]) ?_
    refine ListK.len (i := 2) (u := .slice A L.length c) (v := .int .i64 L.length) rfl (by simp [hz]) (ln36 _ _ _ _ _) rfl ?_
    refine ListK.bin (i := 3) (u := .int .i64 (i : Int)) (u' := .int .i64 L.length) (v := .bool false) rfl (by simp [hz]) (by simp [hz]) (lssF3 (by omega) _) ?_
    refine ListK.done (hK _ _ ?_)
    clear hK K
    refine wpIn_cond (t := false) (by simp [hz]) (wpIn_exit ?_)
    exact hX (by omega) _ (by simp only [size_put, hz]) (by simp only [defers_put, hd_a]) (by simp [t2]) (by simp [t7])
end
theorem torn_any (A Aw : Option Addr) (c cw by_ : Nat) (L : List (List UInt8)) (lw : List Nat) (W : World) (hL : L.length ≤ 1000) (hne : 0 < L.length) (hby : by_ < 256) (hs : StrsAt W W.heap.size A L) (hw : WordsAt W W.heap.size Aw lw) :
    Calls Try.prog 24 #[.slice A L.length c, .slice Aw lw.length cw, .int .u8 (by_ : Int)] W (fun e w' => ∃ v T, e = .returned v ∧ OS W v T w' ∧ Tn L L.length T) := by
  refine (callsIn_wide (n := 5)).1 (callsIn_of_wp Try.func24 body24 trivial ?_ rfl)
  obtain ⟨a, ha⟩ : ∃ a : Act, a = { tmps := #[.slice A L.length c, .slice Aw lw.length cw, .int .u8 (by_ : Int)] ++ Array.replicate (Try.f24.ntmps - (#[.slice A L.length c, .slice Aw lw.length cw, .int .u8 (by_ : Int)] : Array Value).size) undef, defers := [] } := ⟨_, rfl⟩
  have hsz : a.tmps.size = 64 := by rw [ha]; simp [Try.ntmps24]
  have t0 : a.eval (.tmp 0) = .slice A L.length c := by rw [ha]; simp [Act.eval]
  have t1 : a.eval (.tmp 1) = .slice Aw lw.length cw := by rw [ha]; simp [Act.eval]
  have t2 : a.eval (.tmp 2) = .int .u8 (by_ : Int) := by rw [ha]; simp [Act.eval]
  have hd_a : a.defers = [] := by rw [ha]
  rw [← ha]
  clear ha
  unfold code24
  refine wpIn_seq (region_p 1 ?_)
  intro K hK
  refine ListK.assign (i := 0) (v := .slice none 0 0) rfl (by simp) ?_
  refine ListK.done (hK _ _ ?_)
  clear hK K
  refine wpIn_seq (region_p 1 ?_)
  intro K hK
  refine ListK.assign (i := 0) (v := .slice none 0 0) rfl (by simp) ?_
  refine ListK.done (hK _ _ ?_)
  clear hK K
  generalize hA : Act.put _ _ _ = a1
  have hz_a1 : a1.tmps.size = 64 := by rw [← hA]; simp only [size_put, hsz]
  have u0 : a1.eval (.tmp 0) = .slice A L.length c := by rw [← hA]; exact (by simp [t0])
  have u1 : a1.eval (.tmp 1) = .slice Aw lw.length cw := by rw [← hA]; exact (by simp [t1])
  have u2 : a1.eval (.tmp 2) = .int .u8 (by_ : Int) := by rw [← hA]; exact (by simp [t2])
  have u7 : a1.eval (.tmp 7) = .slice none 0 0 := by rw [← hA]; exact (by simp [hsz])
  have hd_a1 : a1.defers = [] := by rw [← hA]; simp only [defers_put, hd_a]
  clear hA
  refine wpIn_seq (wpIn_seq (region_p 1 ?_))
  intro K hK
  refine ListK.assign (i := 0) (v := .int .i64 0) rfl (by simp) ?_
  refine ListK.done (hK _ _ ?_)
  clear hK K
  generalize hA : Act.put _ _ _ = a2
  have hz_a2 : a2.tmps.size = 64 := by rw [← hA]; simp only [size_put, hz_a1]
  have v0 : a2.eval (.tmp 0) = .slice A L.length c := by rw [← hA]; exact (by simp [u0])
  have v1 : a2.eval (.tmp 1) = .slice Aw lw.length cw := by rw [← hA]; exact (by simp [u1])
  have v2 : a2.eval (.tmp 2) = .int .u8 (by_ : Int) := by rw [← hA]; exact (by simp [u2])
  have v7 : a2.eval (.tmp 7) = .slice none 0 0 := by rw [← hA]; exact (by simp [u7])
  have v8 : a2.eval (.tmp 8) = .int .i64 0 := by rw [← hA]; exact (by simp [hz_a1])
  have hd_a2 : a2.defers = [] := by rw [← hA]; simp only [defers_put, hd_a1]
  clear hA
  refine wpIn_block (wpIn_loop (fun a W' => ∃ (i : Nat) (v : Value) (T : List (List UInt8)), i ≤ L.length ∧ a.tmps.size = 64 ∧ a.defers = [] ∧ a.eval (.tmp 0) = .slice A L.length c ∧ a.eval (.tmp 1) = .slice Aw lw.length cw ∧ a.eval (.tmp 2) = .int .u8 (by_ : Int) ∧ a.eval (.tmp 7) = v ∧ a.eval (.tmp 8) = .int .i64 (i : Int) ∧ OS W v T W' ∧ Tn L i T) (fun a _ => L.length - (intOf (a.eval (.tmp 8))).toNat)
    ⟨0, _, [], Nat.zero_le _, hz_a2, hd_a2, v0, v1, v2, v7, v8, os_none W, ⟨fun _ h => (List.not_mem_nil h).elim, fun h => absurd h (by omega), by simp⟩⟩ ?_)
  rintro b1 W1 ⟨i, v, T, hi, hz_b, hd_b, q0, q1, q2, q7, q8, os, tn⟩
  refine tn_l_any hL hs hw hi hz_b hd_b q0 q1 q2 q7 q8 os tn (fun hil a' W' v' T' y0 yd s0 s1 s2 s7 s8 os' tn' => ?_) (fun hend a' y0 yd s2 s7 => ?_)
  · refine ⟨⟨i + 1, v', T', by omega, y0, yd, s0, s1, s2, s7, s8, os', tn'⟩, ?_⟩
    rw [q8, s8]
    simp only [intOf]
    omega
  · subst hend
    exact tn_e_any hL hne hby y0 yd s2 s7 os tn
end Go.Proofs.YtmdlmmfbcnkanaaR
namespace Go.Proofs.YtmdlmmfbcnkanaaR

theorem pieces_app : ∀ (l acc rest : List UInt8), (10 : UInt8) ∉ l → pieces acc (l ++ 10 :: rest) = (acc ++ l) :: pieces [] rest
  | [], acc, rest, _ => by
    show (if (10 : UInt8) = 10 then acc :: pieces [] rest else pieces (acc ++ [10]) rest) = _
    simp
  | b :: l, acc, rest, h => by
    have hb : b ≠ 10 := fun e => h (by simp [e])
    show (if b = 10 then acc :: pieces [] (l ++ 10 :: rest) else pieces (acc ++ [b]) (l ++ 10 :: rest)) = _
    rw [if_neg hb, pieces_app l _ rest (fun hm => h (List.mem_cons_of_mem _ hm))]
    simp
theorem pieces_lines : ∀ (L : List (List UInt8)) (rest : List UInt8), (∀ l, l ∈ L → (10 : UInt8) ∉ l) → pieces [] (linesL L ++ rest) = L ++ pieces [] rest
  | [], _, _ => rfl
  | l :: L, rest, h => by
    have h1 := pieces_app l [] (linesL L ++ rest) (h l List.mem_cons_self)
    have h2 : linesL (l :: L) ++ rest = l ++ 10 :: (linesL L ++ rest) := by simp [linesL]
    rw [h2, h1, pieces_lines L rest (fun x hx => h x (List.mem_cons_of_mem _ hx))]
    rfl
theorem isDig_hi {n : Nat} (h : n ≤ 99) : isDig (hi2 n) = true ∧ dig (hi2 n) = n / 10 := by
  have h1 : isDig (hi2 n) = true := by
    simp only [isDig, decide_eq_true_eq, hi2_nat h]
    omega
  have h2 := (dig_nat h1).1
  rw [hi2_nat h] at h2
  exact ⟨h1, by omega⟩
theorem isDig_lo {n : Nat} (h : n ≤ 99) : isDig (lo2 n) = true ∧ dig (lo2 n) = n % 10 := by
  have h1 : isDig (lo2 n) = true := by
    simp only [isDig, decide_eq_true_eq, lo2_nat h]
    omega
  have h2 := (dig_nat h1).1
  rw [lo2_nat h] at h2
  exact ⟨h1, by omega⟩
theorem num2_two {n : Nat} (h : n ≤ 99) : num2 (hi2 n) (lo2 n) = n := by
  rw [num2, (isDig_hi h).2, (isDig_lo h).2]
  omega
theorem not10 {b : UInt8} (h : isDig b = true) : b ≠ 10 := by
  rintro rfl
  simp [isDig] at h
theorem made_no10 {k : UInt8} {a b : Nat} (hk : k ≠ 10) (ha : a ≤ 99) (hb : b ≤ 99) : (10 : UInt8) ∉ made k a b := by
  have hc : chk5 k (hi2 a) (lo2 a) (hi2 b) (lo2 b) ≤ 99 := by have := chk5_lt k (hi2 a) (lo2 a) (hi2 b) (lo2 b); omega
  have h1 := not10 (isDig_hi ha).1
  have h2 := not10 (isDig_lo ha).1
  have h3 := not10 (isDig_hi hb).1
  have h4 := not10 (isDig_lo hb).1
  have h5 := not10 (isDig_hi hc).1
  have h6 := not10 (isDig_lo hc).1
  simp only [made, List.mem_cons, List.not_mem_nil, or_false, not_or]
  exact ⟨hk.symm, h1.symm, h2.symm, h3.symm, h4.symm, h5.symm, h6.symm⟩
theorem made_good {k : UInt8} {a b : Nat} (hk : k = 72 ∨ k = 82 ∨ k = 80) (ha : a ≤ 99) (hb : b ≤ 99) (hh : k = 72 → headOk (a : Int) ((b / 10 : Nat) : Int) ((b % 10 : Nat) : Int) = true) : isGood (made k a b) = true := by
  have hc : chk5 k (hi2 a) (lo2 a) (hi2 b) (lo2 b) ≤ 99 := by have := chk5_lt k (hi2 a) (lo2 a) (hi2 b) (lo2 b); omega
  have e1 : (k == 72 || k == 82 || k == 80) = true := by rcases hk with rfl | rfl | rfl <;> rfl
  simp only [made, isGood, good7, e1, (isDig_hi ha).1, (isDig_lo ha).1, (isDig_hi hb).1, (isDig_lo hb).1, (isDig_hi hc).1, (isDig_lo hc).1, num2_two hc, num2_two ha, (isDig_hi hb).2, (isDig_lo hb).2, Bool.and_self, BEq.rfl, Bool.true_and]
  by_cases h72 : k = 72
  · rw [hh h72]
    simp
  · simp [h72]
theorem made_name {k : UInt8} {a b : Nat} (ha : a ≤ 99) : nameOf (made k a b) = if k = 72 then (72, 0) else (k, a) := by
  simp only [made, nameOf, num2_two ha]
theorem made_val {k : UInt8} {a b : Nat} (hb : b ≤ 99) : valOf (made k a b) = b := by
  simp only [made, valOf, num2_two hb]
theorem made_head {m w st : Nat} (hm : m ≤ 99) (hw : w ≤ 9) (hs : st ≤ 9) : headOf (made 72 m (10 * w + st)) = ⟨m, w, st⟩ := by
  have hb : 10 * w + st ≤ 99 := by omega
  simp only [made, headOf, num2_two hm, (isDig_hi hb).2, (isDig_lo hb).2, Head.mk.injEq, true_and]
  omega
/-- Records of which no two of one name differ. -/
def Func (L : List (List UInt8)) : Prop := ∀ a b, a ∈ L → b ∈ L → nameOf a = nameOf b → a = b
theorem find_iff {m : List (List UInt8)} (hf : Func m) {nm : UInt8 × Nat} {r : List UInt8} : find m nm = some r ↔ r ∈ m ∧ nameOf r = nm := by
  constructor
  · exact find_mem
  · rintro ⟨h1, h2⟩
    cases h : find m nm with
    | none =>
      unfold find at h
      rw [List.find?_eq_none] at h
      have := h r h1
      simp [h2] at this
    | some r' =>
      obtain ⟨h3, h4⟩ := find_mem h
      rw [hf r' r h3 h1 (h4.trans h2.symm)]
theorem takeUp_ok : ∀ (T m : List (List UInt8)), Func (m ++ T) → ∃ m', takeUp m T = some m' ∧ ∀ r, r ∈ m' ↔ r ∈ m ++ T
  | [], m, _ => ⟨m, rfl, fun r => by simp⟩
  | g :: T, m, hf => by
    simp only [takeUp]
    cases h : find m (nameOf g) with
    | none =>
      obtain ⟨m', h1, h2⟩ := takeUp_ok T (m ++ [g]) (by simpa using hf)
      exact ⟨m', h1, fun r => by rw [h2]; simp⟩
    | some old =>
      obtain ⟨h3, h4⟩ := find_mem h
      have ho : old = g := hf old g (by simp [h3]) (by simp) h4
      subst ho
      obtain ⟨m', h1, h2⟩ := takeUp_ok T m (fun a b ha hb => hf a b (by
        rcases List.mem_append.1 ha with h | h
        · simp [h]
        · simp [h]) (by
        rcases List.mem_append.1 hb with h | h
        · simp [h]
        · simp [h]))
      refine ⟨m', by simpa using h1, fun r => ?_⟩
      rw [h2]
      simp only [List.mem_append, List.mem_cons]
      constructor
      · rintro (h | h)
        · exact .inl h
        · exact .inr (.inr h)
      · rintro (h | rfl | h)
        · exact .inl h
        · exact .inl h3
        · exact .inr h
theorem Func.of_sub {L L' : List (List UInt8)} (h : Func L) (hs : ∀ r, r ∈ L' → r ∈ L) : Func L' := fun a b ha hb => h a b (hs a ha) (hs b hb)
end Go.Proofs.YtmdlmmfbcnkanaaR
namespace Go.Proofs.YtmdlmmfbcnkanaaR

/-- A reading as a number. -/
def rdN (s : Ser) (i : Nat) : Nat := (s.rd.getD i 0).toNat
def smN (s : Ser) (b : Nat) : Nat := (sumB s b).toNat
def hdR (s : Ser) : List UInt8 := made 72 s.rd.length (10 * s.width.toNat + s.step.toNat)
def hdH (s : Ser) : Head := ⟨s.rd.length, s.width.toNat, s.step.toNat⟩
theorem mem_recsTo {s : Ser} : ∀ {k : Nat} {r : List UInt8}, r ∈ recsTo s k ↔ r = hdR s ∨ (∃ i, i < k ∧ r = made 82 i (rdN s i)) ∨ (∃ i, i < k ∧ closesB s.rd.length s.width i = true ∧ r = made 80 (i / s.width.toNat) (smN s (i / s.width.toNat)))
  | 0, r => by simp [recsTo, hdR]
  | k + 1, r => by
    unfold recsTo
    rw [List.mem_append, List.mem_append, mem_recsTo (k := k)]
    constructor
    · rintro (((h | ⟨i, h1, h2⟩ | ⟨i, h1, h2, h3⟩) | h) | h)
      · exact .inl h
      · exact .inr (.inl ⟨i, by omega, h2⟩)
      · exact .inr (.inr ⟨i, by omega, h2, h3⟩)
      · simp at h
        exact .inr (.inl ⟨k, by omega, h⟩)
      · split at h
        · rename_i hc
          simp at h
          exact .inr (.inr ⟨k, by omega, hc, h⟩)
        · simp at h
    · rintro (h | ⟨i, h1, h2⟩ | ⟨i, h1, h2, h3⟩)
      · exact .inl (.inl (.inl h))
      · by_cases e : i = k
        · subst e
          exact .inl (.inr (List.mem_singleton.2 h2))
        · exact .inl (.inl (.inr (.inl ⟨i, by omega, h2⟩)))
      · by_cases e : i = k
        · subst e
          refine .inr ?_
          rw [if_pos h2]
          exact List.mem_singleton.2 h3
        · exact .inl (.inl (.inr (.inr ⟨i, by omega, h2, h3⟩)))
/-- What a valid series is like, in numbers. -/
structure SerN (s : Ser) : Prop where
  len : 1 ≤ s.rd.length ∧ s.rd.length ≤ 40
  wd : 2 ≤ s.width.toNat ∧ s.width.toNat ≤ 8 ∧ s.width = (s.width.toNat : Int)
  st : 1 ≤ s.step.toNat ∧ s.step.toNat ≤ 9 ∧ s.step = (s.step.toNat : Int)
  rd : ∀ i, i < s.rd.length → rdN s i ≤ 99 ∧ s.rd[i]? = some (rdN s i : Int)
  sm : ∀ b, smN s b ≤ 99 ∧ sumB s b = (smN s b : Int)
  near : ∀ i, i + 1 < s.rd.length → rdN s (i + 1) ≤ rdN s i + s.step.toNat ∧ rdN s i ≤ rdN s (i + 1) + s.step.toNat
theorem serN {s : Ser} (hf : faultS s = 0) : SerN s := by
  obtain ⟨h1, h2, h3, h4, h5⟩ := ser_valid hf
  have hrd : ∀ i, i < s.rd.length → rdN s i ≤ 99 ∧ s.rd[i]? = some (rdN s i : Int) := by
    intro i hi
    have e := List.getElem?_eq_getElem hi
    have := h4 i _ e
    have hg : rdN s i = s.rd[i].toNat := by simp [rdN, hi]
    refine ⟨by omega, ?_⟩
    rw [e, hg]
    congr 1
    omega
  refine ⟨h1, ⟨by omega, by omega, by omega⟩, ⟨by omega, by omega, by omega⟩, hrd, fun b => ?_, fun i hi => ?_⟩
  · have : 0 ≤ sumB s b ∧ sumB s b ≤ 99 := by unfold sumB; omega
    unfold smN
    omega
  · have := (nearL_iff _ _).1 h5 i _ _ hi (hrd i (by omega)).2 (hrd (i + 1) hi).2
    unfold nearB at this
    rw [inR_iff] at this
    omega
theorem div_le40 {s : Ser} (n : SerN s) {i : Nat} (hi : i < s.rd.length) : i / s.width.toNat ≤ 40 := by
  have := Nat.div_le_self i s.width.toNat
  have := n.len
  omega
theorem hdR_ok {s : Ser} (n : SerN s) : isGood (hdR s) = true ∧ nameOf (hdR s) = (72, 0) ∧ headOf (hdR s) = hdH s ∧ (10 : UInt8) ∉ hdR s := by
  have h1 := n.len
  have h2 := n.wd
  have h3 := n.st
  have hb : 10 * s.width.toNat + s.step.toNat ≤ 99 := by omega
  refine ⟨made_good (.inl rfl) (by omega) hb (fun _ => headOk_iff.2 ⟨by omega, by omega, by omega⟩), ?_, made_head (by omega) (by omega) (by omega), made_no10 (by decide) (by omega) hb⟩
  unfold hdR
  rw [made_name (by omega), if_pos rfl]
theorem recR_ok {s : Ser} (n : SerN s) {i : Nat} (hi : i < s.rd.length) : isGood (made 82 i (rdN s i)) = true ∧ nameOf (made 82 i (rdN s i)) = (82, i) ∧ valOf (made 82 i (rdN s i)) = rdN s i ∧ (10 : UInt8) ∉ made 82 i (rdN s i) := by
  have h1 := n.len
  have h2 := (n.rd i hi).1
  refine ⟨made_good (.inr (.inl rfl)) (by omega) h2 (fun h => by cases h), ?_, made_val h2, made_no10 (by decide) (by omega) h2⟩
  rw [made_name (by omega), if_neg (by decide)]
theorem recP_ok {s : Ser} (n : SerN s) {b : Nat} (hb : b ≤ 40) : isGood (made 80 b (smN s b)) = true ∧ nameOf (made 80 b (smN s b)) = (80, b) ∧ valOf (made 80 b (smN s b)) = smN s b ∧ (10 : UInt8) ∉ made 80 b (smN s b) := by
  have h2 := (n.sm b).1
  refine ⟨made_good (.inr (.inr rfl)) (by omega) h2 (fun h => by cases h), ?_, made_val h2, made_no10 (by decide) (by omega) h2⟩
  rw [made_name (by omega), if_neg (by decide)]
theorem file_ok {s : Ser} (n : SerN s) {r : List UInt8} (hr : r ∈ fileL s) : isGood r = true ∧ (10 : UInt8) ∉ r := by
  rcases mem_recsTo.1 hr with rfl | ⟨i, h1, rfl⟩ | ⟨i, h1, _, rfl⟩
  · exact ⟨(hdR_ok n).1, (hdR_ok n).2.2.2⟩
  · exact ⟨(recR_ok n h1).1, (recR_ok n h1).2.2.2⟩
  · exact ⟨(recP_ok n (div_le40 n h1)).1, (recP_ok n (div_le40 n h1)).2.2.2⟩
theorem file_func {s : Ser} (n : SerN s) : Func (fileL s) := by
  intro a b ha hb he
  rcases mem_recsTo.1 ha with rfl | ⟨i, h1, rfl⟩ | ⟨i, h1, _, rfl⟩ <;> rcases mem_recsTo.1 hb with rfl | ⟨j, h2, rfl⟩ | ⟨j, h2, _, rfl⟩
  · rfl
  · rw [(hdR_ok n).2.1, (recR_ok n h2).2.1] at he
    cases he
  · rw [(hdR_ok n).2.1, (recP_ok n (div_le40 n h2)).2.1] at he
    cases he
  · rw [(hdR_ok n).2.1, (recR_ok n h1).2.1] at he
    cases he
  · rw [(recR_ok n h1).2.1, (recR_ok n h2).2.1] at he
    simp at he
    rw [he]
  · rw [(recR_ok n h1).2.1, (recP_ok n (div_le40 n h2)).2.1] at he
    cases he
  · rw [(hdR_ok n).2.1, (recP_ok n (div_le40 n h1)).2.1] at he
    cases he
  · rw [(recP_ok n (div_le40 n h1)).2.1, (recR_ok n h2).2.1] at he
    cases he
  · rw [(recP_ok n (div_le40 n h1)).2.1, (recP_ok n (div_le40 n h2)).2.1] at he
    simp at he
    rw [he]
theorem goods_lines {T : List (List UInt8)} (h : ∀ r, r ∈ T → isGood r = true ∧ (10 : UInt8) ∉ r) : goods (linesL T) = T := by
  have h1 := pieces_lines T [] (fun r hr => (h r hr).2)
  rw [List.append_nil] at h1
  unfold goods
  rw [h1]
  simp only [pieces, List.append_nil]
  exact List.filter_eq_self.2 (fun r hr => (h r hr).1)
/-- What is read of some records of a file. -/
structure RdM (s : Ser) (m : List (List UInt8)) : Prop where
  sub : ∀ r, r ∈ m → r ∈ fileL s
  hd : hdR s ∈ m
theorem RdM.func {s : Ser} {m : List (List UInt8)} (h : RdM s m) (n : SerN s) : Func m := (file_func n).of_sub h.sub
theorem RdM.find {s : Ser} {m : List (List UInt8)} (h : RdM s m) (n : SerN s) : find m (72, 0) = some (hdR s) := (find_iff (h.func n)).2 ⟨h.hd, (hdR_ok n).2.1⟩
theorem RdM.out {s : Ser} {m : List (List UInt8)} (h : RdM s m) (n : SerN s) : m.any (outOf (hdH s)) = false := by
  rw [List.any_eq_false]
  intro r hr
  have hw := n.wd
  rcases mem_recsTo.1 (h.sub r hr) with rfl | ⟨i, h1, rfl⟩ | ⟨i, h1, _, rfl⟩
  · simp [outOf, (hdR_ok n).2.1]
  · simp [outOf, (recR_ok n h1).2.1, hdH, h1]
  · have hd : i / s.width.toNat < (s.rd.length + s.width.toNat - 1) / s.width.toNat := by
      have h2 : i / s.width.toNat + 1 ≤ (s.rd.length + s.width.toNat - 1) / s.width.toNat := by
        rw [Nat.le_div_iff_mul_le (by omega), Nat.add_mul, Nat.one_mul]
        have := Nat.div_mul_le_self i s.width.toNat
        omega
      omega
    simp [outOf, (recP_ok n (div_le40 n h1)).2.1, hdH, Head.blocks, hd]
theorem read_torn {s : Ser} (n : SerN s) {T : List (List UInt8)} (hT : ∀ r, r ∈ T → r ∈ fileL s) (hh : hdR s ∈ T) (hl : (linesL T).length ≤ 4000) :
    ∃ m, takeUp [] T = some m ∧ (∀ r, r ∈ m ↔ r ∈ T) ∧ RdM s m ∧ readC [linesL T] = 0 ∧ readM (linesL T) = some (hdH s, m) := by
  obtain ⟨m, h1, h2⟩ := takeUp_ok T [] (by rw [List.nil_append]; exact (file_func n).of_sub hT)
  simp only [List.nil_append] at h2
  have hm : RdM s m := ⟨fun r hr => hT r ((h2 r).1 hr), (h2 _).2 hh⟩
  have hg := goods_lines (T := T) (fun r hr => file_ok n (hT r hr))
  have hfl : [linesL T].flatMap goods = T := by simp [hg]
  have hc : readC [linesL T] = 0 := by
    have h4 : [linesL T].any (fun l => decide (4000 < l.length)) = false := by simp; omega
    rw [readC_of h4 (by rw [hfl]; exact h1) (hm.find n), (hdR_ok n).2.2.1, hm.out n]
    simp
  refine ⟨m, h1, h2, hm, hc, ?_⟩
  simp only [readM, hc, hg, h1]
  simp [hm.find n, (hdR_ok n).2.2.1]
end Go.Proofs.YtmdlmmfbcnkanaaR
namespace Go.Proofs.YtmdlmmfbcnkanaaR

theorem told_R {s : Ser} (n : SerN s) {m : List (List UInt8)} (h : RdM s m) {k x : Nat} (ht : told m 82 k = some x) : x = rdN s k := by
  unfold told at ht
  rw [Option.map_eq_some_iff] at ht
  obtain ⟨r, hf, rfl⟩ := ht
  obtain ⟨h1, h2⟩ := find_mem hf
  rcases mem_recsTo.1 (h.sub r h1) with rfl | ⟨i, h3, rfl⟩ | ⟨i, h3, _, rfl⟩
  · rw [(hdR_ok n).2.1] at h2
    cases h2
  · rw [(recR_ok n h3).2.1] at h2
    simp at h2
    subst h2
    exact (recR_ok n h3).2.2.1
  · rw [(recP_ok n (div_le40 n h3)).2.1] at h2
    cases h2
theorem told_P {s : Ser} (n : SerN s) {m : List (List UInt8)} (h : RdM s m) {b x : Nat} (ht : told m 80 b = some x) : x = smN s b := by
  unfold told at ht
  rw [Option.map_eq_some_iff] at ht
  obtain ⟨r, hf, rfl⟩ := ht
  obtain ⟨h1, h2⟩ := find_mem hf
  rcases mem_recsTo.1 (h.sub r h1) with rfl | ⟨i, h3, rfl⟩ | ⟨i, h3, _, rfl⟩
  · rw [(hdR_ok n).2.1] at h2
    cases h2
  · rw [(recR_ok n h3).2.1] at h2
    cases h2
  · rw [(recP_ok n (div_le40 n h3)).2.1] at h2
    simp at h2
    subst h2
    exact (recP_ok n (div_le40 n h3)).2.2.1
/-- The sum of a block up to a place. -/
def rs (s : Ser) : Nat → Nat
  | 0 => 0
  | k + 1 => if k % s.width.toNat = 0 then rdN s k else (rs s k + rdN s k) % 100
def pv (s : Ser) : Nat → Nat
  | 0 => 0
  | k + 1 => rdN s k
theorem rs_sum {s : Ser} (n : SerN s) : ∀ k, k < s.rd.length → (rs s (k + 1) : Int) = sumR s.rd (k / s.width.toNat * s.width.toNat) (k % s.width.toNat + 1) % 100
  | k, hk => by
    have hw := n.wd
    have hdm := Nat.div_add_mod' k s.width.toNat
    have hr := n.rd k hk
    have hlt := Nat.mod_lt k (show 0 < s.width.toNat by omega)
    generalize hb : k / s.width.toNat * s.width.toNat = c at *
    have hx : s.rd[c + k % s.width.toNat]? = some (rdN s k : Int) := by rw [hdm]; exact hr.2
    have hsucc := sumR_succ (l := s.rd) (i := c) (n := k % s.width.toNat) (by omega)
    rw [(List.getElem?_eq_some_iff.1 hx).2] at hsucc
    rw [hsucc]
    simp only [rs]
    by_cases h0 : k % s.width.toNat = 0
    · rw [if_pos h0, h0, sumR_zero]
      omega
    · rw [if_neg h0]
      obtain ⟨j, rfl⟩ : ∃ j, k = j + 1 := ⟨k - 1, by
        have : k ≠ 0 := fun e => h0 (by rw [e]; exact Nat.zero_mod _)
        omega⟩
      have hj := rs_sum n j (by omega)
      have hjm : j % s.width.toNat + 1 = (j + 1) % s.width.toNat ∧ j / s.width.toNat * s.width.toNat = c := by
        have h1 : (j + 1) / s.width.toNat = j / s.width.toNat := by
          rw [Nat.succ_div]
          rw [if_neg (fun hd => h0 (Nat.mod_eq_zero_of_dvd hd))]
          rfl
        have h2 := Nat.div_add_mod' j s.width.toNat
        rw [h1] at hb
        exact ⟨by omega, hb⟩
      rw [hjm.1, hjm.2] at hj
      push_cast
      rw [hj]
      omega
theorem rs_le {s : Ser} (n : SerN s) : ∀ k, k ≤ s.rd.length → rs s k ≤ 99
  | 0, _ => by simp [rs]
  | k + 1, hk => by
    have := n.rd k hk
    simp only [rs]
    split <;> omega
theorem rs_close {s : Ser} (n : SerN s) {k : Nat} (hk : k < s.rd.length) (hc : (hdH s).closes k = true) : rs s (k + 1) = smN s (k / s.width.toNat) := by
  have hw := n.wd
  have h1 := rs_sum n k hk
  have h2 := (n.sm (k / s.width.toNat)).2
  have hdm := Nat.div_add_mod' k s.width.toNat
  have hlt := Nat.mod_lt k (show 0 < s.width.toNat by omega)
  have h3 : sumR s.rd (k / s.width.toNat * s.width.toNat) s.width.toNat = sumR s.rd (k / s.width.toNat * s.width.toNat) (k % s.width.toNat + 1) := by
    simp only [Head.closes, hdH, Bool.or_eq_true, beq_iff_eq] at hc
    rcases hc with hc | hc
    · exact sumR_all (by omega) (by omega)
    · rw [show k % s.width.toNat + 1 = s.width.toNat by omega]
  unfold sumB at h2
  rw [h3] at h2
  omega
theorem after_ser {s : Ser} (n : SerN s) {m : List (List UInt8)} (h : RdM s m) {k : Nat} (hk : k < s.rd.length) : after (hdH s) m k (rs s k) (rdN s k) = some (rs s (k + 1)) := by
  rw [after_eq (s' := rs s (k + 1)) rfl]
  have h1 : (told m 82 k).all (· == rdN s k) = true := by
    cases ht : told m 82 k with
    | none => rfl
    | some x => simp [told_R n h ht]
  have h2 : (!(hdH s).closes k || (told m 80 (k / (hdH s).width)).all (· == rs s (k + 1))) = true := by
    cases hc : (hdH s).closes k with
    | false => rfl
    | true =>
      cases ht : told m 80 (k / (hdH s).width) with
      | none => rfl
      | some x =>
        rw [rs_close n hk hc]
        simp [told_P n h ht, hdH]
  rw [h1, h2]
  rfl
theorem reads_ser {s : Ser} (n : SerN s) {k : Nat} (hk : k < s.rd.length) : rdN s k ∈ readsR (hdH s) k (pv s k) := by
  have h1 := n.rd k hk
  rw [mem_reads]
  unfold lowR highR
  cases k with
  | zero => simp; omega
  | succ k =>
    have h2 := n.near k hk
    have h3 : (hdH s).step = s.step.toNat := rfl
    rw [if_neg (by omega), if_neg (by omega), h3]
    simp only [pv]
    omega
theorem reach_ser {s : Ser} (n : SerN s) {m : List (List UInt8)} (h : RdM s m) : ∀ k, k ≤ s.rd.length → (pv s k, rs s k) ∈ reach (hdH s) m k
  | 0, _ => by simp [reach, pv, rs]
  | k + 1, hk => mem_reach.2 ⟨pv s k, rs s k, reach_ser n h k (by omega), reads_ser n hk, after_ser n h hk⟩
theorem go_ser {s : Ser} (n : SerN s) {m : List (List UInt8)} (h : RdM s m) : ∀ f k, k + f = s.rd.length → goB (hdH s) m f k (pv s k) (rs s k) = true
  | 0, _, _ => rfl
  | f + 1, k, hk => goB_succ.2 ⟨rdN s k, rs s (k + 1), reads_ser n (by omega), after_ser n h (by omega), go_ser n h f (k + 1) (by omega)⟩
theorem goes_ser {s : Ser} (n : SerN s) {m : List (List UInt8)} (h : RdM s m) {k : Nat} (hk : k < s.rd.length) : rdN s k ∈ goesAt (hdH s) m k :=
  mem_goes.2 ⟨rs s (k + 1), reach_ser n h (k + 1) hk, go_ser n h _ _ (by show k + 1 + (s.rd.length - (k + 1)) = _; omega)⟩
theorem mend_torn {s : Ser} (n : SerN s) {T : List (List UInt8)} (hT : ∀ r, r ∈ T → r ∈ fileL s) (hh : hdR s ∈ T) (hl : (linesL T).length ≤ 4000) : mendC (linesL T) = 0 := by
  obtain ⟨m, _, _, hm, _, hr⟩ := read_torn n hT hh hl
  have := go_ser n hm s.rd.length 0 (by omega)
  simp only [mendC, hr]
  rw [show (hdH s).many = s.rd.length from rfl]
  simp only [pv, rs] at this
  rw [this]
  rfl
/-- More records leave less. -/
theorem after_mono {h : Head} {m m' : List (List UInt8)} (hs : ∀ nm r, find m nm = some r → find m' nm = some r) {k s n s' : Nat} (ha : after h m' k s n = some s') : after h m k s n = some s' := by
  have ht : ∀ l j x, told m l j = some x → told m' l j = some x := by
    intro l j x hx
    unfold told at hx ⊢
    rw [Option.map_eq_some_iff] at hx ⊢
    obtain ⟨r, h1, h2⟩ := hx
    exact ⟨r, hs _ _ h1, h2⟩
  obtain ⟨q, hq⟩ : ∃ q, q = if k % h.width = 0 then n else (s + n) % 100 := ⟨_, rfl⟩
  rw [after_eq hq] at ha ⊢
  split at ha
  · rename_i hc
    rw [Bool.and_eq_true, Bool.or_eq_true] at hc
    rw [if_pos, ha]
    rw [Bool.and_eq_true, Bool.or_eq_true]
    refine ⟨?_, hc.2.imp id (fun h2 => ?_)⟩
    · cases h1 : told m 82 k with
      | none => rfl
      | some x => rw [ht _ _ _ h1] at hc; exact hc.1
    · cases h1 : told m 80 (k / h.width) with
      | none => rfl
      | some x => rw [ht _ _ _ h1] at h2; exact h2
  · cases ha
theorem reach_mono {h : Head} {m m' : List (List UInt8)} (hs : ∀ nm r, find m nm = some r → find m' nm = some r) : ∀ k n s, (n, s) ∈ reach h m' k → (n, s) ∈ reach h m k
  | 0, _, _, hx => hx
  | k + 1, n, s, hx => by
    obtain ⟨r, q, h1, h2, h3⟩ := mem_reach.1 hx
    exact mem_reach.2 ⟨r, q, reach_mono hs k r q h1, h2, after_mono hs h3⟩
theorem go_mono {h : Head} {m m' : List (List UInt8)} (hs : ∀ nm r, find m nm = some r → find m' nm = some r) : ∀ f k r s, goB h m' f k r s = true → goB h m f k r s = true
  | 0, _, _, _, _ => rfl
  | f + 1, k, r, s, hx => by
    obtain ⟨n, s', h1, h2, h3⟩ := goB_succ.1 hx
    exact goB_succ.2 ⟨n, s', h1, after_mono hs h2, go_mono hs f _ _ _ h3⟩
theorem goes_mono {h : Head} {m m' : List (List UInt8)} (hs : ∀ nm r, find m nm = some r → find m' nm = some r) {k n : Nat} (hn : n ∈ goesAt h m' k) : n ∈ goesAt h m k := by
  obtain ⟨s, h1, h2⟩ := mem_goes.1 hn
  exact mem_goes.2 ⟨s, reach_mono hs _ _ _ h1, go_mono hs _ _ _ _ h2⟩
theorem goes_some {h : Head} {m : List (List UInt8)} (hg : goB h m h.many 0 0 0 = true) : ∀ k, k < h.many → ∃ n, n ∈ goesAt h m k := by
  have key : ∀ k, k ≤ h.many → ∃ r s, (r, s) ∈ reach h m k ∧ goB h m (h.many - k) k r s = true := by
    intro k
    induction k with
    | zero => exact fun _ => ⟨0, 0, by simp [reach], hg⟩
    | succ k ih =>
      intro hk
      obtain ⟨r, s, h1, h2⟩ := ih (by omega)
      rw [show h.many - k = (h.many - (k + 1)) + 1 by omega] at h2
      obtain ⟨n, s', h3, h4, h5⟩ := goB_succ.1 h2
      exact ⟨n, s', mem_reach.2 ⟨r, s, h1, h3, h4⟩, h5⟩
  intro k hk
  obtain ⟨r, s, h1, h2⟩ := key (k + 1) hk
  exact ⟨r, mem_goes.2 ⟨s, h1, h2⟩⟩
end Go.Proofs.YtmdlmmfbcnkanaaR
namespace Go.Proofs.YtmdlmmfbcnkanaaR

theorem recsTo_zero (s : Ser) : ∀ k, (recsTo s k)[0]? = some (hdR s)
  | 0 => rfl
  | k + 1 => by
    have h := recsTo_zero s k
    have hp : 0 < (recsTo s k).length := by
      rcases Nat.eq_zero_or_pos (recsTo s k).length with h0 | h0
      · rw [List.eq_nil_of_length_eq_zero h0] at h
        cases h
      · exact h0
    unfold recsTo
    rw [List.getElem?_append_left (by simp), List.getElem?_append_left hp]
    exact h
/-- What is left of a file. -/
structure TornF (s : Ser) (T : List (List UInt8)) : Prop where
  sub : ∀ r, r ∈ T → r ∈ fileL s
  hd : hdR s ∈ T
  len : T.length ≤ 162
  bytes : (linesL T).length = 8 * T.length
theorem file_len {s : Ser} (n : SerN s) : (fileL s).length ≤ 81 ∧ 0 < (fileL s).length := by
  have h1 := recsTo_len s s.rd.length
  have h2 := n.len
  have h3 := recsTo_zero s s.rd.length
  refine ⟨by unfold fileL; omega, ?_⟩
  rcases Nat.eq_zero_or_pos (fileL s).length with h0 | h0
  · unfold fileL at h0
    rw [List.eq_nil_of_length_eq_zero h0] at h3
    cases h3
  · exact h0
theorem tornF {s : Ser} (n : SerN s) {T : List (List UInt8)} (t : Tn (fileL s) (fileL s).length T) : TornF s T := by
  have h := file_len n
  have hl := t.len
  exact ⟨t.sub, t.hd h.2 _ (recsTo_zero s s.rd.length), by omega, linesL_len (fun r hr => recsTo_seven s _ r (t.sub r hr))⟩
theorem find_app {m : List (List UInt8)} {r : List UInt8} {nm : UInt8 × Nat} {x : List UInt8} (h : find m nm = some x) : find (m ++ [r]) nm = some x := by
  unfold find at h ⊢
  rw [List.find?_append, h]
  rfl
theorem more_read {s : Ser} (n : SerN s) {T : List (List UInt8)} (t : TornF s T) {r : List UInt8} (hr : isGood r = true) (h10 : (10 : UInt8) ∉ r) (h72 : (nameOf r).1 ≠ 72) :
    mendC (linesL T) = 0 ∧ ∃ m, readM (linesL T) = some (hdH s, m) ∧ RdM s m ∧ (∀ x, x ∈ m ↔ x ∈ T) ∧
      ((readC [linesL (T ++ [r])] = 6 ∧ mendC (linesL (T ++ [r])) = 6) ∨
       ∃ m', readC [linesL (T ++ [r])] = 0 ∧ readM (linesL (T ++ [r])) = some (hdH s, m') ∧ (∀ nm x, find m nm = some x → find m' nm = some x) ∧ (m' = m ∧ find m (nameOf r) = some r ∨ m' = m ++ [r] ∧ find m (nameOf r) = none)) := by
  have hl := t.bytes
  have hlen := t.len
  obtain ⟨m, h1, h2, h3, h4, h5⟩ := read_torn n t.sub t.hd (by omega)
  refine ⟨mend_torn n t.sub t.hd (by omega), m, h5, h3, h2, ?_⟩
  have hg := goods_lines (T := T ++ [r]) (fun x hx => by
    rcases List.mem_append.1 hx with hx | hx
    · exact file_ok n (t.sub x hx)
    · simp at hx
      rw [hx]
      exact ⟨hr, h10⟩)
  have hfl : [linesL (T ++ [r])].flatMap goods = T ++ [r] := by simp [hg]
  have h7 : r.length = 7 := good_seven hr
  have h4k : [linesL (T ++ [r])].any (fun l => decide (4000 < l.length)) = false := by
    rw [linesL_app]
    simp [linesL, h7]
    omega
  have hrc : readC [linesL (T ++ [r])] = readE (T ++ [r]) := by
    unfold readC
    rw [h4k, hfl]
    rfl
  have ht : takeUp [] (T ++ [r]) = takeUp m [r] := by rw [takeUp_append, h1]; rfl
  have hmend : ∀ c, readC [linesL (T ++ [r])] = c → c ≠ 0 → mendC (linesL (T ++ [r])) = c := by
    intro c hc h0
    unfold mendC readM
    rw [hc, if_neg h0]
  cases hf : find m (nameOf r) with
  | some old =>
    by_cases ho : old = r
    · subst ho
      have ht' : takeUp [] (T ++ [old]) = some m := by rw [ht]; simp [takeUp, hf]
      have hc0 : readC [linesL (T ++ [old])] = 0 := by
        rw [hrc]
        simp only [readE, ht', h3.find n, (hdR_ok n).2.2.1, h3.out n]
        rfl
      refine .inr ⟨m, hc0, ?_, fun _ _ h => h, .inl ⟨rfl, rfl⟩⟩
      simp only [readM, hc0, hg, ht']
      simp [h3.find n, (hdR_ok n).2.2.1]
    · have ht' : takeUp [] (T ++ [r]) = none := by rw [ht]; simp [takeUp, hf, ho]
      have hc : readC [linesL (T ++ [r])] = 6 := by
        rw [hrc]
        simp only [readE, ht']
      exact .inl ⟨hc, hmend 6 hc (by decide)⟩
  | none =>
    have ht' : takeUp [] (T ++ [r]) = some (m ++ [r]) := by rw [ht]; simp [takeUp, hf]
    have hfh : find (m ++ [r]) (72, 0) = some (hdR s) := find_app (h3.find n)
    by_cases hout : outOf (hdH s) r = true
    · have hc : readC [linesL (T ++ [r])] = 6 := by
        rw [hrc]
        simp only [readE, ht', hfh, (hdR_ok n).2.2.1]
        rw [if_pos (by simp [hout])]
      exact .inl ⟨hc, hmend 6 hc (by decide)⟩
    · have hc : readC [linesL (T ++ [r])] = 0 := by
        rw [hrc]
        simp only [readE, ht', hfh, (hdR_ok n).2.2.1]
        rw [if_neg (by simp [h3.out n, hout])]
      refine .inr ⟨m ++ [r], hc, ?_, fun nm x h => find_app h, .inr ⟨rfl, rfl⟩⟩
      simp only [readM, hc, hg, ht']
      simp [hfh, (hdR_ok n).2.2.1]
theorem made_R {a b : Nat} (ha : a ≤ 99) (hb : b ≤ 99) : isGood (made 82 a b) = true ∧ (10 : UInt8) ∉ made 82 a b ∧ (nameOf (made 82 a b)).1 ≠ 72 :=
  ⟨made_good (.inr (.inl rfl)) ha hb (fun e => by cases e), made_no10 (by decide) ha hb, by rw [made_name ha]; simp⟩
end Go.Proofs.YtmdlmmfbcnkanaaR
namespace Go.Proofs.YtmdlmmfbcnkanaaR

theorem told_after {h : Head} {m : List (List UInt8)} {k s n s' x : Nat} (ha : after h m k s n = some s') (ht : told m 82 k = some x) : n = x := by
  obtain ⟨q, hq⟩ : ∃ q, q = if k % h.width = 0 then n else (s + n) % 100 := ⟨_, rfl⟩
  rw [after_eq hq] at ha
  split at ha
  · rename_i hc
    rw [Bool.and_eq_true] at hc
    rw [ht] at hc
    have := hc.1
    simp at this
    exact this.symm
  · cases ha
theorem goes_told {h : Head} {m : List (List UInt8)} {k n x : Nat} (hn : n ∈ goesAt h m k) (ht : told m 82 k = some x) : n = x := by
  obtain ⟨s', h1, _⟩ := mem_goes.1 hn
  obtain ⟨r, s, _, _, h4⟩ := mem_reach.1 h1
  exact told_after h4 ht
/-- Two lots of records that say the same but for a reading. -/
structure SameBut (h : Head) (m m' : List (List UInt8)) (k n : Nat) : Prop where
  other : ∀ j s x, j ≠ k → after h m' j s x = after h m j s x
  at_ : ∀ s, after h m' k s n = after h m k s n
theorem SameBut.reach {h : Head} {m m' : List (List UInt8)} {k n : Nat} (b : SameBut h m m' k n) : ∀ j, j ≤ k → ∀ x s, (x, s) ∈ reach h m j → (x, s) ∈ reach h m' j
  | 0, _, _, _, hx => hx
  | j + 1, hj, x, s, hx => by
    obtain ⟨r, q, h1, h2, h3⟩ := mem_reach.1 hx
    exact mem_reach.2 ⟨r, q, SameBut.reach b j (by omega) r q h1, h2, by rw [b.other j q x (by omega)]; exact h3⟩
theorem SameBut.go {h : Head} {m m' : List (List UInt8)} {k n : Nat} (b : SameBut h m m' k n) : ∀ f j r s, k < j → goB h m f j r s = true → goB h m' f j r s = true
  | 0, _, _, _, _, _ => rfl
  | f + 1, j, r, s, hj, hx => by
    obtain ⟨x, s', h1, h2, h3⟩ := goB_succ.1 hx
    exact goB_succ.2 ⟨x, s', h1, by rw [b.other j s x (by omega)]; exact h2, SameBut.go b f _ _ _ (by omega) h3⟩
theorem SameBut.goes {h : Head} {m m' : List (List UInt8)} {k n : Nat} (b : SameBut h m m' k n) (hn : n ∈ goesAt h m k) : n ∈ goesAt h m' k := by
  obtain ⟨s', h1, h2⟩ := mem_goes.1 hn
  obtain ⟨r, q, h3, h4, h5⟩ := mem_reach.1 h1
  exact mem_goes.2 ⟨s', mem_reach.2 ⟨r, q, b.reach k (Nat.le_refl _) r q h3, h4, by rw [b.at_ q]; exact h5⟩, b.go _ _ _ _ (by omega) h2⟩
/-- What can be come to, and goes on, goes from the start. -/
theorem go_start {h : Head} {m : List (List UInt8)} : ∀ k x s, k ≤ h.many → (x, s) ∈ reach h m k → goB h m (h.many - k) k x s = true → goB h m h.many 0 0 0 = true
  | 0, x, s, _, hx, hg => by
    simp only [reach, List.mem_singleton, Prod.mk.injEq] at hx
    obtain ⟨rfl, rfl⟩ := hx
    exact hg
  | k + 1, x, s, hk, hx, hg => by
    obtain ⟨r, q, h1, h2, h3⟩ := mem_reach.1 hx
    refine go_start k r q (by omega) h1 ?_
    rw [show h.many - k = (h.many - (k + 1)) + 1 by omega]
    exact goB_succ.2 ⟨x, s, h2, h3, hg⟩
theorem goes_start {h : Head} {m : List (List UInt8)} {k n : Nat} (hk : k < h.many) (hn : n ∈ goesAt h m k) : goB h m h.many 0 0 0 = true := by
  obtain ⟨s', h1, h2⟩ := mem_goes.1 hn
  exact go_start (k + 1) n s' (by omega) h1 h2
/-- A range of one number. -/
theorem lohi_one {h : Head} {m : List (List UInt8)} {k n : Nat} (hn : n ∈ goesAt h m k) (hu : ∀ x, x ∈ goesAt h m k → x = n) : loAt h m k = n ∧ hiAt h m k = n := by
  obtain ⟨_, h2⟩ := rg_goes h m k
  rcases h2 with ⟨_, _, h5⟩ | ⟨a, b, ha, hb, e1, e2⟩
  · exact (h5 n hn).elim
  · rw [e1, e2, hu a ha, hu b hb]
    exact ⟨rfl, rfl⟩
theorem lo_goes {h : Head} {m : List (List UInt8)} {k : Nat} (hne : ∃ n, n ∈ goesAt h m k) : ∃ a b : Nat, a ∈ goesAt h m k ∧ b ∈ goesAt h m k ∧ loAt h m k = a ∧ hiAt h m k = b ∧ ∀ x, x ∈ goesAt h m k → a ≤ x ∧ x ≤ b := by
  obtain ⟨h1, h2⟩ := rg_goes h m k
  rcases h2 with ⟨_, _, h5⟩ | ⟨a, b, ha, hb, e1, e2⟩
  · obtain ⟨n, hn⟩ := hne
    exact (h5 n hn).elim
  · refine ⟨a, b, ha, hb, e1, e2, fun x hx => ?_⟩
    have := h1 x hx
    omega
theorem told_new {m : List (List UInt8)} {k n : Nat} (hk : k ≤ 99) (hn : n ≤ 99) (hf : find m (82, k) = none) : told (m ++ [made 82 k n]) 82 k = some n ∧ (∀ j, j ≠ k → told (m ++ [made 82 k n]) 82 j = told m 82 j) ∧ ∀ j, told (m ++ [made 82 k n]) 80 j = told m 80 j := by
  have hnm : nameOf (made 82 k n) = (82, k) := by rw [made_name hk]; simp
  have hfo : ∀ nm, nm ≠ (82, k) → find (m ++ [made 82 k n]) nm = find m nm := by
    intro nm hne
    unfold find
    rw [List.find?_append]
    have : ([made 82 k n].find? (fun r => nameOf r == nm)) = none := by
      simp [hnm, Ne.symm hne]
    rw [this]
    cases List.find? (fun r => nameOf r == nm) m <;> rfl
  refine ⟨?_, fun j hj => ?_, fun j => ?_⟩
  · unfold told find
    unfold find at hf
    rw [List.find?_append, hf]
    simp [hnm, made_val hn]
  · unfold told
    rw [hfo (82, j) (by simp [hj])]
  · unfold told
    rw [hfo (80, j) (by simp)]
theorem ends_read {s : Ser} (n : SerN s) {T : List (List UInt8)} (t : TornF s T) {k x : Nat} (hk : k < s.rd.length) (hx : x ≤ 99) :
    mendC (linesL T) = 0 ∧ ∃ m, readM (linesL T) = some (hdH s, m) ∧ (∃ y, y ∈ goesAt (hdH s) m k) ∧
      (x ∈ goesAt (hdH s) m k → mendC (linesL (T ++ [made 82 k x])) = 0 ∧ ∃ m', readM (linesL (T ++ [made 82 k x])) = some (hdH s, m') ∧ loAt (hdH s) m' k = x ∧ hiAt (hdH s) m' k = x) ∧
      (x ∉ goesAt (hdH s) m k → mendC (linesL (T ++ [made 82 k x])) = 6 ∨ mendC (linesL (T ++ [made 82 k x])) = 9) := by
  have hl := n.len
  have hmd := made_R (a := k) (b := x) (by omega) hx
  have hnm : nameOf (made 82 k x) = (82, k) := by rw [made_name (by omega)]; simp
  obtain ⟨h0, m, h1, h2, _, h3⟩ := more_read n t hmd.1 hmd.2.1 hmd.2.2
  rw [hnm] at h3
  refine ⟨h0, m, h1, ⟨_, goes_ser n h2 hk⟩, fun hg => ?_, fun hg => ?_⟩
  · -- the reading can be
    have key : ∃ m', readC [linesL (T ++ [made 82 k x])] = 0 ∧ readM (linesL (T ++ [made 82 k x])) = some (hdH s, m') ∧ SameBut (hdH s) m m' k x ∧ told m' 82 k = some x := by
      rcases h3 with ⟨h4, _⟩ | ⟨m', h4, h5, _, ⟨rfl, h6⟩ | ⟨rfl, h6⟩⟩
      · exfalso
        -- it cannot contradict
        have hT := t.sub
        obtain ⟨m1, g1, g2, g3, g4, g5⟩ := read_torn n t.sub t.hd (by have := t.bytes; have := t.len; omega)
        rw [g5] at h1
        cases h1
        have hgl := goods_lines (T := T ++ [made 82 k x]) (fun r hr => by
          rcases List.mem_append.1 hr with hr | hr
          · exact file_ok n (t.sub r hr)
          · simp at hr
            rw [hr]
            exact ⟨hmd.1, hmd.2.1⟩)
        have hfl : [linesL (T ++ [made 82 k x])].flatMap goods = T ++ [made 82 k x] := by simp [hgl]
        have h4k : [linesL (T ++ [made 82 k x])].any (fun l => decide (4000 < l.length)) = false := by
          have hb := t.bytes
          have hlt := t.len
          rw [linesL_app]
          simp [linesL, made]
          omega
        have hrc : readC [linesL (T ++ [made 82 k x])] = readE (T ++ [made 82 k x]) := by
          unfold readC
          rw [h4k, hfl]
          rfl
        have ht : takeUp [] (T ++ [made 82 k x]) = takeUp m [made 82 k x] := by rw [takeUp_append, g1]; rfl
        rw [hrc] at h4
        cases hf : find m (82, k) with
        | some old =>
          have hold : old = made 82 k x := by
            have ho := find_mem hf
            have htold : told m 82 k = some (valOf old) := by unfold told; rw [hf]; rfl
            have h7 := goes_told hg htold
            rcases mem_recsTo.1 (h2.sub old ho.1) with rfl | ⟨i, h8, rfl⟩ | ⟨i, h8, _, rfl⟩
            · rw [(hdR_ok n).2.1] at ho
              cases ho.2
            · rw [(recR_ok n h8).2.1] at ho
              have hik : i = k := by simpa using ho.2
              subst hik
              rw [h7, (recR_ok n h8).2.2.1]
            · rw [(recP_ok n (div_le40 n h8)).2.1] at ho
              cases ho.2
          rw [hold] at hf
          have ht' : takeUp [] (T ++ [made 82 k x]) = some m := by rw [ht]; simp [takeUp, hnm, hf]
          simp only [readE, ht', h2.find n, (hdR_ok n).2.2.1, h2.out n] at h4
          cases h4
        | none =>
          have ht' : takeUp [] (T ++ [made 82 k x]) = some (m ++ [made 82 k x]) := by rw [ht]; simp [takeUp, hnm, hf]
          have hout : outOf (hdH s) (made 82 k x) = false := by simp [outOf, hnm, hdH, hk]
          simp only [readE, ht', find_app (h2.find n), (hdR_ok n).2.2.1] at h4
          rw [if_neg (by simp [h2.out n, hout])] at h4
          cases h4
      · refine ⟨_, h4, h5, ⟨fun _ _ _ _ => rfl, fun _ => rfl⟩, ?_⟩
        unfold told
        rw [h6]
        simp [made_val hx]
      · obtain ⟨t1, t2, t3⟩ := told_new (n := x) (show k ≤ 99 by omega) hx h6
        refine ⟨_, h4, h5, ⟨fun j q y hj => ?_, fun q => ?_⟩, t1⟩
        · rw [after_eq (s' := if j % (hdH s).width = 0 then y else (q + y) % 100) rfl, after_eq (s' := if j % (hdH s).width = 0 then y else (q + y) % 100) rfl, t2 j hj, t3]
        · have htm : told m 82 k = none := by unfold told; rw [h6]; rfl
          rw [after_eq (s' := if k % (hdH s).width = 0 then x else (q + x) % 100) rfl, after_eq (s' := if k % (hdH s).width = 0 then x else (q + x) % 100) rfl, t1, t3, htm]
          simp
    obtain ⟨m', h4, h5, hsb, ht⟩ := key
    have hg' := hsb.goes hg
    have hst := goes_start (show k < (hdH s).many from hk) hg'
    refine ⟨?_, m', h5, lohi_one hg' (fun y hy => goes_told hy ht)⟩
    unfold mendC
    rw [h5]
    simp only [hst]
    rfl
  · rcases h3 with ⟨_, h5⟩ | ⟨m', h4, h5, h6, h7⟩
    · exact .inl h5
    · right
      have ht : told m' 82 k = some x := by
        rcases h7 with ⟨rfl, h7⟩ | ⟨rfl, h7⟩
        · unfold told
          rw [h7]
          simp [made_val hx]
        · exact (told_new (show k ≤ 99 by omega) hx h7).1
      unfold mendC
      rw [h5]
      by_cases hgo : goB (hdH s) m' (hdH s).many 0 0 0 = true
      · exfalso
        obtain ⟨y, hy⟩ := goes_some hgo k hk
        have := goes_told hy ht
        subst this
        exact hg (goes_mono h6 hy)
      · simp only [hgo]
        rfl
end Go.Proofs.YtmdlmmfbcnkanaaR
namespace Go.Proofs.YtmdlmmfbcnkanaaR
open Go.RowKit Go.Shelf
noncomputable def opsRy0 : Array Oper := (Try.f23.body.bind (regionOf 0)).getD #[]
noncomputable def opsRy1 : Array Oper := (Try.f23.body.bind (regionOf 1)).getD #[]
noncomputable def code23 : Code := (.seq (.region 0 opsRy0 false) (.seq (.region 1 opsRy1 false) .ret))
theorem body23 : Try.f23.body = some code23 := by kernel_rfl
/-- May a law play a series? -/
def readyB (s : Ser) : Bool := decide (s.rd.length ≤ 45) && decide (faultS s = 0)
theorem ready_any (s : Ser) (A : Option Addr) (c : Nat) (W : World) (hs : IntsAt W W.heap.size A s.rd) : Calls Try.prog 23 #[serV s A c] W (EvP W (.bool (readyB s))) := by
  refine (callsIn_wide (n := 5)).1 (callsIn_of_wp Try.func23 body23 trivial ?_ rfl)
  obtain ⟨a, ha⟩ : ∃ a : Act, a = { tmps := #[serV s A c] ++ Array.replicate (Try.f23.ntmps - (#[serV s A c] : Array Value).size) undef, defers := [] } := ⟨_, rfl⟩
  have hsz : a.tmps.size = 10 := by rw [ha]; simp [Try.ntmps23]
  have t0 : a.eval (.tmp 0) = serV s A c := by rw [ha]; simp [Act.eval]
  have hd_a : a.defers = [] := by rw [ha]
  rw [← ha]
  clear ha
  unfold code23
  refine wpIn_seq (region_p 2 ?_)
  intro K hK
  refine ListK.box (i := 0) (u := serV s A c) rfl (by simp [t0]) (bx24 W _ _ _ _ _) ?_
  refine ListK.assign (i := 1) (v := .bool false) rfl (by simp) ?_
  refine ListK.done (hK _ _ ?_)
  clear hK K
  replace hs : IntsAt (W.alloc (.cells #[.int .i64 s.width, .int .i64 s.step, .slice A s.rd.length c] 24)) W.heap.size A s.rd := hs.below ((Below.refl W.heap.size W).alloc (Nat.le_refl _) _) (Nat.le_refl _)
  have w1 := Whole.new W 24 #[.int .i64 s.width, .int .i64 s.step, .slice A s.rd.length c]
  have hb_b1 : Below W.heap.size W (W.alloc (.cells #[.int .i64 s.width, .int .i64 s.step, .slice A s.rd.length c] 24)) := (Below.refl _ W).alloc (Nat.le_refl _) _
  have hB := hb_b1
  generalize hq_b1 : W.heap.size = b1 at *
  generalize W.alloc (.cells #[.int .i64 s.width, .int .i64 s.step, .slice A s.rd.length c] 24) = W1 at *
  have hsz1 := hB.size
  replace hs := hs.more (show b1 ≤ W1.heap.size by omega)
  generalize hA : Act.put _ _ _ = a1
  have hz_a1 : a1.tmps.size = 10 := by rw [← hA]; simp only [size_put, hsz]
  have u1 : a1.eval (.tmp 1) = .pointer (some ⟨b1, 0, none⟩) := by rw [← hA]; exact (by simp [hsz])
  have hd_a1 : a1.defers = [] := by rw [← hA]; simp only [defers_put, hd_a]
  clear hA
  have hsh := short_any s A c W1
  by_cases h45 : s.rd.length ≤ 45
  · have hd : decide ((s.rd.length : Int) ≤ 45) = true := by simp; omega
    rw [hd] at hsh
    have hfa := fun (W2 : World) (hb : Below W1.heap.size W1 W2) => fault_any s A c W2 (by omega) ((hs.below hb (Nat.le_refl _)).more hb.size)
    have hwb := fun (W2 : World) (hb : Below W1.heap.size W1 W2) => w1.below hb w1.lt
    by_cases hf : faultS s = 0
    · skip
      refine wpIn_seq (region_p 8 ?_)
      intro K hK
      refine ListK.load (i := 0) (p := ⟨b1, 0, none⟩) (v := serV s A c) rfl (by simp [u1]) (ld24 ⟨w1.cell 0, w1.cell 1, w1.cell 2⟩) ?_
      refine ListK.call (i := 1) (vs := #[serV s A c]) rfl (enters_of Try.func15 (by kernel_rfl) rfl) (by simp [hz_a1]) ((hsh).mono ?_)
      rintro _ W2 ⟨rfl, hb2⟩
      replace w1 := hwb W2 hb2
      refine ⟨_, rfl, ?_⟩
      refine ListK.move (i := 2) (v := .bool true) rfl (by simp [hz_a1]) ?_
      refine ListK.load (i := 3) (p := ⟨b1, 0, none⟩) (v := serV s A c) rfl (by simp [u1]) (ld24 ⟨w1.cell 0, w1.cell 1, w1.cell 2⟩) ?_ (hw := wanted_g (e := 5) (b' := true) rfl (by simp [hz_a1]) rfl)
      refine ListK.call (i := 4) (vs := #[serV s A c]) rfl (enters_of Try.func20 (by kernel_rfl) rfl) (by simp [hz_a1]) ((hfa W2 hb2).mono ?_) (hw := wanted_g (e := 5) (b' := true) rfl (by simp [hz_a1]) rfl)
      rintro _ W3 ⟨rfl, hb3⟩
      refine ⟨_, rfl, ?_⟩
      refine ListK.bin (i := 5) (u := .int .i64 (faultS s)) (u' := .int .i64 0) (v := .bool true) rfl (by simp [hz_a1]) (by simp) (eql27T hf _) ?_ (hw := wanted_g (e := 5) (b' := true) rfl (by simp [hz_a1]) rfl)
      refine ListK.pick (i := 6) (b := true) (v := .bool true) rfl (by simp [hz_a1]) (by simp [hz_a1]) ?_
      refine ListK.assign (i := 7) (v := .bool true) rfl (by simp [hz_a1]) ?_
      refine ListK.done (hK _ _ (wpIn_ret ?_))
      refine bodyPost_ret (v := .bool true) (res1 Try.results23 (by simp [hz_a1])) (by simp only [defers_put, hd_a1]) ⟨by simp [readyB, h45, hf], ?_⟩
      rw [hq_b1]
      exact hB.trans ((hb2.trans (hb3.mono hb2.size)).mono (by omega))
    · skip
      refine wpIn_seq (region_p 8 ?_)
      intro K hK
      refine ListK.load (i := 0) (p := ⟨b1, 0, none⟩) (v := serV s A c) rfl (by simp [u1]) (ld24 ⟨w1.cell 0, w1.cell 1, w1.cell 2⟩) ?_
      refine ListK.call (i := 1) (vs := #[serV s A c]) rfl (enters_of Try.func15 (by kernel_rfl) rfl) (by simp [hz_a1]) ((hsh).mono ?_)
      rintro _ W2 ⟨rfl, hb2⟩
      replace w1 := hwb W2 hb2
      refine ⟨_, rfl, ?_⟩
      refine ListK.move (i := 2) (v := .bool true) rfl (by simp [hz_a1]) ?_
      refine ListK.load (i := 3) (p := ⟨b1, 0, none⟩) (v := serV s A c) rfl (by simp [u1]) (ld24 ⟨w1.cell 0, w1.cell 1, w1.cell 2⟩) ?_ (hw := wanted_g (e := 5) (b' := true) rfl (by simp [hz_a1]) rfl)
      refine ListK.call (i := 4) (vs := #[serV s A c]) rfl (enters_of Try.func20 (by kernel_rfl) rfl) (by simp [hz_a1]) ((hfa W2 hb2).mono ?_) (hw := wanted_g (e := 5) (b' := true) rfl (by simp [hz_a1]) rfl)
      rintro _ W3 ⟨rfl, hb3⟩
      refine ⟨_, rfl, ?_⟩
      refine ListK.bin (i := 5) (u := .int .i64 (faultS s)) (u' := .int .i64 0) (v := .bool false) rfl (by simp [hz_a1]) (by simp) (eql27F hf _) ?_ (hw := wanted_g (e := 5) (b' := true) rfl (by simp [hz_a1]) rfl)
      refine ListK.pick (i := 6) (b := true) (v := .bool false) rfl (by simp [hz_a1]) (by simp [hz_a1]) ?_
      refine ListK.assign (i := 7) (v := .bool false) rfl (by simp [hz_a1]) ?_
      refine ListK.done (hK _ _ (wpIn_ret ?_))
      refine bodyPost_ret (v := .bool false) (res1 Try.results23 (by simp [hz_a1])) (by simp only [defers_put, hd_a1]) ⟨by simp [readyB, hf], ?_⟩
      rw [hq_b1]
      exact hB.trans ((hb2.trans (hb3.mono hb2.size)).mono (by omega))
  · have hd : decide ((s.rd.length : Int) ≤ 45) = false := by simp; omega
    rw [hd] at hsh
    refine wpIn_seq (region_p 8 ?_)
    intro K hK
    refine ListK.load (i := 0) (p := ⟨b1, 0, none⟩) (v := serV s A c) rfl (by simp [u1]) (ld24 ⟨w1.cell 0, w1.cell 1, w1.cell 2⟩) ?_
    refine ListK.call (i := 1) (vs := #[serV s A c]) rfl (enters_of Try.func15 (by kernel_rfl) rfl) (by simp [hz_a1]) ((hsh).mono ?_)
    rintro _ W2 ⟨rfl, hb2⟩
    refine ⟨_, rfl, ?_⟩
    refine ListK.move (i := 2) (v := .bool false) rfl (by simp [hz_a1]) ?_
    refine ListK.passG (i := 3) (e := 5) (b' := false) rfl rfl (by simp [hz_a1]) rfl ?_
    refine ListK.passG (i := 4) (e := 5) (b' := false) rfl rfl (by simp [hz_a1]) rfl ?_
    refine ListK.passG (i := 5) (e := 5) (b' := false) rfl rfl (by simp [hz_a1]) rfl ?_
    refine ListK.pick (i := 6) (b := false) (v := .bool false) rfl (by simp [hz_a1]) (by simp) ?_
    refine ListK.assign (i := 7) (v := .bool false) rfl (by simp [hz_a1]) ?_
    refine ListK.done (hK _ _ (wpIn_ret ?_))
    refine bodyPost_ret (v := .bool false) (res1 Try.results23 (by simp [hz_a1])) (by simp only [defers_put, hd_a1]) ⟨by simp [readyB, h45], ?_⟩
    rw [hq_b1]
    exact hB.trans (hb2.mono (by omega))
section
attribute [local irreducible] AnyK StepK
variable {s : Ser} {T : List (List UInt8)} {r : List UInt8} {W : World}
end
end Go.Proofs.YtmdlmmfbcnkanaaR
namespace Go.Proofs.YtmdlmmfbcnkanaaR
open Go.RowKit Go.Shelf
theorem bs22_4 (x0 x1 x2 x3 : Int) (w : World) : (Instr.buildSlice 22 4 #[(0, .int .i64 x0), (1, .int .i64 x1), (2, .int .i64 x2), (3, .int .i64 x3)]).run Try.prog w = .ok (.slice (some ⟨w.heap.size, 0, none⟩) 4 4) (w.alloc (.cells #[.int .i64 x0, .int .i64 x1, .int .i64 x2, .int .i64 x3] 3)) := by go_simp
theorem neq45F {x y : Operand} (p q : Int) (w : World) : (do eqGuard .neq 45 x y (.agg #[.int .i64 p, .int .i64 q]) (.agg #[.int .i64 p, .int .i64 q]); binOp .neq 45 (.agg #[.int .i64 p, .int .i64 q]) (.agg #[.int .i64 p, .int .i64 q]) : Sem Value).run Try.prog w = .ok (.bool false) w := by go_simp
theorem geq3T {x y : Operand} {m n : Int} (h : n ≤ m) (w : World) : (do eqGuard .geq 3 x y (.int .i64 m) (.int .i64 n); binOp .geq 3 (.int .i64 m) (.int .i64 n) : Sem Value).run Try.prog w = .ok (.bool true) w := by
  rw [geq3, decide_eq_true h]
theorem geq3F {x y : Operand} {m n : Int} (h : ¬n ≤ m) (w : World) : (do eqGuard .geq 3 x y (.int .i64 m) (.int .i64 n); binOp .geq 3 (.int .i64 m) (.int .i64 n) : Sem Value).run Try.prog w = .ok (.bool false) w := by
  rw [geq3, decide_eq_false h]
/-- The four numbers at the ends of a range. -/
def nI (a b : Int) (i : Nat) : Int := if i = 0 then a else if i = 1 then b else if i = 2 then a - 1 else b + 1
theorem nI_cell {w : World} {g : Nat} {a b : Int} (h : Whole w g 3 #[.int .i64 a, .int .i64 b, .int .i64 (a - 1), .int .i64 (b + 1)]) {i : Nat} (hi : i < 4) : w.cell? ⟨g, i, none⟩ = some (.int .i64 (nI a b i)) := by
  match i, hi with
  | 0, _ => exact h.cell 0
  | 1, _ => exact h.cell 1
  | 2, _ => exact h.cell 2
  | 3, _ => exact h.cell 3
noncomputable def opsFe0 : Array Oper := (Try.f4.body.bind (regionOf 0)).getD #[]
noncomputable def opsFe1 : Array Oper := (Try.f4.body.bind (regionOf 1)).getD #[]
noncomputable def opsFe2 : Array Oper := (Try.f4.body.bind (regionOf 2)).getD #[]
noncomputable def opsFe3 : Array Oper := (Try.f4.body.bind (regionOf 3)).getD #[]
noncomputable def opsFe4 : Array Oper := (Try.f4.body.bind (regionOf 4)).getD #[]
noncomputable def opsFe5 : Array Oper := (Try.f4.body.bind (regionOf 5)).getD #[]
noncomputable def opsFe6 : Array Oper := (Try.f4.body.bind (regionOf 6)).getD #[]
noncomputable def opsFe7 : Array Oper := (Try.f4.body.bind (regionOf 7)).getD #[]
noncomputable def opsFe8 : Array Oper := (Try.f4.body.bind (regionOf 8)).getD #[]
noncomputable def opsFe9 : Array Oper := (Try.f4.body.bind (regionOf 9)).getD #[]
noncomputable def opsFe10 : Array Oper := (Try.f4.body.bind (regionOf 10)).getD #[]
noncomputable def opsFe11 : Array Oper := (Try.f4.body.bind (regionOf 11)).getD #[]
noncomputable def opsFe12 : Array Oper := (Try.f4.body.bind (regionOf 12)).getD #[]
noncomputable def opsFe13 : Array Oper := (Try.f4.body.bind (regionOf 13)).getD #[]
noncomputable def opsFe14 : Array Oper := (Try.f4.body.bind (regionOf 14)).getD #[]
noncomputable def opsFe15 : Array Oper := (Try.f4.body.bind (regionOf 15)).getD #[]
noncomputable def opsFe16 : Array Oper := (Try.f4.body.bind (regionOf 16)).getD #[]
noncomputable def fe_n : Code := (.seq (.seq (.region 12 opsFe12 false) (.cond (.tmp 83) (.exit 1) .skip)) (.seq (.region 13 opsFe13 false) (.seq (.region 14 opsFe14 true) (.cond (.tmp 130) (.seq (.region 15 opsFe15 false) .ret) .skip))))
noncomputable def fe_l : Code := (.seq (.seq (.region 9 opsFe9 false) (.cond (.tmp 49) .skip (.exit 0))) (.seq (.block 1 (.seq (.region 11 opsFe11 true) fe_n)) (.region 10 opsFe10 false)))
noncomputable def fe_e : Code := (.seq (.region 16 opsFe16 false) .ret)
noncomputable def fe_b : Code := (.seq (.seq (.region 5 opsFe5 false) (.cond (.tmp 42) (.seq (.region 6 opsFe6 false) .ret) .skip)) (.seq (.region 7 opsFe7 false) (.seq (.seq (.region 8 opsFe8 false) (.block 0 (.loop fe_l))) fe_e)))
noncomputable def code4 : Code := (.seq (.region 0 opsFe0 false) (.seq (.seq (.region 1 opsFe1 false) (.cond (.tmp 19) (.seq (.region 2 opsFe2 false) .ret) .skip)) (.seq (.region 3 opsFe3 false) (.seq (.region 4 opsFe4 false) fe_b))))
theorem body4 : Try.f4.body = some code4 := by kernel_rfl
section
attribute [local irreducible] AnyK StepK
variable {s : Ser} {T : List (List UInt8)} {W : World}
set_option maxHeartbeats 400000 in
theorem fe_n_any {g1 k i : Nat} {x : Int} {a : Act} {W9 : World} {Q : Exit → Act → World → Prop} (n : SerN s) (t : TornF s T) {m : List (List UInt8)} (hrm : readM (linesL T) = some (hdH s, m)) (hk : k < s.rd.length) (hi : i < 4)
    {lo hi_ : Nat} (hlo : lo ∈ goesAt (hdH s) m k) (hhi : hi_ ∈ goesAt (hdH s) m k) (hall : ∀ y, y ∈ goesAt (hdH s) m k → lo ≤ y ∧ y ≤ hi_) (hx : x = nI lo hi_ i)
    (hz : a.tmps.size = 132) (hd_a : a.defers = []) (t9 : a.eval (.tmp 9) = strV (linesL T)) (t10 : a.eval (.tmp 10) = .slice (some ⟨g1, 0, none⟩) (hdH s).many (hdH s).many) (t12 : a.eval (.tmp 12) = .int .i64 (k : Int)) (t13 : a.eval (.tmp 13) = .int .i64 (i : Int)) (t14 : a.eval (.tmp 14) = .int .i64 x)
    (hN : ∀ a' W', a'.tmps.size = 132 → a'.defers = [] → a'.eval (.tmp 9) = strV (linesL T) → a'.eval (.tmp 10) = .slice (some ⟨g1, 0, none⟩) (hdH s).many (hdH s).many → a'.eval (.tmp 12) = .int .i64 (k : Int) → a'.eval (.tmp 13) = .int .i64 (i : Int) → Below W9.heap.size W9 W' → Q .normal a' W')
    (hX : ∀ a', a'.tmps.size = 132 → a'.defers = [] → a'.eval (.tmp 9) = strV (linesL T) → a'.eval (.tmp 10) = .slice (some ⟨g1, 0, none⟩) (hdH s).many (hdH s).many → a'.eval (.tmp 12) = .int .i64 (k : Int) → a'.eval (.tmp 13) = .int .i64 (i : Int) → Q (.exit 1) a' W9) :
    fe_n.wpIn Fence.wide 5 Try.prog Q a W9 := by
  have hlen := n.len
  have htl := t.len
  have htb := t.bytes
  unfold fe_n
  by_cases hneg : x < 0
  · skip
    refine wpIn_seq (wpIn_seq (region_p 6 ?_))
    intro K hK
    refine ListK.move (i := 0) (v := .int .i64 x) rfl (by simp [t14]) ?_
    refine ListK.bin (i := 1) (u := .int .i64 x) (u' := .int .i64 0) (v := .bool true) rfl (by simp [hz]) (by simp) (lssT3 hneg _) ?_
    refine ListK.move (i := 2) (v := .bool true) rfl (by simp [hz]) ?_
    refine ListK.passG (i := 3) (e := 80) (b' := true) rfl rfl (by simp [hz]) rfl ?_
    refine ListK.passG (i := 4) (e := 80) (b' := true) rfl rfl (by simp [hz]) rfl ?_
    refine ListK.pick (i := 5) (b := true) (v := .bool true) rfl (by simp [hz]) (by simp) ?_
    refine ListK.done (hK _ _ ?_)
    clear hK K
    refine wpIn_cond (t := true) (by simp [hz]) (wpIn_exit ?_)
    exact hX _ (by simp only [size_put, hz]) (by simp only [defers_put, hd_a]) (by simp [t9]) (by simp [t10]) (by simp [t12]) (by simp [t13])
  by_cases hbig : 99 < x
  · skip
    refine wpIn_seq (wpIn_seq (region_p 6 ?_))
    intro K hK
    refine ListK.move (i := 0) (v := .int .i64 x) rfl (by simp [t14]) ?_
    refine ListK.bin (i := 1) (u := .int .i64 x) (u' := .int .i64 0) (v := .bool false) rfl (by simp [hz]) (by simp) (lssF3 hneg _) ?_
    refine ListK.move (i := 2) (v := .bool false) rfl (by simp [hz]) ?_
    refine ListK.move (i := 3) (v := .int .i64 x) rfl (by simp [t14]) ?_ (hw := wanted_g (e := 80) (b' := false) rfl (by simp [hz]) rfl)
    refine ListK.bin (i := 4) (u := .int .i64 x) (u' := .int .i64 99) (v := .bool true) rfl (by simp [hz]) (by simp) (gtr3T hbig _) ?_ (hw := wanted_g (e := 80) (b' := false) rfl (by simp [hz]) rfl)
    refine ListK.pick (i := 5) (b := false) (v := .bool true) rfl (by simp [hz]) (by simp [hz]) ?_
    refine ListK.done (hK _ _ ?_)
    clear hK K
    refine wpIn_cond (t := true) (by simp [hz]) (wpIn_exit ?_)
    exact hX _ (by simp only [size_put, hz]) (by simp only [defers_put, hd_a]) (by simp [t9]) (by simp [t10]) (by simp [t12]) (by simp [t13])
  refine wpIn_seq (wpIn_seq (region_p 6 ?_))
  intro K hK
  refine ListK.move (i := 0) (v := .int .i64 x) rfl (by simp [t14]) ?_
  refine ListK.bin (i := 1) (u := .int .i64 x) (u' := .int .i64 0) (v := .bool false) rfl (by simp [hz]) (by simp) (lssF3 hneg _) ?_
  refine ListK.move (i := 2) (v := .bool false) rfl (by simp [hz]) ?_
  refine ListK.move (i := 3) (v := .int .i64 x) rfl (by simp [t14]) ?_ (hw := wanted_g (e := 80) (b' := false) rfl (by simp [hz]) rfl)
  refine ListK.bin (i := 4) (u := .int .i64 x) (u' := .int .i64 99) (v := .bool false) rfl (by simp [hz]) (by simp) (gtr3F hbig _) ?_ (hw := wanted_g (e := 80) (b' := false) rfl (by simp [hz]) rfl)
  refine ListK.pick (i := 5) (b := false) (v := .bool false) rfl (by simp [hz]) (by simp [hz]) ?_
  refine ListK.done (hK _ _ ?_)
  clear hK K
  refine wpIn_cond (t := false) (by simp [hz]) (wpIn_skip ?_)
  obtain ⟨y, hy⟩ : ∃ y : Nat, x = (y : Int) := ⟨x.toNat, by omega⟩
  generalize hA : Act.put _ _ _ = a1
  have hz_a1 : a1.tmps.size = 132 := by rw [← hA]; simp only [size_put, hz]
  have u9 : a1.eval (.tmp 9) = strV (linesL T) := by rw [← hA]; exact (by simp [t9])
  have u10 : a1.eval (.tmp 10) = .slice (some ⟨g1, 0, none⟩) (hdH s).many (hdH s).many := by rw [← hA]; exact (by simp [t10])
  have u12 : a1.eval (.tmp 12) = .int .i64 (k : Int) := by rw [← hA]; exact (by simp [t12])
  have u13 : a1.eval (.tmp 13) = .int .i64 (i : Int) := by rw [← hA]; exact (by simp [t13])
  have u14 : a1.eval (.tmp 14) = .int .i64 x := by rw [← hA]; exact (by simp [t14])
  have hd_a1 : a1.defers = [] := by rw [← hA]; simp only [defers_put, hd_a]
  clear hA
  rw [hy] at u14
  have hlr : linesL (T ++ [made 82 k y]) = linesL T ++ linesL [made 82 k y] := linesL_app _ _
  have hl8 : (linesL [made 82 k y]).length = 8 := rfl
  have hlen2 : (linesL (T ++ [made 82 k y])).length ≤ 4000 := by rw [hlr, List.length_append, hl8]; omega
  obtain ⟨_, m2, hr2, _, hin, hout⟩ := ends_read n t hk (x := y) (by omega)
  rw [hrm] at hr2
  cases hr2
  refine wpIn_seq (region_p 14 ?_)
  intro K hK
  refine ListK.move (i := 0) (v := strV (linesL T)) rfl (by simp [u9]) ?_
  refine ListK.move (i := 1) (v := .int .i64 (k : Int)) rfl (by simp [u12]) ?_
  refine ListK.move (i := 2) (v := .int .i64 (y : Int)) rfl (by simp [u14]) ?_
  refine ListK.call (i := 3) (vs := #[strV [82], .int .i64 (k : Int), .int .i64 (y : Int)]) rfl (enters_of Try.func27 (by kernel_rfl) rfl) (by simp [hz_a1]) ((refRecord_any 82 k y (by omega) (by omega) W9).mono ?_)
  rintro _ W10 ⟨rfl, hb10⟩
  refine ⟨_, rfl, ?_⟩
  refine ListK.bsl (i := 4) (ps := #[(0, strV (made 82 k y))]) (v := .slice (some ⟨W10.heap.size, 0, none⟩) 1 1) rfl (by simp [hz_a1]) (bs36_1 _ W10) ?_
  refine ListK.call (i := 5) (vs := #[.slice (some ⟨W10.heap.size, 0, none⟩) 1 1]) rfl (enters_of Try.func21 (by kernel_rfl) rfl) (by simp [hz_a1]) ((refLines_any (some ⟨W10.heap.size, 0, none⟩) 1 [made 82 k y] (by omega) (by simp) _ (strs_new rfl)).mono ?_)
  rintro _ W10x ⟨rfl, hWe⟩
  refine ⟨_, rfl, ?_⟩
  refine ListK.bin (i := 6) (u := strV (linesL T)) (u' := strV (linesL [made 82 k y])) (v := strV (linesL (T ++ [made 82 k y]))) rfl (by simp [hz_a1]) (by simp [hz_a1]) (by rw [hlr]; exact add9 _ _ (by omega) _) ?_
  refine ListK.call (i := 7) (vs := #[strV (linesL (T ++ [made 82 k y]))]) rfl (enters_of Try.func26 (by kernel_rfl) rfl) (by simp [hz_a1]) ((bytes_any (linesL (T ++ [made 82 k y])) (by omega) W10x).mono ?_)
  rintro _ V8 ⟨v8, rfl, ob8⟩
  obtain ⟨A8, c8, rfl, hc8, hy8⟩ := ob8.bytes
  refine ⟨_, rfl, ?_⟩
  refine ListK.call (i := 8) (vs := #[.slice A8 (linesL (T ++ [made 82 k y])).length c8]) rfl (enters_of Try.func25 (by kernel_rfl) rfl) (by simp [hz_a1]) ((mendX_any A8 (linesL (T ++ [made 82 k y])) c8 V8 hc8 (by omega) hy8).mono ?_)
  rintro e W8 hmp
  obtain ⟨hb8, B8, n8, d8, rfl, hx8, hm8⟩ := hmp
  refine ⟨_, rfl, ?_⟩
  refine ListK.move (i := 9) (v := .tuple #[.slice B8 n8 d8, .int .i64 (mendC (linesL (T ++ [made 82 k y])))]) rfl (by simp [hz_a1]) ?_
  refine ListK.extract (i := 10) (u := .tuple #[.slice B8 n8 d8, .int .i64 (mendC (linesL (T ++ [made 82 k y])))]) (v := .slice B8 n8 d8) rfl (by simp [hz_a1]) (ex0 _ _ _) ?_
  refine ListK.extract (i := 11) (u := .tuple #[.slice B8 n8 d8, .int .i64 (mendC (linesL (T ++ [made 82 k y])))]) (v := .int .i64 (mendC (linesL (T ++ [made 82 k y])))) rfl (by simp [hz_a1]) (ex1 _ _ _) ?_
  refine ListK.assign (i := 12) (v := .slice B8 n8 d8) rfl (by simp [hz_a1]) ?_
  refine ListK.assign (i := 13) (v := .int .i64 (mendC (linesL (T ++ [made 82 k y])))) rfl (by simp [hz_a1]) ?_
  refine ListK.done (hK _ _ ?_)
  clear hK K
  have hb910 : Below W9.heap.size W9 W8 := by
    rw [hWe] at ob8
    have hbx : Below W9.heap.size W9 (W10.alloc (.cells #[strV (made 82 k y)] 9)) := hb10.alloc hb10.size _
    exact (hbx.trans (ob8.low.mono hbx.size)).trans (hb8.mono (hbx.trans (ob8.low.mono hbx.size)).size)
  generalize hA : Act.put _ _ _ = a2
  have hz_a2 : a2.tmps.size = 132 := by rw [← hA]; simp only [size_put, hz_a1]
  have v9 : a2.eval (.tmp 9) = strV (linesL T) := by rw [← hA]; exact (by simp [u9])
  have v10 : a2.eval (.tmp 10) = .slice (some ⟨g1, 0, none⟩) (hdH s).many (hdH s).many := by rw [← hA]; exact (by simp [u10])
  have v12 : a2.eval (.tmp 12) = .int .i64 (k : Int) := by rw [← hA]; exact (by simp [u12])
  have v13 : a2.eval (.tmp 13) = .int .i64 (i : Int) := by rw [← hA]; exact (by simp [u13])
  have v14 : a2.eval (.tmp 14) = .int .i64 (y : Int) := by rw [← hA]; exact (by simp [u14])
  have v15 : a2.eval (.tmp 15) = .slice B8 n8 d8 := by rw [← hA]; exact (by simp [hz_a1])
  have v16 : a2.eval (.tmp 16) = .int .i64 (mendC (linesL (T ++ [made 82 k y]))) := by rw [← hA]; exact (by simp [hz_a1])
  have hd_a2 : a2.defers = [] := by rw [← hA]; simp only [defers_put, hd_a1]
  clear hA
  by_cases hi2 : i < 2
  · have hyg : y ∈ goesAt (hdH s) m k := by
      have : i = 0 ∨ i = 1 := by omega
      rcases this with rfl | rfl
      · have : y = lo := by simp [nI] at hx; omega
        rw [this]
        exact hlo
      · have : y = hi_ := by simp [nI] at hx; omega
        rw [this]
        exact hhi
    obtain ⟨hm0, m', hr', hlo', hhi'⟩ := hin hyg
    obtain ⟨hd2, m2, g2, f2, hr2, _, hh2, rfl, rfl, rfl, row2, hf2⟩ := hm8 hm0
    rw [hr'] at hr2
    cases hr2
    rw [hm0] at v16
    have c1 := (row2 (k * 2) (by show k * 2 < (hdH s).many * 2; simp only [hdH]; omega)).1
    have c2 := (row2 (k * 2 + 1) (by show k * 2 + 1 < (hdH s).many * 2; simp only [hdH]; omega)).1
    rw [(hf2 k hk).1, hlo'] at c1
    rw [(hf2 k hk).2, hhi'] at c2
    have hgr : ∀ w w', (fun w : World => (w.cell? ⟨g2, k * 2, none⟩ = some (.int .i64 (y : Int)) ∧ w.cell? ⟨g2, k * 2 + 1, none⟩ = some (.int .i64 (y : Int))) ∧ Below W8.heap.size W8 w) w → Below w.heap.size w w' → (fun w : World => (w.cell? ⟨g2, k * 2, none⟩ = some (.int .i64 (y : Int)) ∧ w.cell? ⟨g2, k * 2 + 1, none⟩ = some (.int .i64 (y : Int))) ∧ Below W8.heap.size W8 w) w' := fun w w' h hb => ⟨⟨(hb.cell (block_lt_of_cell h.1.1)).trans h.1.1, (hb.cell (block_lt_of_cell h.1.2)).trans h.1.2⟩, h.2.trans (hb.mono h.2.size)⟩
    have hR8 : (fun w : World => (w.cell? ⟨g2, k * 2, none⟩ = some (.int .i64 (y : Int)) ∧ w.cell? ⟨g2, k * 2 + 1, none⟩ = some (.int .i64 (y : Int))) ∧ Below W8.heap.size W8 w) W8 := ⟨⟨c1, c2⟩, Below.refl _ _⟩
    refine wpIn_seq (region_K (KpR (fun w : World => (w.cell? ⟨g2, k * 2, none⟩ = some (.int .i64 (y : Int)) ∧ w.cell? ⟨g2, k * 2 + 1, none⟩ = some (.int .i64 (y : Int))) ∧ Below W8.heap.size W8 w) (fun _ => false)) (wideF_plain _) (by kernel_rfl) Try.mixed ?_)
    change AnyK _ _ _ _ 35 (Array.replicate 35 false) _ _
    have hR : (fun w : World => (w.cell? ⟨g2, k * 2, none⟩ = some (.int .i64 (y : Int)) ∧ w.cell? ⟨g2, k * 2 + 1, none⟩ = some (.int .i64 (y : Int))) ∧ Below W8.heap.size W8 w) W8.drew := hgr _ _ hR8 (Below.refl W8.heap.size W8).drew
    refine AnyK.move (i := 0) may_o (v := .int .i64 (i : Int)) (by simp [v13]) hR ?_
    refine AnyK.bin (i := 1) may_o (u := .int .i64 (i : Int)) (u' := .int .i64 (2)) (v := .bool true) (by simp [hz_a2]) (by simp) (fun w => lssT3 (by omega) w) hR ?_
    refine AnyK.move (i := 2) may_o (v := .bool true) (by simp [hz_a2]) hR ?_
    refine AnyK.move (i := 3) may_o (v := .int .i64 0) (by simp [v16]) hR (hw := (by exact wanted_g (e := 98) (b' := true) rfl (by simp [hz_a2]) rfl)) ?_
    refine AnyK.bin (i := 4) may_o (u := .int .i64 0) (u' := .int .i64 (0)) (v := .bool false) (by simp [hz_a2]) (by simp) (fun w => neq27F rfl w) hR (hw := (by exact wanted_g (e := 98) (b' := true) rfl (by simp [hz_a2]) rfl)) ?_
    refine AnyK.move (i := 5) may_o (v := .bool false) (by simp [hz_a2]) hR (hw := (by exact wanted_g (e := 98) (b' := true) rfl (by simp [hz_a2]) rfl)) ?_
    refine AnyK.move (i := 6) may_o (v := .slice (some ⟨g2, 0, none⟩) (hdH s).many (hdH s).many) (by simp [v15]) hR (hw := (by exact wanted_g (e := 101) (b' := false) rfl (by simp [hz_a2]) rfl)) ?_
    refine AnyK.len (i := 7) may_o (u := .slice (some ⟨g2, 0, none⟩) (hdH s).many (hdH s).many) (v := .int .i64 (hdH s).many) (by simp [hz_a2]) (fun w => ln40 _ _ _ _ w) rfl hR (hw := (by exact wanted_g (e := 101) (b' := false) rfl (by simp [hz_a2]) rfl)) ?_
    refine AnyK.move (i := 8) may_o (v := .slice (some ⟨g1, 0, none⟩) (hdH s).many (hdH s).many) (by simp [v10]) hR (hw := (by exact wanted_g (e := 101) (b' := false) rfl (by simp [hz_a2]) rfl)) ?_
    refine AnyK.len (i := 9) may_o (u := .slice (some ⟨g1, 0, none⟩) (hdH s).many (hdH s).many) (v := .int .i64 (hdH s).many) (by simp [hz_a2]) (fun w => ln40 _ _ _ _ w) rfl hR (hw := (by exact wanted_g (e := 101) (b' := false) rfl (by simp [hz_a2]) rfl)) ?_
    refine AnyK.bin (i := 10) may_o (u := .int .i64 (hdH s).many) (u' := .int .i64 (hdH s).many) (v := .bool false) (by simp [hz_a2]) (by simp [hz_a2]) (fun w => neqF rfl w) hR (hw := (by exact wanted_g (e := 101) (b' := false) rfl (by simp [hz_a2]) rfl)) ?_
    refine AnyK.pick (i := 11) may_o (b := false) (v := .bool false) (by simp [hz_a2]) (by simp [hz_a2]) hR (hw := (by exact wanted_g (e := 98) (b' := true) rfl (by simp [hz_a2]) rfl)) ?_
    refine AnyK.move (i := 12) may_o (v := .bool false) (by simp [hz_a2]) hR (hw := (by exact wanted_g (e := 98) (b' := true) rfl (by simp [hz_a2]) rfl)) ?_
    refine AnyK.move (i := 13) may_o (v := .slice (some ⟨g2, 0, none⟩) (hdH s).many (hdH s).many) (by simp [v15]) hR (hw := (by exact wanted_g (e := 108) (b' := false) rfl (by simp [hz_a2]) rfl)) ?_
    refine AnyK.move (i := 14) may_o (v := .int .i64 (k : Int)) (by simp [v12]) hR (hw := (by exact wanted_g (e := 108) (b' := false) rfl (by simp [hz_a2]) rfl)) ?_
    refine AnyK.index (i := 15) may_o (u := .slice (some ⟨g2, 0, none⟩) (hdH s).many (hdH s).many) (u' := .int .i64 (k : Int)) (v := .pointer (some ⟨g2, k * 2, none⟩)) (by simp [hz_a2]) (by simp [hz_a2]) (fun w => by have := ix40 (b := g2) (o := 0) (c := (hdH s).many) (show k < (hdH s).many from hk) w; rwa [Nat.zero_add] at this) hR (hw := (by exact wanted_g (e := 108) (b' := false) rfl (by simp [hz_a2]) rfl)) ?_
    refine AnyK.load (i := 16) may_o (p := ⟨g2, k * 2, none⟩) (v := .agg #[.int .i64 (y : Int), .int .i64 (y : Int)]) (by simp [hz_a2]) (fun w hw => ld45 hw.1.1 hw.1.2) hR (hw := (by exact wanted_g (e := 108) (b' := false) rfl (by simp [hz_a2]) rfl)) ?_
    refine AnyK.move (i := 17) may_o (v := .int .i64 (y : Int)) (by simp [v14]) hR (hw := (by exact wanted_g (e := 108) (b' := false) rfl (by simp [hz_a2]) rfl)) ?_
    refine AnyK.move (i := 18) may_o (v := .int .i64 (y : Int)) (by simp [v14]) hR (hw := (by exact wanted_g (e := 108) (b' := false) rfl (by simp [hz_a2]) rfl)) ?_
    refine AnyK.pick1 (i := 19) (by kernel_rfl) ?_
    refine StepK.call (i := 19) (f := 28) (vs := #[.int .i64 (y : Int), .int .i64 (y : Int)]) rfl (enters_of Try.func28 (by kernel_rfl) rfl) rfl (by simp [hz_a2]) ((between_any (y : Int) (y : Int) _).mono ?_) (hw := (by exact wanted_g (e := 108) (b' := false) rfl (by simp [hz_a2]) rfl))
    rintro _ V19 ⟨rfl, hv19⟩
    replace hR : (fun w : World => (w.cell? ⟨g2, k * 2, none⟩ = some (.int .i64 (y : Int)) ∧ w.cell? ⟨g2, k * 2 + 1, none⟩ = some (.int .i64 (y : Int))) ∧ Below W8.heap.size W8 w) V19 := hgr _ _ hR hv19
    refine ⟨_, rfl, fun _ _ => hR, ?_⟩
    refine AnyK.bin (i := 20) may_o (u := .agg #[.int .i64 (y : Int), .int .i64 (y : Int)]) (u' := .agg #[.int .i64 (y : Int), .int .i64 (y : Int)]) (v := .bool false) (by simp [hz_a2]) (by simp [hz_a2]) (fun w => neq45F _ _ w) hR (hw := (by exact wanted_g (e := 108) (b' := false) rfl (by simp [hz_a2]) rfl)) ?_
    refine AnyK.pick (i := 21) may_o (b := false) (v := .bool false) (by simp [hz_a2]) (by simp [hz_a2]) hR (hw := (by exact wanted_g (e := 98) (b' := true) rfl (by simp [hz_a2]) rfl)) ?_
    refine AnyK.pick (i := 22) may_o (b := true) (v := .bool false) (by simp [hz_a2]) (by simp [hz_a2]) hR ?_
    refine AnyK.move (i := 23) may_o (v := .bool false) (by simp [hz_a2]) hR ?_
    refine AnyK.move (i := 24) may_o (v := .int .i64 (i : Int)) (by simp [v13]) hR (hw := (by exact wanted_g (e := 119) (b' := false) rfl (by simp [hz_a2]) rfl)) ?_
    refine AnyK.bin (i := 25) may_o (u := .int .i64 (i : Int)) (u' := .int .i64 (2)) (v := .bool false) (by simp [hz_a2]) (by simp) (fun w => geq3F (by omega) w) hR (hw := (by exact wanted_g (e := 119) (b' := false) rfl (by simp [hz_a2]) rfl)) ?_
    refine AnyK.move (i := 26) may_o (v := .bool false) (by simp [hz_a2]) hR (hw := (by exact wanted_g (e := 119) (b' := false) rfl (by simp [hz_a2]) rfl)) ?_
    refine AnyK.passG (i := 27) may_o (e := 122) (b' := false) rfl (by simp [hz_a2]) rfl hR ?_
    refine AnyK.passG (i := 28) may_o (e := 122) (b' := false) rfl (by simp [hz_a2]) rfl hR ?_
    refine AnyK.pick (i := 29) may_o (b := false) (v := .bool false) (by simp [hz_a2]) (by simp) hR (hw := (by exact wanted_g (e := 119) (b' := false) rfl (by simp [hz_a2]) rfl)) ?_
    refine AnyK.move (i := 30) may_o (v := .bool false) (by simp [hz_a2]) hR (hw := (by exact wanted_g (e := 119) (b' := false) rfl (by simp [hz_a2]) rfl)) ?_
    refine AnyK.passG (i := 31) may_o (e := 126) (b' := false) rfl (by simp [hz_a2]) rfl hR ?_
    refine AnyK.passG (i := 32) may_o (e := 126) (b' := false) rfl (by simp [hz_a2]) rfl hR ?_
    refine AnyK.pick (i := 33) may_o (b := false) (v := .bool false) (by simp [hz_a2]) (by simp) hR (hw := (by exact wanted_g (e := 119) (b' := false) rfl (by simp [hz_a2]) rfl)) ?_
    refine AnyK.pick (i := 34) may_o (b := false) (v := .bool false) (by simp [hz_a2]) (by simp [hz_a2]) hR ?_
    refine AnyK.done (by kernel_rfl) ?_
    refine wpIn_cond (t := false) (by simp [hz_a2]) (wpIn_skip ?_)
    exact hN _ _ (by simp only [size_put, hz_a2]) (by simp only [defers_put, hd_a2]) (by simp [v9]) (by simp [v10]) (by simp [v12]) (by simp [v13]) (hb910.trans (hR.2.mono hb910.size))
  · have hyg : y ∉ goesAt (hdH s) m k := by
      intro hg
      have hga := hall y hg
      have : i = 2 ∨ i = 3 := by omega
      rcases this with rfl | rfl
      · simp [nI] at hx
        omega
      · simp [nI] at hx
        omega
    have hbd := (Below.refl W8.heap.size W8).drew
    by_cases h9 : mendC (linesL (T ++ [made 82 k y])) = 9
    · rw [h9] at v16
      refine wpIn_seq (region_K (KpR (fun _ : World => True) (fun _ => false)) (wideF_plain _) (by kernel_rfl) Try.mixed ?_)
      change AnyK _ _ _ _ 35 (Array.replicate 35 false) _ _
      have hR : (fun _ : World => True) W8.drew := trivial
      refine AnyK.move (i := 0) may_o (v := .int .i64 (i : Int)) (by simp [v13]) hR ?_
      refine AnyK.bin (i := 1) may_o (u := .int .i64 (i : Int)) (u' := .int .i64 (2)) (v := .bool false) (by simp [hz_a2]) (by simp) (fun w => lssF3 (by omega) w) hR ?_
      refine AnyK.move (i := 2) may_o (v := .bool false) (by simp [hz_a2]) hR ?_
      refine AnyK.passG (i := 3) may_o (e := 98) (b' := false) rfl (by simp [hz_a2]) rfl hR ?_
      refine AnyK.passG (i := 4) may_o (e := 98) (b' := false) rfl (by simp [hz_a2]) rfl hR ?_
      refine AnyK.passG (i := 5) may_o (e := 98) (b' := false) rfl (by simp [hz_a2]) rfl hR ?_
      refine AnyK.passU (i := 6) may_o (e := 101) rfl (by simp [hz_a2]) hR ?_
      refine AnyK.passU (i := 7) may_o (e := 101) rfl (by simp [hz_a2]) hR ?_
      refine AnyK.passU (i := 8) may_o (e := 101) rfl (by simp [hz_a2]) hR ?_
      refine AnyK.passU (i := 9) may_o (e := 101) rfl (by simp [hz_a2]) hR ?_
      refine AnyK.passU (i := 10) may_o (e := 101) rfl (by simp [hz_a2]) hR ?_
      refine AnyK.passG (i := 11) may_o (e := 98) (b' := false) rfl (by simp [hz_a2]) rfl hR ?_
      refine AnyK.passG (i := 12) may_o (e := 98) (b' := false) rfl (by simp [hz_a2]) rfl hR ?_
      refine AnyK.passU (i := 13) may_o (e := 108) rfl (by simp [hz_a2]) hR ?_
      refine AnyK.passU (i := 14) may_o (e := 108) rfl (by simp [hz_a2]) hR ?_
      refine AnyK.passU (i := 15) may_o (e := 108) rfl (by simp [hz_a2]) hR ?_
      refine AnyK.passU (i := 16) may_o (e := 108) rfl (by simp [hz_a2]) hR ?_
      refine AnyK.passU (i := 17) may_o (e := 108) rfl (by simp [hz_a2]) hR ?_
      refine AnyK.passU (i := 18) may_o (e := 108) rfl (by simp [hz_a2]) hR ?_
      refine AnyK.passU (i := 19) may_o (e := 108) rfl (by simp [hz_a2]) hR ?_
      refine AnyK.passU (i := 20) may_o (e := 108) rfl (by simp [hz_a2]) hR ?_
      refine AnyK.passG (i := 21) may_o (e := 98) (b' := false) rfl (by simp [hz_a2]) rfl hR ?_
      refine AnyK.pick (i := 22) may_o (b := false) (v := .bool false) (by simp [hz_a2]) (by simp) hR ?_
      refine AnyK.move (i := 23) may_o (v := .bool false) (by simp [hz_a2]) hR ?_
      refine AnyK.move (i := 24) may_o (v := .int .i64 (i : Int)) (by simp [v13]) hR (hw := (by exact wanted_g (e := 119) (b' := false) rfl (by simp [hz_a2]) rfl)) ?_
      refine AnyK.bin (i := 25) may_o (u := .int .i64 (i : Int)) (u' := .int .i64 (2)) (v := .bool true) (by simp [hz_a2]) (by simp) (fun w => geq3T (by omega) w) hR (hw := (by exact wanted_g (e := 119) (b' := false) rfl (by simp [hz_a2]) rfl)) ?_
      refine AnyK.move (i := 26) may_o (v := .bool true) (by simp [hz_a2]) hR (hw := (by exact wanted_g (e := 119) (b' := false) rfl (by simp [hz_a2]) rfl)) ?_
      refine AnyK.move (i := 27) may_o (v := .int .i64 9) (by simp [v16]) hR (hw := (by exact wanted_g (e := 122) (b' := true) rfl (by simp [hz_a2]) rfl)) ?_
      refine AnyK.bin (i := 28) may_o (u := .int .i64 9) (u' := .int .i64 (9)) (v := .bool false) (by simp [hz_a2]) (by simp) (fun w => neq27F rfl w) hR (hw := (by exact wanted_g (e := 122) (b' := true) rfl (by simp [hz_a2]) rfl)) ?_
      refine AnyK.pick (i := 29) may_o (b := true) (v := .bool false) (by simp [hz_a2]) (by simp [hz_a2]) hR (hw := (by exact wanted_g (e := 119) (b' := false) rfl (by simp [hz_a2]) rfl)) ?_
      refine AnyK.move (i := 30) may_o (v := .bool false) (by simp [hz_a2]) hR (hw := (by exact wanted_g (e := 119) (b' := false) rfl (by simp [hz_a2]) rfl)) ?_
      refine AnyK.passG (i := 31) may_o (e := 126) (b' := false) rfl (by simp [hz_a2]) rfl hR ?_
      refine AnyK.passG (i := 32) may_o (e := 126) (b' := false) rfl (by simp [hz_a2]) rfl hR ?_
      refine AnyK.pick (i := 33) may_o (b := false) (v := .bool false) (by simp [hz_a2]) (by simp) hR (hw := (by exact wanted_g (e := 119) (b' := false) rfl (by simp [hz_a2]) rfl)) ?_
      refine AnyK.pick (i := 34) may_o (b := false) (v := .bool false) (by simp [hz_a2]) (by simp [hz_a2]) hR ?_
      refine AnyK.done (by kernel_rfl) ?_
      refine wpIn_cond (t := false) (by simp [hz_a2]) (wpIn_skip ?_)
      exact hN _ _ (by simp only [size_put, hz_a2]) (by simp only [defers_put, hd_a2]) (by simp [v9]) (by simp [v10]) (by simp [v12]) (by simp [v13]) (hb910.trans (hbd.mono hb910.size))
    · have h6 := (hout hyg).resolve_right h9
      rw [h6] at v16
      refine wpIn_seq (region_K (KpR (fun _ : World => True) (fun _ => false)) (wideF_plain _) (by kernel_rfl) Try.mixed ?_)
      change AnyK _ _ _ _ 35 (Array.replicate 35 false) _ _
      have hR : (fun _ : World => True) W8.drew := trivial
      refine AnyK.move (i := 0) may_o (v := .int .i64 (i : Int)) (by simp [v13]) hR ?_
      refine AnyK.bin (i := 1) may_o (u := .int .i64 (i : Int)) (u' := .int .i64 (2)) (v := .bool false) (by simp [hz_a2]) (by simp) (fun w => lssF3 (by omega) w) hR ?_
      refine AnyK.move (i := 2) may_o (v := .bool false) (by simp [hz_a2]) hR ?_
      refine AnyK.passG (i := 3) may_o (e := 98) (b' := false) rfl (by simp [hz_a2]) rfl hR ?_
      refine AnyK.passG (i := 4) may_o (e := 98) (b' := false) rfl (by simp [hz_a2]) rfl hR ?_
      refine AnyK.passG (i := 5) may_o (e := 98) (b' := false) rfl (by simp [hz_a2]) rfl hR ?_
      refine AnyK.passU (i := 6) may_o (e := 101) rfl (by simp [hz_a2]) hR ?_
      refine AnyK.passU (i := 7) may_o (e := 101) rfl (by simp [hz_a2]) hR ?_
      refine AnyK.passU (i := 8) may_o (e := 101) rfl (by simp [hz_a2]) hR ?_
      refine AnyK.passU (i := 9) may_o (e := 101) rfl (by simp [hz_a2]) hR ?_
      refine AnyK.passU (i := 10) may_o (e := 101) rfl (by simp [hz_a2]) hR ?_
      refine AnyK.passG (i := 11) may_o (e := 98) (b' := false) rfl (by simp [hz_a2]) rfl hR ?_
      refine AnyK.passG (i := 12) may_o (e := 98) (b' := false) rfl (by simp [hz_a2]) rfl hR ?_
      refine AnyK.passU (i := 13) may_o (e := 108) rfl (by simp [hz_a2]) hR ?_
      refine AnyK.passU (i := 14) may_o (e := 108) rfl (by simp [hz_a2]) hR ?_
      refine AnyK.passU (i := 15) may_o (e := 108) rfl (by simp [hz_a2]) hR ?_
      refine AnyK.passU (i := 16) may_o (e := 108) rfl (by simp [hz_a2]) hR ?_
      refine AnyK.passU (i := 17) may_o (e := 108) rfl (by simp [hz_a2]) hR ?_
      refine AnyK.passU (i := 18) may_o (e := 108) rfl (by simp [hz_a2]) hR ?_
      refine AnyK.passU (i := 19) may_o (e := 108) rfl (by simp [hz_a2]) hR ?_
      refine AnyK.passU (i := 20) may_o (e := 108) rfl (by simp [hz_a2]) hR ?_
      refine AnyK.passG (i := 21) may_o (e := 98) (b' := false) rfl (by simp [hz_a2]) rfl hR ?_
      refine AnyK.pick (i := 22) may_o (b := false) (v := .bool false) (by simp [hz_a2]) (by simp) hR ?_
      refine AnyK.move (i := 23) may_o (v := .bool false) (by simp [hz_a2]) hR ?_
      refine AnyK.move (i := 24) may_o (v := .int .i64 (i : Int)) (by simp [v13]) hR (hw := (by exact wanted_g (e := 119) (b' := false) rfl (by simp [hz_a2]) rfl)) ?_
      refine AnyK.bin (i := 25) may_o (u := .int .i64 (i : Int)) (u' := .int .i64 (2)) (v := .bool true) (by simp [hz_a2]) (by simp) (fun w => geq3T (by omega) w) hR (hw := (by exact wanted_g (e := 119) (b' := false) rfl (by simp [hz_a2]) rfl)) ?_
      refine AnyK.move (i := 26) may_o (v := .bool true) (by simp [hz_a2]) hR (hw := (by exact wanted_g (e := 119) (b' := false) rfl (by simp [hz_a2]) rfl)) ?_
      refine AnyK.move (i := 27) may_o (v := .int .i64 6) (by simp [v16]) hR (hw := (by exact wanted_g (e := 122) (b' := true) rfl (by simp [hz_a2]) rfl)) ?_
      refine AnyK.bin (i := 28) may_o (u := .int .i64 6) (u' := .int .i64 (9)) (v := .bool true) (by simp [hz_a2]) (by simp) (fun w => neq27T (by omega) w) hR (hw := (by exact wanted_g (e := 122) (b' := true) rfl (by simp [hz_a2]) rfl)) ?_
      refine AnyK.pick (i := 29) may_o (b := true) (v := .bool true) (by simp [hz_a2]) (by simp [hz_a2]) hR (hw := (by exact wanted_g (e := 119) (b' := false) rfl (by simp [hz_a2]) rfl)) ?_
      refine AnyK.move (i := 30) may_o (v := .bool true) (by simp [hz_a2]) hR (hw := (by exact wanted_g (e := 119) (b' := false) rfl (by simp [hz_a2]) rfl)) ?_
      refine AnyK.move (i := 31) may_o (v := .int .i64 6) (by simp [v16]) hR (hw := (by exact wanted_g (e := 126) (b' := true) rfl (by simp [hz_a2]) rfl)) ?_
      refine AnyK.bin (i := 32) may_o (u := .int .i64 6) (u' := .int .i64 (6)) (v := .bool false) (by simp [hz_a2]) (by simp) (fun w => neq27F rfl w) hR (hw := (by exact wanted_g (e := 126) (b' := true) rfl (by simp [hz_a2]) rfl)) ?_
      refine AnyK.pick (i := 33) may_o (b := true) (v := .bool false) (by simp [hz_a2]) (by simp [hz_a2]) hR (hw := (by exact wanted_g (e := 119) (b' := false) rfl (by simp [hz_a2]) rfl)) ?_
      refine AnyK.pick (i := 34) may_o (b := false) (v := .bool false) (by simp [hz_a2]) (by simp [hz_a2]) hR ?_
      refine AnyK.done (by kernel_rfl) ?_
      refine wpIn_cond (t := false) (by simp [hz_a2]) (wpIn_skip ?_)
      exact hN _ _ (by simp only [size_put, hz_a2]) (by simp only [defers_put, hd_a2]) (by simp [v9]) (by simp [v10]) (by simp [v12]) (by simp [v13]) (hb910.trans (hbd.mono hb910.size))
end
end Go.Proofs.YtmdlmmfbcnkanaaR
namespace Go.Proofs.YtmdlmmfbcnkanaaR
open Go.RowKit Go.Shelf
section
attribute [local irreducible] AnyK StepK
variable {s : Ser} {T : List (List UInt8)} {W : World}
set_option maxHeartbeats 400000 in
theorem fe_b_any {b1 c which : Nat} {A : Option Addr} {g1 : Nat} {f1 : Nat → Int} {m : List (List UInt8)} {a : Act} {W6 : World} (n : SerN s) (t : TornF s T) (hrm : readM (linesL T) = some (hdH s, m)) (hmc : ∀ k, k < s.rd.length → ∃ y, y ∈ goesAt (hdH s) m k) (hwh : which < 256)
    (row1 : Row W6 g1 ((hdH s).many * 2) f1) (hf1 : ∀ i, i < (hdH s).many → f1 (i * 2) = loAt (hdH s) m i ∧ f1 (i * 2 + 1) = hiAt (hdH s) m i) (w6 : Whole W6 b1 24 #[.int .i64 s.width, .int .i64 s.step, .slice A s.rd.length c])
    (hz : a.tmps.size = 132) (hd_a : a.defers = []) (t3 : a.eval (.tmp 3) = .int .u8 (which : Int)) (t4 : a.eval (.tmp 4) = ptr b1) (t9 : a.eval (.tmp 9) = strV (linesL T)) (t10 : a.eval (.tmp 10) = .slice (some ⟨g1, 0, none⟩) (hdH s).many (hdH s).many) (t11 : a.eval (.tmp 11) = .int .i64 0) (hB : Below W.heap.size W W6) :
    fe_b.wpIn Fence.wide 5 Try.prog (bodyPost Try.prog Try.f4 (TP W true)) a W6 := by
  have hlen := n.len
  have hM : (hdH s).many = s.rd.length := rfl
  unfold fe_b
  refine wpIn_seq (wpIn_seq (region_p 10 ?_))
  intro K hK
  refine ListK.move (i := 0) (v := .int .i64 0) rfl (by simp [t11]) ?_
  refine ListK.bin (i := 1) (u := .int .i64 0) (u' := .int .i64 0) (v := .bool false) rfl (by simp [hz]) (by simp) (neq27F rfl _) ?_
  refine ListK.move (i := 2) (v := .bool false) rfl (by simp [hz]) ?_
  refine ListK.move (i := 3) (v := .slice (some ⟨g1, 0, none⟩) (hdH s).many (hdH s).many) rfl (by simp [t10]) ?_ (hw := wanted_g (e := 35) (b' := false) rfl (by simp [hz]) rfl)
  refine ListK.lenW (i := 4) (u := .slice (some ⟨g1, 0, none⟩) (hdH s).many (hdH s).many) (v := .int .i64 (hdH s).many) rfl (by simp [hz]) (ln40 _ _ _ _ _) rfl ?_ (hw := wanted_g (e := 35) (b' := false) rfl (by simp [hz]) rfl)
  refine ListK.field (i := 5) (u := .pointer (some ⟨b1, 0, none⟩)) (v := .pointer (some ⟨b1, 2, none⟩)) rfl (by simp [t4]) (fa24_2 _) ?_ (hw := wanted_g (e := 35) (b' := false) rfl (by simp [hz]) rfl)
  refine ListK.load (i := 6) (p := ⟨b1, 2, none⟩) (v := .slice A s.rd.length c) rfl (by simp [hz]) (ld22 (w6.cell 2)) ?_ (hw := wanted_g (e := 35) (b' := false) rfl (by simp [hz]) rfl)
  refine ListK.lenW (i := 7) (u := .slice A s.rd.length c) (v := .int .i64 s.rd.length) rfl (by simp [hz]) (ln22 _ _ _ _ _) rfl ?_ (hw := wanted_g (e := 35) (b' := false) rfl (by simp [hz]) rfl)
  refine ListK.bin (i := 8) (u := .int .i64 (hdH s).many) (u' := .int .i64 s.rd.length) (v := .bool false) rfl (by simp [hz]) (by simp [hz]) (neqF rfl _) ?_ (hw := wanted_g (e := 35) (b' := false) rfl (by simp [hz]) rfl)
  refine ListK.pick (i := 9) (b := false) (v := .bool false) rfl (by simp [hz]) (by simp [hz]) ?_
  refine ListK.done (hK _ _ ?_)
  clear hK K
  refine wpIn_cond (t := false) (by simp [hz]) (wpIn_skip ?_)
  generalize hA : Act.put _ _ _ = a1
  have hz_a1 : a1.tmps.size = 132 := by rw [← hA]; simp only [size_put, hz]
  have u3 : a1.eval (.tmp 3) = .int .u8 (which : Int) := by rw [← hA]; exact (by simp [t3])
  have u9 : a1.eval (.tmp 9) = strV (linesL T) := by rw [← hA]; exact (by simp [t9])
  have u10 : a1.eval (.tmp 10) = .slice (some ⟨g1, 0, none⟩) (hdH s).many (hdH s).many := by rw [← hA]; exact (by simp [t10])
  have hd_a1 : a1.defers = [] := by rw [← hA]; simp only [defers_put, hd_a]
  clear hA
  refine wpIn_seq (region_p 6 ?_)
  intro K hK
  refine ListK.move (i := 0) (v := .int .u8 (which : Int)) rfl (by simp [u3]) ?_
  refine ListK.conv (i := 1) (u := .int .u8 (which : Int)) (v := .int .i64 (which : Int)) rfl (by simp [hz_a1]) (cvu8 hwh _) ?_
  refine ListK.move (i := 2) (v := .slice (some ⟨g1, 0, none⟩) (hdH s).many (hdH s).many) rfl (by simp [u10]) ?_
  refine ListK.len (i := 3) (u := .slice (some ⟨g1, 0, none⟩) (hdH s).many (hdH s).many) (v := .int .i64 (hdH s).many) rfl (by simp [hz_a1]) (ln40 _ _ _ _ _) rfl ?_
  refine ListK.bin (i := 4) (u := .int .i64 (which : Int)) (u' := .int .i64 (hdH s).many) (v := .int .i64 ((which % (hdH s).many : Nat) : Int)) rfl (by simp [hz_a1]) (by simp [hz_a1]) (rem3r (by omega) (by omega) rfl _) ?_
  refine ListK.assign (i := 5) (v := .int .i64 ((which % (hdH s).many : Nat) : Int)) rfl (by simp [hz_a1]) ?_
  refine ListK.done (hK _ _ ?_)
  clear hK K
  obtain ⟨k, hk⟩ : ∃ k, which % (hdH s).many = k := ⟨_, rfl⟩
  have hkl : k < (hdH s).many := by rw [← hk]; exact Nat.mod_lt _ (by omega)
  rw [hk]
  generalize hA : Act.put _ _ _ = a2
  have hz_a2 : a2.tmps.size = 132 := by rw [← hA]; simp only [size_put, hz_a1]
  have v9 : a2.eval (.tmp 9) = strV (linesL T) := by rw [← hA]; exact (by simp [u9])
  have v10 : a2.eval (.tmp 10) = .slice (some ⟨g1, 0, none⟩) (hdH s).many (hdH s).many := by rw [← hA]; exact (by simp [u10])
  have v12 : a2.eval (.tmp 12) = .int .i64 (k : Int) := by rw [← hA]; exact (by simp [hz_a1])
  have hd_a2 : a2.defers = [] := by rw [← hA]; simp only [defers_put, hd_a1]
  clear hA
  obtain ⟨lo, hi, hlo, hhi, e1, e2, hall⟩ := lo_goes (hmc k hkl)
  have c1 := (row1 (k * 2) (by omega)).1
  have c2 := (row1 (k * 2 + 1) (by omega)).1
  rw [(hf1 k hkl).1, e1] at c1
  rw [(hf1 k hkl).2, e2] at c2
  have hlo9 := goes_le hlo
  have hhi9 := goes_le hhi
  refine wpIn_seq (wpIn_seq (region_p 1 ?_))
  intro K hK
  refine ListK.assign (i := 0) (v := .int .i64 0) rfl (by simp) ?_
  refine ListK.done (hK _ _ ?_)
  clear hK K
  generalize hA : Act.put _ _ _ = a3
  have hz_a3 : a3.tmps.size = 132 := by rw [← hA]; simp only [size_put, hz_a2]
  have q9 : a3.eval (.tmp 9) = strV (linesL T) := by rw [← hA]; exact (by simp [v9])
  have q10 : a3.eval (.tmp 10) = .slice (some ⟨g1, 0, none⟩) (hdH s).many (hdH s).many := by rw [← hA]; exact (by simp [v10])
  have q12 : a3.eval (.tmp 12) = .int .i64 (k : Int) := by rw [← hA]; exact (by simp [v12])
  have q13 : a3.eval (.tmp 13) = .int .i64 0 := by rw [← hA]; exact (by simp [hz_a2])
  have hd_a3 : a3.defers = [] := by rw [← hA]; simp only [defers_put, hd_a2]
  clear hA
  refine wpIn_block (wpIn_loop (fun a W' => ∃ i : Nat, Below W6.heap.size W6 W' ∧ i ≤ 4 ∧ a.tmps.size = 132 ∧ a.defers = [] ∧ a.eval (.tmp 9) = strV (linesL T) ∧ a.eval (.tmp 10) = .slice (some ⟨g1, 0, none⟩) (hdH s).many (hdH s).many ∧ a.eval (.tmp 12) = .int .i64 (k : Int) ∧ a.eval (.tmp 13) = .int .i64 (i : Int)) (fun a _ => 4 - (intOf (a.eval (.tmp 13))).toNat)
    ⟨0, Below.refl _ _, by omega, hz_a3, hd_a3, q9, q10, q12, q13⟩ ?_)
  rintro b1 W9 ⟨i, hb9, hi4, hz_b1, hd_b1, s9, s10, s12, s13⟩
  unfold fe_l
  by_cases hlt : i < 4
  · skip
    refine wpIn_seq (wpIn_seq (region_p 2 ?_))
    intro K hK
    refine ListK.move (i := 0) (v := .int .i64 (i : Int)) rfl (by simp [s13]) ?_
    refine ListK.bin (i := 1) (u := .int .i64 (i : Int)) (u' := .int .i64 4) (v := .bool true) rfl (by simp [hz_b1]) (by simp) (lssT3 (by omega) _) ?_
    refine ListK.done (hK _ _ ?_)
    clear hK K
    refine wpIn_cond (t := true) (by simp [hz_b1]) (wpIn_skip ?_)
    generalize hA : Act.put _ _ _ = b2
    have hz_b2 : b2.tmps.size = 132 := by rw [← hA]; simp only [size_put, hz_b1]
    have o9 : b2.eval (.tmp 9) = strV (linesL T) := by rw [← hA]; exact (by simp [s9])
    have o10 : b2.eval (.tmp 10) = .slice (some ⟨g1, 0, none⟩) (hdH s).many (hdH s).many := by rw [← hA]; exact (by simp [s10])
    have o12 : b2.eval (.tmp 12) = .int .i64 (k : Int) := by rw [← hA]; exact (by simp [s12])
    have o13 : b2.eval (.tmp 13) = .int .i64 (i : Int) := by rw [← hA]; exact (by simp [s13])
    have hd_b2 : b2.defers = [] := by rw [← hA]; simp only [defers_put, hd_b1]
    clear hA
    have hgo : ∀ (b : Act) (W' : World), b.tmps.size = 132 → b.defers = [] → b.eval (.tmp 9) = strV (linesL T) → b.eval (.tmp 10) = .slice (some ⟨g1, 0, none⟩) (hdH s).many (hdH s).many → b.eval (.tmp 12) = .int .i64 (k : Int) → b.eval (.tmp 13) = .int .i64 (i : Int) → Below W6.heap.size W6 W' →
        (Code.region 10 opsFe10 false).wpIn Fence.wide 5 Try.prog (fun e a' w' => (e = .normal ∧ (∃ i : Nat, Below W6.heap.size W6 w' ∧ i ≤ 4 ∧ a'.tmps.size = 132 ∧ a'.defers = [] ∧ a'.eval (.tmp 9) = strV (linesL T) ∧ a'.eval (.tmp 10) = .slice (some ⟨g1, 0, none⟩) (hdH s).many (hdH s).many ∧ a'.eval (.tmp 12) = .int .i64 (k : Int) ∧ a'.eval (.tmp 13) = .int .i64 (i : Int)) ∧ 4 - (intOf (a'.eval (.tmp 13))).toNat < 4 - (intOf (b1.eval (.tmp 13))).toNat)) b W' := by
      intro b W' hz_b hd_b p9 p10 p12 p13 hb'
      refine region_p 3 ?_
      intro K hK
      refine ListK.move (i := 0) (v := .int .i64 (i : Int)) rfl (by simp [p13]) ?_
      refine ListK.bin (i := 1) (u := .int .i64 (i : Int)) (u' := .int .i64 1) (v := .int .i64 ((i + 1 : Nat) : Int)) rfl (by simp [hz_b]) (by simp) (add3 (by omega) (by omega) _) ?_
      refine ListK.assign (i := 2) (v := .int .i64 ((i + 1 : Nat) : Int)) rfl (by simp [hz_b]) ?_
      refine ListK.done (hK _ _ ?_)
      clear hK K
      refine ⟨rfl, ⟨i + 1, hb', by omega, (by simp only [size_put, hz_b]), (by simp only [defers_put, hd_b]), (by simp [p9]), (by simp [p10]), (by simp [p12]), (by simp [hz_b])⟩, ?_⟩
      rw [s13, show (Act.put _ _ _).eval (.tmp 13) = .int .i64 ((i + 1 : Nat) : Int) from (by simp [hz_b])]
      simp only [intOf]
      omega
    refine wpIn_seq (wpIn_block ?_)
    have d1 := (hb9.cell (show Addr.block ⟨g1, k * 2, none⟩ < W6.heap.size from block_lt_of_cell c1)).trans c1
    have d2 := (hb9.cell (show Addr.block ⟨g1, k * 2 + 1, none⟩ < W6.heap.size from block_lt_of_cell c2)).trans c2
    have hbA : Below W9.heap.size W9 (W9.drew.alloc (.cells #[.int .i64 (lo : Int), .int .i64 (hi : Int), .int .i64 ((lo : Int) - 1), .int .i64 ((hi : Int) + 1)] 3)) := (Below.refl W9.heap.size W9).drew.alloc (Nat.le_refl _) _
    have hRA : (fun w : World => w.cell? ⟨g1, k * 2, none⟩ = some (.int .i64 (lo : Int)) ∧ w.cell? ⟨g1, k * 2 + 1, none⟩ = some (.int .i64 (hi : Int))) (W9.drew.alloc (.cells #[.int .i64 (lo : Int), .int .i64 (hi : Int), .int .i64 ((lo : Int) - 1), .int .i64 ((hi : Int) + 1)] 3)) := ⟨(hbA.cell (show Addr.block ⟨g1, k * 2, none⟩ < W9.heap.size from block_lt_of_cell d1)).trans d1, (hbA.cell (show Addr.block ⟨g1, k * 2 + 1, none⟩ < W9.heap.size from block_lt_of_cell d2)).trans d2⟩
    have hce := nI_cell (Whole.new W9.drew 3 #[.int .i64 (lo : Int), .int .i64 (hi : Int), .int .i64 ((lo : Int) - 1), .int .i64 ((hi : Int) + 1)]) hlt
    refine wpIn_seq (region_K (KpR (fun w : World => w.cell? ⟨g1, k * 2, none⟩ = some (.int .i64 (lo : Int)) ∧ w.cell? ⟨g1, k * 2 + 1, none⟩ = some (.int .i64 (hi : Int))) (fun _ => false)) (wideF_plain _) (by kernel_rfl) Try.mixed ?_)
    change AnyK _ _ _ _ 27 (Array.replicate 27 false) _ _
    have hR : (fun w : World => w.cell? ⟨g1, k * 2, none⟩ = some (.int .i64 (lo : Int)) ∧ w.cell? ⟨g1, k * 2 + 1, none⟩ = some (.int .i64 (hi : Int))) W9.drew := ⟨d1, d2⟩
    refine AnyK.move (i := 0) may_o (v := .slice (some ⟨g1, 0, none⟩) (hdH s).many (hdH s).many) (by simp [o10]) hR ?_
    refine AnyK.move (i := 1) may_o (v := .int .i64 (k : Int)) (by simp [o12]) hR ?_
    refine AnyK.index (i := 2) may_o (u := .slice (some ⟨g1, 0, none⟩) (hdH s).many (hdH s).many) (u' := .int .i64 (k : Int)) (v := .pointer (some ⟨g1, k * 2, none⟩)) (by simp [hz_b2]) (by simp [hz_b2]) (fun w => by have := ix40 (b := g1) (o := 0) (c := (hdH s).many) hkl w; rwa [Nat.zero_add] at this) hR ?_
    refine AnyK.field (i := 3) may_o (u := .pointer (some ⟨g1, k * 2, none⟩)) (v := .pointer (some ⟨g1, k * 2, none⟩)) (by simp [hz_b2]) (fun w => fa45_0 w) hR ?_
    refine AnyK.load (i := 4) may_o (p := ⟨g1, k * 2, none⟩) (v := .int .i64 (lo : Int)) (by simp [hz_b2]) (fun w hw => ld3 hw.1) hR ?_
    refine AnyK.move (i := 5) may_o (v := .slice (some ⟨g1, 0, none⟩) (hdH s).many (hdH s).many) (by simp [o10]) hR ?_
    refine AnyK.move (i := 6) may_o (v := .int .i64 (k : Int)) (by simp [o12]) hR ?_
    refine AnyK.index (i := 7) may_o (u := .slice (some ⟨g1, 0, none⟩) (hdH s).many (hdH s).many) (u' := .int .i64 (k : Int)) (v := .pointer (some ⟨g1, k * 2, none⟩)) (by simp [hz_b2]) (by simp [hz_b2]) (fun w => by have := ix40 (b := g1) (o := 0) (c := (hdH s).many) hkl w; rwa [Nat.zero_add] at this) hR ?_
    refine AnyK.field (i := 8) may_o (u := .pointer (some ⟨g1, k * 2, none⟩)) (v := .pointer (some ⟨g1, k * 2 + 1, none⟩)) (by simp [hz_b2]) (fun w => fa45_1 w) hR ?_
    refine AnyK.load (i := 9) may_o (p := ⟨g1, k * 2 + 1, none⟩) (v := .int .i64 (hi : Int)) (by simp [hz_b2]) (fun w hw => ld3 hw.2) hR ?_
    refine AnyK.move (i := 10) may_o (v := .slice (some ⟨g1, 0, none⟩) (hdH s).many (hdH s).many) (by simp [o10]) hR ?_
    refine AnyK.move (i := 11) may_o (v := .int .i64 (k : Int)) (by simp [o12]) hR ?_
    refine AnyK.index (i := 12) may_o (u := .slice (some ⟨g1, 0, none⟩) (hdH s).many (hdH s).many) (u' := .int .i64 (k : Int)) (v := .pointer (some ⟨g1, k * 2, none⟩)) (by simp [hz_b2]) (by simp [hz_b2]) (fun w => by have := ix40 (b := g1) (o := 0) (c := (hdH s).many) hkl w; rwa [Nat.zero_add] at this) hR ?_
    refine AnyK.field (i := 13) may_o (u := .pointer (some ⟨g1, k * 2, none⟩)) (v := .pointer (some ⟨g1, k * 2, none⟩)) (by simp [hz_b2]) (fun w => fa45_0 w) hR ?_
    refine AnyK.load (i := 14) may_o (p := ⟨g1, k * 2, none⟩) (v := .int .i64 (lo : Int)) (by simp [hz_b2]) (fun w hw => ld3 hw.1) hR ?_
    refine AnyK.bin (i := 15) may_o (u := .int .i64 (lo : Int)) (u' := .int .i64 (1)) (v := .int .i64 ((lo : Int) - 1)) (by simp [hz_b2]) (by simp) (fun w => sub3 (by omega) (by omega) w) hR ?_
    refine AnyK.move (i := 16) may_o (v := .slice (some ⟨g1, 0, none⟩) (hdH s).many (hdH s).many) (by simp [o10]) hR ?_
    refine AnyK.move (i := 17) may_o (v := .int .i64 (k : Int)) (by simp [o12]) hR ?_
    refine AnyK.index (i := 18) may_o (u := .slice (some ⟨g1, 0, none⟩) (hdH s).many (hdH s).many) (u' := .int .i64 (k : Int)) (v := .pointer (some ⟨g1, k * 2, none⟩)) (by simp [hz_b2]) (by simp [hz_b2]) (fun w => by have := ix40 (b := g1) (o := 0) (c := (hdH s).many) hkl w; rwa [Nat.zero_add] at this) hR ?_
    refine AnyK.field (i := 19) may_o (u := .pointer (some ⟨g1, k * 2, none⟩)) (v := .pointer (some ⟨g1, k * 2 + 1, none⟩)) (by simp [hz_b2]) (fun w => fa45_1 w) hR ?_
    refine AnyK.load (i := 20) may_o (p := ⟨g1, k * 2 + 1, none⟩) (v := .int .i64 (hi : Int)) (by simp [hz_b2]) (fun w hw => ld3 hw.2) hR ?_
    refine AnyK.bin (i := 21) may_o (u := .int .i64 (hi : Int)) (u' := .int .i64 (1)) (v := .int .i64 ((hi : Int) + 1)) (by simp [hz_b2]) (by simp) (fun w => add3 (by omega) (by omega) w) hR ?_
    refine AnyK.move (i := 23) may_o (v := .int .i64 (i : Int)) (by simp [o13]) hR ?_
    refine AnyK.pick1 (i := 22) (by kernel_rfl) ?_
    replace hR : (fun w : World => w.cell? ⟨g1, k * 2, none⟩ = some (.int .i64 (lo : Int)) ∧ w.cell? ⟨g1, k * 2 + 1, none⟩ = some (.int .i64 (hi : Int))) (W9.drew.alloc (.cells #[.int .i64 (lo : Int), .int .i64 (hi : Int), .int .i64 ((lo : Int) - 1), .int .i64 ((hi : Int) + 1)] 3)) := hRA
    refine StepK.buildG (i := 22) (ps := #[(0, .int .i64 (lo : Int)), (1, .int .i64 (hi : Int)), (2, .int .i64 ((lo : Int) - 1)), (3, .int .i64 ((hi : Int) + 1))]) rfl (by simp [hz_b2]) (bs22_4 _ _ _ _ W9.drew) (fun _ _ => hR) ?_
    refine AnyK.index (i := 24) may_o (u := .slice (some ⟨W9.drew.heap.size, 0, none⟩) 4 4) (u' := .int .i64 (i : Int)) (v := .pointer (some ⟨W9.drew.heap.size, i, none⟩)) (by simp [hz_b2]) (by simp [hz_b2]) (fun w => by have := ix22 (b := W9.drew.heap.size) (o := 0) (c := 4) hlt w; rwa [Nat.zero_add] at this) hR ?_
    refine AnyK.pick1 (i := 25) (by kernel_rfl) ?_
    refine StepK.load (i := 25) (p := ⟨W9.drew.heap.size, i, none⟩) (v := .int .i64 (nI lo hi i)) rfl (by simp [hz_b2]) (ld3 hce) (fun _ h => h) ?_
    refine AnyK.assign (i := 26) may_o (v := .int .i64 (nI lo hi i)) (by simp [hz_b2]) hR ?_
    refine AnyK.done (by kernel_rfl) ?_
    generalize hA : Act.put _ _ _ = b3
    have hz_b3 : b3.tmps.size = 132 := by rw [← hA]; simp only [size_put, hz_b2]
    have x9 : b3.eval (.tmp 9) = strV (linesL T) := by rw [← hA]; exact (by simp [o9])
    have x10 : b3.eval (.tmp 10) = .slice (some ⟨g1, 0, none⟩) (hdH s).many (hdH s).many := by rw [← hA]; exact (by simp [o10])
    have x12 : b3.eval (.tmp 12) = .int .i64 (k : Int) := by rw [← hA]; exact (by simp [o12])
    have x13 : b3.eval (.tmp 13) = .int .i64 (i : Int) := by rw [← hA]; exact (by simp [o13])
    have x14 : b3.eval (.tmp 14) = .int .i64 (nI lo hi i) := by rw [← hA]; exact (by simp [hz_b2])
    have hd_b3 : b3.defers = [] := by rw [← hA]; simp only [defers_put, hd_b2]
    clear hA
    show fe_n.wpIn _ _ _ _ _ _
    refine fe_n_any n t hrm hkl hlt hlo hhi hall rfl hz_b3 hd_b3 x9 x10 x12 x13 x14 (fun a' W' y0 yd y9 y10 y12 y13 hb' => ?_) (fun a' y0 yd y9 y10 y12 y13 => ?_)
    · refine Go.Code.wpIn_mono (fun e a'' w'' hq => ?_) (hgo a' W' y0 yd y9 y10 y12 y13 (hb9.trans ((hbA.trans (hb'.mono hbA.size)).mono hb9.size)))
      obtain ⟨rfl, h1, h2⟩ := hq
      exact ⟨h1, h2⟩
    · refine Go.Code.wpIn_mono (fun e a'' w'' hq => ?_) (hgo a' _ y0 yd y9 y10 y12 y13 (hb9.trans (hbA.mono hb9.size)))
      obtain ⟨rfl, h1, h2⟩ := hq
      exact ⟨h1, h2⟩
  · skip
    refine wpIn_seq (wpIn_seq (region_p 2 ?_))
    intro K hK
    refine ListK.move (i := 0) (v := .int .i64 (i : Int)) rfl (by simp [s13]) ?_
    refine ListK.bin (i := 1) (u := .int .i64 (i : Int)) (u' := .int .i64 4) (v := .bool false) rfl (by simp [hz_b1]) (by simp) (lssF3 (by omega) _) ?_
    refine ListK.done (hK _ _ ?_)
    clear hK K
    refine wpIn_cond (t := false) (by simp [hz_b1]) (wpIn_exit ?_)
    show fe_e.wpIn _ _ _ _ _ _
    unfold fe_e
    refine wpIn_seq (region_p 2 ?_)
    intro K hK
    refine ListK.call (i := 0) (vs := #[]) rfl (enters_of Try.func16 (by kernel_rfl) rfl) (by simp) ((awake_any W9).mono ?_)
    rintro _ W10 ⟨rfl, hb10⟩
    refine ⟨_, rfl, ?_⟩
    refine ListK.assign (i := 1) (v := .bool true) rfl (by simp [hz_b1]) ?_
    refine ListK.done (hK _ _ (wpIn_ret ?_))
    exact bodyPost_ret (v := .bool true) (res1 Try.results4 (by simp [hz_b1])) (by simp only [defers_put, hd_b1]) ⟨rfl, hB.trans ((hb9.trans (hb10.mono hb9.size)).mono hB.size)⟩
end
set_option maxHeartbeats 400000 in
theorem ends_wp (s : Ser) (A Aw : Option Addr) (c cw by_ which : Nat) (lw : List Nat) (W : World) (hby : by_ < 256) (hwh : which < 256) (hs : IntsAt W W.heap.size A s.rd) (hw : WordsAt W W.heap.size Aw lw) :
    Calls Try.prog 4 #[serV s A c, .slice Aw lw.length cw, .int .u8 (by_ : Int), .int .u8 (which : Int)] W (TP W true) := by
  refine (callsIn_wide (n := 5)).1 (callsIn_of_wp Try.func4 body4 trivial ?_ rfl)
  obtain ⟨a, ha⟩ : ∃ a : Act, a = { tmps := #[serV s A c, .slice Aw lw.length cw, .int .u8 (by_ : Int), .int .u8 (which : Int)] ++ Array.replicate (Try.f4.ntmps - (#[serV s A c, .slice Aw lw.length cw, .int .u8 (by_ : Int), .int .u8 (which : Int)] : Array Value).size) undef, defers := [] } := ⟨_, rfl⟩
  have hsz : a.tmps.size = 132 := by rw [ha]; simp [Try.ntmps4]
  have t0 : a.eval (.tmp 0) = serV s A c := by rw [ha]; simp [Act.eval]
  have t1 : a.eval (.tmp 1) = .slice Aw lw.length cw := by rw [ha]; simp [Act.eval]
  have t2 : a.eval (.tmp 2) = .int .u8 (by_ : Int) := by rw [ha]; simp [Act.eval]
  have t3 : a.eval (.tmp 3) = .int .u8 (which : Int) := by rw [ha]; simp [Act.eval]
  have hd_a : a.defers = [] := by rw [ha]
  rw [← ha]
  clear ha
  unfold code4
  refine wpIn_seq (region_p 2 ?_)
  intro K hK
  refine ListK.box (i := 0) (u := serV s A c) rfl (by simp [t0]) (bx24 W _ _ _ _ _) ?_
  refine ListK.assign (i := 1) (v := .bool false) rfl (by simp) ?_
  refine ListK.done (hK _ _ ?_)
  clear hK K
  replace hs : IntsAt (W.alloc (.cells #[.int .i64 s.width, .int .i64 s.step, .slice A s.rd.length c] 24)) W.heap.size A s.rd := hs.below ((Below.refl W.heap.size W).alloc (Nat.le_refl _) _) (Nat.le_refl _)
  replace hw : WordsAt (W.alloc (.cells #[.int .i64 s.width, .int .i64 s.step, .slice A s.rd.length c] 24)) W.heap.size Aw lw := hw.below ((Below.refl W.heap.size W).alloc (Nat.le_refl _) _)
  have w1 := Whole.new W 24 #[.int .i64 s.width, .int .i64 s.step, .slice A s.rd.length c]
  have hb_b1 : Below W.heap.size W (W.alloc (.cells #[.int .i64 s.width, .int .i64 s.step, .slice A s.rd.length c] 24)) := (Below.refl _ W).alloc (Nat.le_refl _) _
  have hB := hb_b1
  generalize hq_b1 : W.heap.size = b1 at *
  generalize W.alloc (.cells #[.int .i64 s.width, .int .i64 s.step, .slice A s.rd.length c] 24) = W1 at *
  have hsz1 := hB.size
  replace hs := hs.more (show b1 ≤ W1.heap.size by omega)
  replace hw := hw.more (show b1 ≤ W1.heap.size by omega)
  generalize hA : Act.put _ _ _ = a1
  have hz_a1 : a1.tmps.size = 132 := by rw [← hA]; simp only [size_put, hsz]
  have u1 : a1.eval (.tmp 1) = .slice Aw lw.length cw := by rw [← hA]; exact (by simp [t1])
  have u2 : a1.eval (.tmp 2) = .int .u8 (by_ : Int) := by rw [← hA]; exact (by simp [t2])
  have u3 : a1.eval (.tmp 3) = .int .u8 (which : Int) := by rw [← hA]; exact (by simp [t3])
  have u4 : a1.eval (.tmp 4) = .pointer (some ⟨b1, 0, none⟩) := by rw [← hA]; exact (by simp [hsz])
  have hd_a1 : a1.defers = [] := by rw [← hA]; simp only [defers_put, hd_a]
  clear hA
  have hrd := ready_any s A c W1 hs
  cases hrb : readyB s
  · rw [hrb] at hrd
    refine wpIn_seq (wpIn_seq (region_p 3 ?_))
    intro K hK
    refine ListK.load (i := 0) (p := ⟨b1, 0, none⟩) (v := serV s A c) rfl (by simp [u4]) (ld24 ⟨w1.cell 0, w1.cell 1, w1.cell 2⟩) ?_
    refine ListK.call (i := 1) (vs := #[serV s A c]) rfl (enters_of Try.func23 (by kernel_rfl) rfl) (by simp [hz_a1]) ((hrd).mono ?_)
    rintro _ W2 ⟨rfl, hb2⟩
    refine ⟨_, rfl, ?_⟩
    refine ListK.un (i := 2) (u := .bool false) (v := .bool true) rfl (by simp [hz_a1]) (not4 _ _) ?_
    refine ListK.done (hK _ _ ?_)
    clear hK K
    refine wpIn_cond (t := true) (by simp [hz_a1]) ?_
    refine wpIn_seq (region_p 2 ?_)
    intro K hK
    refine ListK.call (i := 0) (vs := #[]) rfl (enters_of Try.func16 (by kernel_rfl) rfl) (by simp) ((awake_any W2).mono ?_)
    rintro _ W3 ⟨rfl, hb3⟩
    refine ⟨_, rfl, ?_⟩
    refine ListK.assign (i := 1) (v := .bool true) rfl (by simp [hz_a1]) ?_
    refine ListK.done (hK _ _ (wpIn_ret ?_))
    refine bodyPost_ret (v := .bool true) (res1 Try.results4 (by simp [hz_a1])) (by simp only [defers_put, hd_a1]) ⟨rfl, ?_⟩
    rw [hq_b1]
    exact (hB.trans (hb2.mono (by omega))).trans (hb3.mono (by have := hb2.size; omega))
  rw [hrb] at hrd
  have hrb2 : s.rd.length ≤ 45 ∧ faultS s = 0 := by simpa [readyB] using hrb
  have n := serN hrb2.2
  have hfl := file_len n
  refine wpIn_seq (wpIn_seq (region_p 3 ?_))
  intro K hK
  refine ListK.load (i := 0) (p := ⟨b1, 0, none⟩) (v := serV s A c) rfl (by simp [u4]) (ld24 ⟨w1.cell 0, w1.cell 1, w1.cell 2⟩) ?_
  refine ListK.call (i := 1) (vs := #[serV s A c]) rfl (enters_of Try.func23 (by kernel_rfl) rfl) (by simp [hz_a1]) ((hrd).mono ?_)
  rintro _ W2 ⟨rfl, hb2⟩
  refine ⟨_, rfl, ?_⟩
  refine ListK.un (i := 2) (u := .bool true) (v := .bool false) rfl (by simp [hz_a1]) (not4 _ _) ?_
  refine ListK.done (hK _ _ ?_)
  clear hK K
  refine wpIn_cond (t := false) (by simp [hz_a1]) (wpIn_skip ?_)
  generalize hA : Act.put _ _ _ = a2
  have hz_a2 : a2.tmps.size = 132 := by rw [← hA]; simp only [size_put, hz_a1]
  have v1 : a2.eval (.tmp 1) = .slice Aw lw.length cw := by rw [← hA]; exact (by simp [u1])
  have v2 : a2.eval (.tmp 2) = .int .u8 (by_ : Int) := by rw [← hA]; exact (by simp [u2])
  have v3 : a2.eval (.tmp 3) = .int .u8 (which : Int) := by rw [← hA]; exact (by simp [u3])
  have v4 : a2.eval (.tmp 4) = .pointer (some ⟨b1, 0, none⟩) := by rw [← hA]; exact (by simp [u4])
  have hd_a2 : a2.defers = [] := by rw [← hA]; simp only [defers_put, hd_a1]
  clear hA
  have w2 := w1.below hb2 w1.lt
  have hs2 := (hs.below hb2 (Nat.le_refl _)).more hb2.size
  have hw2 := (hw.below hb2).more hb2.size
  have hB2 := hB.trans (hb2.mono (by omega))
  have hz2 := hB2.size
  rw [← hq_b1] at hB2
  refine wpIn_seq (region_p 7 ?_)
  intro K hK
  refine ListK.load (i := 0) (p := ⟨b1, 0, none⟩) (v := serV s A c) rfl (by simp [v4]) (ld24 ⟨w2.cell 0, w2.cell 1, w2.cell 2⟩) ?_
  refine ListK.call (i := 1) (vs := #[serV s A c]) rfl (enters_of Try.func22 (by kernel_rfl) rfl) (by simp [hz_a2]) ((refRecords_any s A c W2 hrb2.2 hs2).mono ?_)
  rintro _ W3 ⟨v3, rfl, os3⟩
  obtain ⟨A3, c3, rfl, hst3⟩ := os3.strs
  refine ⟨_, rfl, ?_⟩
  refine ListK.move (i := 2) (v := .slice Aw lw.length cw) rfl (by simp [v1]) ?_
  refine ListK.move (i := 3) (v := .int .u8 (by_ : Int)) rfl (by simp [v2]) ?_
  refine ListK.call (i := 4) (vs := #[.slice A3 (fileL s).length c3, .slice Aw lw.length cw, .int .u8 (by_ : Int)]) rfl (enters_of Try.func24 (by kernel_rfl) rfl) (by simp [hz_a2]) ((torn_any A3 Aw c3 cw by_ (fileL s) lw W3 (by omega) hfl.2 hby hst3 ((hw2.below os3.low).more os3.low.size)).mono ?_)
  rintro _ W4 ⟨v4, T, rfl, os4, tn⟩
  obtain ⟨A4, c4, rfl, hst4⟩ := os4.strs
  have t := tornF n tn
  have hTl := t.len
  have hTb := t.bytes
  refine ⟨_, rfl, ?_⟩
  refine ListK.call (i := 5) (vs := #[.slice A4 T.length c4]) rfl (enters_of Try.func21 (by kernel_rfl) rfl) (by simp [hz_a2]) ((refLines_any A4 c4 T (by omega) (by omega) W4 hst4).mono ?_)
  rintro _ W4x ⟨rfl, hWe⟩
  have hWf := hWe.symm
  subst hWf
  refine ⟨_, rfl, ?_⟩
  refine ListK.assign (i := 6) (v := strV (linesL T)) rfl (by simp [hz_a2]) ?_
  refine ListK.done (hK _ _ ?_)
  clear hK K
  have hb24 := os3.low.trans (os4.low.mono os3.low.size)
  have w4 := w2.below hb24 w2.lt
  have hs4 := (hs2.below hb24 (Nat.le_refl _)).more hb24.size
  have hB4 := hB2.trans (hb24.mono hB2.size)
  generalize hA : Act.put _ _ _ = a3
  have hz_a3 : a3.tmps.size = 132 := by rw [← hA]; simp only [size_put, hz_a2]
  have q3 : a3.eval (.tmp 3) = .int .u8 (which : Int) := by rw [← hA]; exact (by simp [v3])
  have q4 : a3.eval (.tmp 4) = .pointer (some ⟨b1, 0, none⟩) := by rw [← hA]; exact (by simp [v4])
  have q9 : a3.eval (.tmp 9) = strV (linesL T) := by rw [← hA]; exact (by simp [hz_a2])
  have hd_a3 : a3.defers = [] := by rw [← hA]; simp only [defers_put, hd_a2]
  clear hA
  have h0 := mend_torn n t.sub t.hd (by omega)
  obtain ⟨m, _, _, hmR, _, hrm⟩ := read_torn n t.sub t.hd (by omega)
  refine wpIn_seq (region_p 8 ?_)
  intro K hK
  refine ListK.move (i := 0) (v := strV (linesL T)) rfl (by simp [q9]) ?_
  refine ListK.call (i := 1) (vs := #[strV (linesL T)]) rfl (enters_of Try.func26 (by kernel_rfl) rfl) (by simp [hz_a3]) ((bytes_any (linesL T) (by omega) W4).mono ?_)
  rintro _ V6 ⟨v6, rfl, ob6⟩
  obtain ⟨A6, c6, rfl, hc6, hy6⟩ := ob6.bytes
  refine ⟨_, rfl, ?_⟩
  refine ListK.call (i := 2) (vs := #[.slice A6 (linesL T).length c6]) rfl (enters_of Try.func25 (by kernel_rfl) rfl) (by simp [hz_a3]) ((mendX_any A6 (linesL T) c6 V6 hc6 (by omega) hy6).mono ?_)
  rintro e W6 hmp
  obtain ⟨hb6, B6, n6, d6, rfl, hx6, hm6⟩ := hmp
  refine ⟨_, rfl, ?_⟩
  refine ListK.move (i := 3) (v := .tuple #[.slice B6 n6 d6, .int .i64 (mendC (linesL T))]) rfl (by simp [hz_a3]) ?_
  refine ListK.extract (i := 4) (u := .tuple #[.slice B6 n6 d6, .int .i64 (mendC (linesL T))]) (v := .slice B6 n6 d6) rfl (by simp [hz_a3]) (ex0 _ _ _) ?_
  refine ListK.extract (i := 5) (u := .tuple #[.slice B6 n6 d6, .int .i64 (mendC (linesL T))]) (v := .int .i64 (mendC (linesL T))) rfl (by simp [hz_a3]) (ex1 _ _ _) ?_
  refine ListK.assign (i := 6) (v := .slice B6 n6 d6) rfl (by simp [hz_a3]) ?_
  refine ListK.assign (i := 7) (v := .int .i64 (mendC (linesL T))) rfl (by simp [hz_a3]) ?_
  refine ListK.done (hK _ _ ?_)
  clear hK K
  have hb46 := ob6.low.trans (hb6.mono ob6.low.size)
  have hB6 := hB4.trans (hb46.mono hB4.size)
  obtain ⟨hd1, m1, g1, f1, hr1, _, hh1, rfl, rfl, rfl, row1, hf1⟩ := hm6 h0
  rw [hrm] at hr1
  cases hr1
  rw [h0]
  exact fe_b_any n t hrm (fun k hk => ⟨_, goes_ser n hmR hk⟩) hwh row1 hf1 (w4.below hb46 w4.lt) (by simp only [size_put, hz_a3]) (by simp only [defers_put, hd_a3]) (by simp [q3]) (by simp [q4]) (by simp [q9]) (by simp [hz_a3]) (by simp [hz_a3]) hB6
end Go.Proofs.YtmdlmmfbcnkanaaR
