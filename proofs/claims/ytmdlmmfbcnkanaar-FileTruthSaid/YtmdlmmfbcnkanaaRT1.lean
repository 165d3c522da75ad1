/- Texts for a law of package file, behind the shared ones, part 1: the law's own contracts and plain words. -/
import Derived.Test.YtmdlmmfbcnkanaaRA4

set_option linter.unusedVariables false
set_option maxRecDepth 10000

namespace Go.Proofs.YtmdlmmfbcnkanaaR
open Go.RowKit Go.Shelf
section
variable {P : Program} {ops : Array Oper} {K : Act → World → Prop} {k i d : Nat} {a : Act} {w w' : World} {ty : TypeId} {pos : String} {aft : Array Edge} {v : Value} {gd : Option (Nat × Bool)}
theorem ListK.look {t : TypeId} {x y : Operand} {u u' : Value} (hi : ops[i]? = some ⟨some d, .lookup t x y false, ty, pos, aft, gd⟩) (hx : a.eval x = u) (hy : a.eval y = u') (hv : (Instr.lookup t u u' false).run P w = .ok v w')
    (h : ListK P ops K k (i + 1) (a.put (some d) v) w') (hw : Region.wanted ⟨some d, .lookup t x y false, ty, pos, aft, gd⟩ (yielded ops a.tmps) = true := by rfl) : ListK P ops K (k + 1) i a w := ListK.valW hi hw (by simp [execOp, hx, hy, hv]) h
end
/-- A slice of words. -/
def WordsAt (w : World) (B : Nat) (A : Option Addr) (l : List Nat) : Prop := ∀ (k x : Nat), l[k]? = some x → x < 65536 ∧ ∃ b off, A = some ⟨b, off, none⟩ ∧ b < B ∧ w.cell? ⟨b, off + k, none⟩ = some (.int .u16 x)
theorem neqT {x y : Operand} {m n : Int} (h : m ≠ n) (w : World) : (do eqGuard .neq 3 x y (.int .i64 m) (.int .i64 n); binOp .neq 3 (.int .i64 m) (.int .i64 n) : Sem Value).run Try.prog w = .ok (.bool true) w := by
  rw [neq3 w]
  simp [h]
theorem eql27F {x y : Operand} {m n : Int} (h : m ≠ n) (w : World) : (do eqGuard .eql 27 x y (.int .i64 m) (.int .i64 n); binOp .eql 27 (.int .i64 m) (.int .i64 n) : Sem Value).run Try.prog w = .ok (.bool false) w := by
  go_simp
section
variable {κ : Type} [DecidableEq κ]
theorem getK_mem {k : κ} {v : Value} : ∀ {l : List (κ × Value)}, getK l k = some v → (k, v) ∈ l
  | [], h => by simp [getK_nil] at h
  | p :: l, h => by
    rw [getK_cons] at h
    split at h
    · rename_i e
      cases h
      simp [e]
    · exact List.mem_cons_of_mem _ (getK_mem h)
end
section
variable {κ : Type} [DecidableEq κ]
variable {kv : κ → Value} {W : World} {M : Nat} {l : List (κ × Value)} {tm tk te : TypeId}
theorem MapAt.look (L : KeyLaw tm tk te kv) (h : MapAt kv W M l) (k : κ) {z : Value} (hz : ∀ w, (zeroValue te).run Try.prog w = .ok z w) :
    (Instr.lookup tm (.map (some M)) (kv k) false).run Try.prog W = .ok ((getK l k).getD z) W := by
  obtain ⟨es, ck, h1, h2, _⟩ := h.ex
  have hf := findK L k W es.toList l h2
  unfold getK
  cases hx : ixK k l 0 with
  | none =>
    rw [hx] at hf
    simp only [Instr.lookup, Sem.run_bind, L.und, Result.andThen, getObj_map h1, Sem.run_pure, L.chk, hf, hz]
    simp
  | some p =>
    rw [hx] at hf
    simp only [Instr.lookup, Sem.run_bind, L.und, Result.andThen, getObj_map h1, Sem.run_pure, L.chk, hf]
    simp
end
section
variable {W0 : World} {b2 b3 b4 ba M : Nat} {Ds : List Nat} {m : List (List UInt8)}
theorem dig_nat {b : UInt8} (h : isDig b = true) : (dig b : Nat) = b.toNat - 48 ∧ dig b ≤ 9 := by
  simp [isDig] at h
  have : dig b = b.toNat - 48 := by
    unfold dig
    rw [UInt8.toNat_sub_of_le _ _ (by rw [UInt8.le_iff_toNat_le]; exact h.1)]
    rfl
  omega
end
end Go.Proofs.YtmdlmmfbcnkanaaR
namespace Go.Proofs.YtmdlmmfbcnkanaaR
open Go.RowKit Go.Shelf
noncomputable def opsFa0 : Array Oper := (Try.f20.body.bind (regionOf 0)).getD #[]
noncomputable def opsFa1 : Array Oper := (Try.f20.body.bind (regionOf 1)).getD #[]
noncomputable def code20 : Code := (.seq (.region 0 opsFa0 false) (.seq (.region 1 opsFa1 false) .ret))
theorem body20 : Try.f20.body = some code20 := by kernel_rfl
theorem fault_any (s : Ser) (A : Option Addr) (c : Nat) (W : World) (hl : s.rd.length ≤ 1000000) (hs : IntsAt W W.heap.size A s.rd) : Calls Try.prog 20 #[serV s A c] W (EvP W (.int .i64 (faultS s))) := by
  refine (callsIn_wide (n := 5)).1 (callsIn_of_wp Try.func20 body20 trivial ?_ rfl)
  obtain ⟨a, ha⟩ : ∃ a : Act, a = { tmps := #[serV s A c] ++ Array.replicate (Try.f20.ntmps - (#[serV s A c] : Array Value).size) undef, defers := [] } := ⟨_, rfl⟩
  have hsz : a.tmps.size = 5 := by rw [ha]; simp [Try.ntmps20]
  have t0 : a.eval (.tmp 0) = serV s A c := by rw [ha]; simp [Act.eval]
  have hd_a : a.defers = [] := by rw [ha]
  rw [← ha]
  clear ha
  unfold code20
  refine wpIn_seq (region_p 2 ?_)
  intro K hK
  refine ListK.box (i := 0) (u := serV s A c) rfl (by simp [t0]) (bx24 W _ _ _ _ _) ?_
  refine ListK.assign (i := 1) (v := .int .i64 0) rfl (by simp) ?_
  refine ListK.done (hK _ _ ?_)
  clear hK K
  replace hs : IntsAt (W.alloc (.cells #[.int .i64 s.width, .int .i64 s.step, .slice A s.rd.length c] 24)) W.heap.size A s.rd := hs.below ((Below.refl W.heap.size W).alloc (Nat.le_refl _) _) (Nat.le_refl _)
  have w1 := Whole.new W 24 #[.int .i64 s.width, .int .i64 s.step, .slice A s.rd.length c]
  have hb_b1 : Below W.heap.size W (W.alloc (.cells #[.int .i64 s.width, .int .i64 s.step, .slice A s.rd.length c] 24)) := (Below.refl _ W).alloc (Nat.le_refl _) _
  have hB := hb_b1
  generalize hq_b1 : W.heap.size = b1 at *
  generalize W.alloc (.cells #[.int .i64 s.width, .int .i64 s.step, .slice A s.rd.length c] 24) = W1 at *
  have hsz1 := hB.size
  generalize hA : Act.put _ _ _ = a1
  have hz_a1 : a1.tmps.size = 5 := by rw [← hA]; simp only [size_put, hsz]
  have u1 : a1.eval (.tmp 1) = .pointer (some ⟨b1, 0, none⟩) := by rw [← hA]; exact (by simp [hsz])
  have hd_a1 : a1.defers = [] := by rw [← hA]; simp only [defers_put, hd_a]
  clear hA
  refine wpIn_seq (region_p 3 ?_)
  intro K hK
  refine ListK.load (i := 0) (p := ⟨b1, 0, none⟩) (v := serV s A c) rfl (by simp [u1]) (ld24 ⟨w1.cell 0, w1.cell 1, w1.cell 2⟩) ?_
  refine ListK.call (i := 1) (vs := #[serV s A c]) rfl (enters_of Try.func35 (by kernel_rfl) rfl) (by simp [hz_a1]) ((refFault_any s A c W1 hl (hs.more (by omega))).mono ?_)
  rintro _ W2 ⟨rfl, hb2⟩
  refine ⟨_, rfl, ?_⟩
  refine ListK.assign (i := 2) (v := .int .i64 (faultS s)) rfl (by simp [hz_a1]) ?_
  refine ListK.done (hK _ _ (wpIn_ret ?_))
  exact bodyPost_ret (v := .int .i64 (faultS s)) (res1 Try.results20 (by simp [hz_a1])) (by simp only [defers_put, hd_a1]) ⟨rfl, by rw [hq_b1]; exact hB.trans (hb2.mono (by omega))⟩
noncomputable def opsSh0 : Array Oper := (Try.f15.body.bind (regionOf 0)).getD #[]
noncomputable def opsSh1 : Array Oper := (Try.f15.body.bind (regionOf 1)).getD #[]
noncomputable def code15 : Code := (.seq (.region 0 opsSh0 false) (.seq (.region 1 opsSh1 false) .ret))
theorem body15 : Try.f15.body = some code15 := by kernel_rfl
theorem short_any (s : Ser) (A : Option Addr) (c : Nat) (W : World) : Calls Try.prog 15 #[serV s A c] W (EvP W (.bool (decide ((s.rd.length : Int) ≤ 45)))) := by
  refine (callsIn_wide (n := 5)).1 (callsIn_of_wp Try.func15 body15 trivial ?_ rfl)
  obtain ⟨a, ha⟩ : ∃ a : Act, a = { tmps := #[serV s A c] ++ Array.replicate (Try.f15.ntmps - (#[serV s A c] : Array Value).size) undef, defers := [] } := ⟨_, rfl⟩
  have hsz : a.tmps.size = 7 := by rw [ha]; simp [Try.ntmps15]
  have t0 : a.eval (.tmp 0) = serV s A c := by rw [ha]; simp [Act.eval]
  have hd_a : a.defers = [] := by rw [ha]
  rw [← ha]
  clear ha
  unfold code15
  refine wpIn_seq (region_p 2 ?_)
  intro K hK
  refine ListK.box (i := 0) (u := serV s A c) rfl (by simp [t0]) (bx24 W _ _ _ _ _) ?_
  refine ListK.assign (i := 1) (v := .bool false) rfl (by simp) ?_
  refine ListK.done (hK _ _ ?_)
  clear hK K
  have w1 := Whole.new W 24 #[.int .i64 s.width, .int .i64 s.step, .slice A s.rd.length c]
  have hb_b1 : Below W.heap.size W (W.alloc (.cells #[.int .i64 s.width, .int .i64 s.step, .slice A s.rd.length c] 24)) := (Below.refl _ W).alloc (Nat.le_refl _) _
  have hB := hb_b1
  generalize hq_b1 : W.heap.size = b1 at *
  generalize W.alloc (.cells #[.int .i64 s.width, .int .i64 s.step, .slice A s.rd.length c] 24) = W1 at *
  generalize hA : Act.put _ _ _ = a1
  have hz_a1 : a1.tmps.size = 7 := by rw [← hA]; simp only [size_put, hsz]
  have u1 : a1.eval (.tmp 1) = .pointer (some ⟨b1, 0, none⟩) := by rw [← hA]; exact (by simp [hsz])
  have hd_a1 : a1.defers = [] := by rw [← hA]; simp only [defers_put, hd_a]
  clear hA
  refine wpIn_seq (region_p 5 ?_)
  intro K hK
  refine ListK.field (i := 0) (u := .pointer (some ⟨b1, 0, none⟩)) (v := .pointer (some ⟨b1, 2, none⟩)) rfl (by simp [u1]) (fa24_2 _) ?_
  refine ListK.load (i := 1) (p := ⟨b1, 2, none⟩) (v := .slice A s.rd.length c) rfl (by simp [hz_a1]) (ld22 (w1.cell 2)) ?_
  refine ListK.len (i := 2) (u := .slice A s.rd.length c) (v := .int .i64 s.rd.length) rfl (by simp [hz_a1]) (ln22 _ _ _ _ _) rfl ?_
  refine ListK.bin (i := 3) (u := .int .i64 s.rd.length) (u' := .int .i64 45) (v := .bool (decide ((s.rd.length : Int) ≤ 45))) rfl (by simp [hz_a1]) (by simp) (leq3 _) ?_
  refine ListK.assign (i := 4) (v := .bool (decide ((s.rd.length : Int) ≤ 45))) rfl (by simp [hz_a1]) ?_
  refine ListK.done (hK _ _ (wpIn_ret ?_))
  exact bodyPost_ret (v := .bool (decide ((s.rd.length : Int) ≤ 45))) (res1 Try.results15 (by simp [hz_a1])) (by simp only [defers_put, hd_a1]) ⟨rfl, by rw [hq_b1]; exact hB⟩
section
attribute [local irreducible] AnyK StepK
end
end Go.Proofs.YtmdlmmfbcnkanaaR
namespace Go.Proofs.YtmdlmmfbcnkanaaR
open Go.RowKit Go.Shelf
theorem ld66 {w : World} {p : Addr} {v : Value} (h : w.cell? p = some v) : (Instr.loadAt 66 (.pointer (some p))).run Try.prog w = .ok v w := by go_simp
theorem ln38 (A : Option Addr) (n c : Nat) (t : TypeId) (w : World) : (builtin .len #[38] t #[false] #[.slice A n c]).run Try.prog w = .ok (.value (.int .i64 (n : Int))) w := by go_simp
theorem ix38 {b o n c : Nat} {i : Nat} (h : i < n) (w : World) : (Instr.indexAt 38 (.slice (some ⟨b, o, none⟩) n c) (.int .i64 i)).run Try.prog w = .ok (.pointer (some ⟨b, o + i, none⟩)) w := by go_simp
theorem cv66 {n : Nat} (h : n < 65536) (w : World) : (convert 66 3 (.int .u16 (n : Int))).run Try.prog w = .ok (.int .i64 (n : Int)) w := by
  have h2 := IntWalk.i64_in (n : Int) (by omega)
  go_simp
theorem sl36L {b o n c k : Nat} (h : k ≤ n) (h2 : n ≤ c) (hc : k < c) (w : World) : (Instr.sliceAt 36 (.slice (some ⟨b, o, none⟩) n c) (some (.int .i64 k)) none none).run Try.prog w = .ok (.slice (some ⟨b, o + k, none⟩) (n - k) (c - k)) w := by
  go_simp
  omega
theorem sl36H {b o n c k : Nat} (h : k ≤ n) (h2 : n ≤ c) (w : World) : (Instr.sliceAt 36 (.slice (some ⟨b, o, none⟩) n c) none (some (.int .i64 k)) none).run Try.prog w = .ok (.slice (some ⟨b, o, none⟩) k c) w := by
  go_simp
  omega
noncomputable def opsWd0 : Array Oper := (Try.f29.body.bind (regionOf 0)).getD #[]
noncomputable def opsWd1 : Array Oper := (Try.f29.body.bind (regionOf 1)).getD #[]
noncomputable def opsWd2 : Array Oper := (Try.f29.body.bind (regionOf 2)).getD #[]
noncomputable def opsWd3 : Array Oper := (Try.f29.body.bind (regionOf 3)).getD #[]
noncomputable def code29 : Code := (.seq (.region 0 opsWd0 false) (.seq (.seq (.region 1 opsWd1 false) (.cond (.tmp 7) (.seq (.region 2 opsWd2 false) .ret) .skip)) (.seq (.region 3 opsWd3 false) .ret)))
theorem body29 : Try.f29.body = some code29 := by kernel_rfl
theorem word_any (A : Option Addr) (lw : List Nat) (c i : Nat) (W : World) (hi : i ≤ 100000) (hs : WordsAt W W.heap.size A lw) : Calls Try.prog 29 #[.slice A lw.length c, .int .i64 (i : Int)] W fun e w' => ∃ n : Nat, e = .returned (.int .i64 (n : Int)) ∧ n < 65536 ∧ w' = W := by
  refine (callsIn_wide (n := 5)).1 (callsIn_of_wp Try.func29 body29 trivial ?_ rfl)
  obtain ⟨a, ha⟩ : ∃ a : Act, a = { tmps := #[.slice A lw.length c, .int .i64 (i : Int)] ++ Array.replicate (Try.f29.ntmps - (#[.slice A lw.length c, .int .i64 (i : Int)] : Array Value).size) undef, defers := [] } := ⟨_, rfl⟩
  have hsz : a.tmps.size = 16 := by rw [ha]; simp [Try.ntmps29]
  have t0 : a.eval (.tmp 0) = .slice A lw.length c := by rw [ha]; simp [Act.eval]
  have t1 : a.eval (.tmp 1) = .int .i64 (i : Int) := by rw [ha]; simp [Act.eval]
  have hd_a : a.defers = [] := by rw [ha]
  rw [← ha]
  clear ha
  unfold code29
  refine wpIn_seq (region_p 1 ?_)
  intro K hK
  refine ListK.assign (i := 0) (v := .int .i64 0) rfl (by simp) ?_
  refine ListK.done (hK _ _ ?_)
  clear hK K
  generalize hA : Act.put _ _ _ = a1
  have hz_a1 : a1.tmps.size = 16 := by rw [← hA]; simp only [size_put, hsz]
  have u0 : a1.eval (.tmp 0) = .slice A lw.length c := by rw [← hA]; exact (by simp [t0])
  have u1 : a1.eval (.tmp 1) = .int .i64 (i : Int) := by rw [← hA]; exact (by simp [t1])
  have hd_a1 : a1.defers = [] := by rw [← hA]; simp only [defers_put, hd_a]
  clear hA
  by_cases h0 : lw.length = 0
  · skip
    refine wpIn_seq (wpIn_seq (region_p 3 ?_))
    intro K hK
    refine ListK.move (i := 0) (v := .slice A lw.length c) rfl (by simp [u0]) ?_
    refine ListK.len (i := 1) (u := .slice A lw.length c) (v := .int .i64 lw.length) rfl (by simp [hz_a1]) (ln38 _ _ _ _ _) rfl ?_
    refine ListK.bin (i := 2) (u := .int .i64 lw.length) (u' := .int .i64 0) (v := .bool true) rfl (by simp [hz_a1]) (by simp) (eql3T (by omega) _) ?_
    refine ListK.done (hK _ _ ?_)
    clear hK K
    refine wpIn_cond (t := true) (by simp [hz_a1]) ?_
    refine wpIn_seq (region_p 1 ?_)
    intro K hK
    refine ListK.assign (i := 0) (v := .int .i64 0) rfl (by simp) ?_
    refine ListK.done (hK _ _ (wpIn_ret ?_))
    simp only [Exit.then]
    refine bodyPost_ret (v := .int .i64 0) (res1 Try.results29 (by simp [hz_a1])) (by simp only [defers_put, hd_a1]) ?_
    exact ⟨0, rfl, by omega, rfl⟩
  · skip
    refine wpIn_seq (wpIn_seq (region_p 3 ?_))
    intro K hK
    refine ListK.move (i := 0) (v := .slice A lw.length c) rfl (by simp [u0]) ?_
    refine ListK.len (i := 1) (u := .slice A lw.length c) (v := .int .i64 lw.length) rfl (by simp [hz_a1]) (ln38 _ _ _ _ _) rfl ?_
    refine ListK.bin (i := 2) (u := .int .i64 lw.length) (u' := .int .i64 0) (v := .bool false) rfl (by simp [hz_a1]) (by simp) (eql3F (by omega) _) ?_
    refine ListK.done (hK _ _ ?_)
    clear hK K
    refine wpIn_cond (t := false) (by simp [hz_a1]) (wpIn_skip ?_)
    generalize hA : Act.put _ _ _ = a2
    have hz_a2 : a2.tmps.size = 16 := by rw [← hA]; simp only [size_put, hz_a1]
    have v0 : a2.eval (.tmp 0) = .slice A lw.length c := by rw [← hA]; exact (by simp [u0])
    have v1 : a2.eval (.tmp 1) = .int .i64 (i : Int) := by rw [← hA]; exact (by simp [u1])
    have hd_a2 : a2.defers = [] := by rw [← hA]; simp only [defers_put, hd_a1]
    clear hA
    have hlt := Nat.mod_lt i (show 0 < lw.length by omega)
    have hx := List.getElem?_eq_getElem hlt
    obtain ⟨hx6, b, off, rfl, hb, hc⟩ := hs (i % lw.length) _ hx
    refine wpIn_seq (region_p 9 ?_)
    intro K hK
    refine ListK.move (i := 0) (v := .slice (some ⟨b, off, none⟩) lw.length c) rfl (by simp [v0]) ?_
    refine ListK.move (i := 1) (v := .int .i64 (i : Int)) rfl (by simp [v1]) ?_
    refine ListK.move (i := 2) (v := .slice (some ⟨b, off, none⟩) lw.length c) rfl (by simp [v0]) ?_
    refine ListK.len (i := 3) (u := .slice (some ⟨b, off, none⟩) lw.length c) (v := .int .i64 lw.length) rfl (by simp [hz_a2]) (ln38 _ _ _ _ _) rfl ?_
    refine ListK.bin (i := 4) (u := .int .i64 (i : Int)) (u' := .int .i64 lw.length) (v := .int .i64 ((i % lw.length : Nat) : Int)) rfl (by simp [hz_a2]) (by simp [hz_a2]) (rem3r (by omega) (by omega) rfl _) ?_
    refine ListK.index (i := 5) (u := .slice (some ⟨b, off, none⟩) lw.length c) (u' := .int .i64 ((i % lw.length : Nat) : Int)) (v := .pointer (some ⟨b, off + i % lw.length, none⟩)) rfl (by simp [hz_a2]) (by simp [hz_a2]) (ix38 hlt _) ?_
    refine ListK.load (i := 6) (p := ⟨b, off + i % lw.length, none⟩) (v := .int .u16 (lw[i % lw.length] : Int)) rfl (by simp [hz_a2]) (ld66 (hc)) ?_
    refine ListK.conv (i := 7) (u := .int .u16 (lw[i % lw.length] : Int)) (v := .int .i64 (lw[i % lw.length] : Int)) rfl (by simp [hz_a2]) (cv66 hx6 _) ?_
    refine ListK.assign (i := 8) (v := .int .i64 (lw[i % lw.length] : Int)) rfl (by simp [hz_a2]) ?_
    refine ListK.done (hK _ _ (wpIn_ret ?_))
    refine bodyPost_ret (v := .int .i64 (lw[i % lw.length] : Int)) (res1 Try.results29 (by simp [hz_a2])) (by simp only [defers_put, hd_a2]) ?_
    exact ⟨_, rfl, hx6, rfl⟩
theorem app36n_run {W0 W : World} {v : Value} {L ys : List (List UInt8)} {A : Option Addr} {c : Nat} {ty : TypeId} (h : OS W0 v L W) (hs : StrsAt W W.heap.size A ys) (hL : L.length ≤ 100000) (hy : ys.length ≤ 100000) :
    ∃ v' w', (Builtin.append_ #[36, 36] ty #[v, .slice A ys.length c]).run Try.prog W = .ok v' w' ∧ OS W0 v' (L ++ ys) w' := by
  obtain ⟨i0, hi0, hi1, hi2, hi3⟩ := info_parts Try.info9
  by_cases hm : ys = []
  · subst hm
    refine ⟨v, W, ?_, by simpa using h⟩
    rcases h.own.2 with ⟨rfl, h0⟩ | ⟨g, cap, cur, rfl, hb, hg, hc, _⟩
    · cases A <;> simp [Builtin.append_, run_underlying Try.und36, sizeOf, typeInfo, hi0, Builtin.lenOf, Builtin.firstCells, loadCells, loadCellsFrom]
    · cases A <;> simp [Builtin.append_, run_underlying Try.und36, sizeOf, typeInfo, hi0, Builtin.lenOf, Builtin.firstCells, hc, storeCells, loadCells, loadCellsFrom]
  · have hpos : 0 < ys.length := List.length_pos_iff.2 hm
    obtain ⟨b, off, rfl, _, _⟩ := hs 0 ys[0] (List.getElem?_eq_getElem hpos)
    obtain ⟨g, cap, w', hr, h2, h3, h4, _⟩ := run_append_lies (P := Try.prog) W 36 ty W0.heap.size 9 i0 (strV []) 1 16 Try.und36 hi0 hi1 hi2 hi3 rfl (by omega) v L.length (L.map strV) h.own ⟨b, off, none⟩ ys.length c (ys.map strV) (by simp)
      (fun j u hu => by
        simp only [List.getElem?_map, Option.map_eq_some_iff] at hu
        obtain ⟨x, hx, rfl⟩ := hu
        obtain ⟨b', o', e, _, hc⟩ := hs j x hx
        cases e
        rw [addr_add]
        exact hc) (fun u hu => by
          obtain ⟨x, _, rfl⟩ := List.mem_map.1 hu
          rfl) hpos (by unfold maxLen; omega) (by omega) h.low.size W.heap.size rfl
    refine ⟨_, w', hr, h.low.grown h3 h.low.size (fun k e => (h.own.lt k e).1), ?_⟩
    rw [List.length_append, List.map_append]
    exact h2
theorem OS.strs2 {W0 W : World} {v : Value} {L : List (List UInt8)} (h : OS W0 v L W) (hne : L ≠ []) : ∃ g c, v = .slice (some ⟨g, 0, none⟩) L.length c ∧ L.length ≤ c ∧ StrsAt W W.heap.size (some ⟨g, 0, none⟩) L := by
  obtain ⟨A, c, rfl, hs⟩ := h.strs
  rcases h.own.2 with ⟨h0, h1⟩ | ⟨g, cap, cur, h0, hb, hg, h1, _⟩
  · exact (hne (List.eq_nil_of_length_eq_zero h1)).elim
  · cases h0
    exact ⟨g, _, rfl, h1, hs⟩
theorem StrsAt.drop {w : World} {B b off : Nat} {L : List (List UInt8)} (k : Nat) (h : StrsAt w B (some ⟨b, off, none⟩) L) : StrsAt w B (some ⟨b, off + k, none⟩) (L.drop k) := by
  intro i l hl
  rw [List.getElem?_drop] at hl
  obtain ⟨b', o', e, h1, h2⟩ := h (k + i) l hl
  cases e
  exact ⟨b, off + k, rfl, h1, by rw [Nat.add_assoc]; exact h2⟩
theorem StrsAt.take {w : World} {B : Nat} {A : Option Addr} {L : List (List UInt8)} (k : Nat) (h : StrsAt w B A L) : StrsAt w B A (L.take k) := by
  intro i l hl
  rw [List.getElem?_take] at hl
  split at hl
  · exact h i l hl
  · cases hl
end Go.Proofs.YtmdlmmfbcnkanaaR
namespace Go.Proofs.YtmdlmmfbcnkanaaR
open Go.RowKit Go.Shelf Go.ChangeShapes Go.WideShapes
section
variable {H : Type} {enc : TypeId × Value → H} {W : World} {r : Reach} {b0 : Nat}
theorem c66 : Try.prog.cellsOf 66 = 1 := by kernel_rfl
set_option maxRecDepth 100000 in
theorem open_words {v : Value} {d : DataW H} {ps : List MemPlace} (hval : Value.okWide Try.prog W r b0 38 v) (hd : DataW.Trod enc Try.prog W 0 (fun _ => true) true 38 v d ps) :
    ∃ (A : Option Addr) (l : List Nat) (c : Nat), v = .slice A l.length c ∧ l.length ≤ c ∧ WordsAt W W.heap.size A l := by
  obtain ⟨a, n, c, rfl⟩ := okWide_slice Try.underlying38 hval
  obtain ⟨fuel, hf⟩ := hd
  rcases open_ints Try.underlying38 Try.underlying66 c66 hf with ⟨hcs, _⟩ | ⟨a', n', c', zs, hcs, _, hle, _, hall, _, hcell, hwf⟩
  · simp [Value.cells] at hcs
    obtain ⟨rfl, rfl, rfl⟩ := hcs
    exact ⟨none, [], 0, rfl, Nat.le_refl _, fun k x hx => by simp at hx⟩
  · simp [Value.cells] at hcs
    obtain ⟨rfl, rfl, rfl⟩ := hcs
    simp at hall
    refine ⟨some a', (zs.take n).map Int.toNat, c, by rw [List.length_map, List.length_take]; congr 1; omega, by rw [List.length_map, List.length_take]; omega, ?_⟩
    intro k x hx
    rw [List.getElem?_map, Option.map_eq_some_iff] at hx
    obtain ⟨z, hx, rfl⟩ := hx
    rw [List.getElem?_take] at hx
    split at hx
    · have hk : k < zs.length := (List.getElem?_eq_some_iff.1 hx).1
      have hb := bounds_u16 (hwf z (List.mem_of_getElem? hx))
      obtain ⟨b, off, rfl, hc⟩ := ints_at hcell (by omega)
      have h1 := hc k hk
      have h2 : zs.getD k 0 = z := by simp [List.getD, hx]
      rw [h2] at h1
      refine ⟨by omega, b, off, rfl, block_lt_of_cell h1, ?_⟩
      rw [Int.toNat_of_nonneg hb.1]
      exact h1
    · cases hx
end
theorem r38 : Try.prog.readableRec 38 = true := by kernel_rfl
theorem s38 : 38 < Try.prog.types.size := of_decide_eq_true (by kernel_rfl)
end Go.Proofs.YtmdlmmfbcnkanaaR
namespace Go.Proofs.YtmdlmmfbcnkanaaR
open Go.RowKit Go.Shelf
/-- Records as keys. -/
abbrev K7 := UInt8 × UInt8 × UInt8 × UInt8 × UInt8 × UInt8 × UInt8
noncomputable instance k7dec : DecidableEq K7 := fun a b => Classical.propDecidable (a = b)
abbrev kv7 (k : K7) : Value := rV k.1 k.2.1 k.2.2.1 k.2.2.2.1 k.2.2.2.2.1 k.2.2.2.2.2.1 k.2.2.2.2.2.2
def k7 : List UInt8 → K7
  | [a, b, c, d, e, f, g] => (a, b, c, d, e, f, g)
  | _ => (0, 0, 0, 0, 0, 0, 0)
theorem kl102 : KeyLaw (κ := K7) 102 83 4 kv7 where
  und := fun w => by kernel_rfl
  chk := fun b k w => by kernel_rfl
  slow := ⟨_, und83, fun k k' => sameNow_agg _ _ _⟩
  eq := fun k k' w => by
    obtain ⟨a, b, c, d, e, f, g⟩ := k
    obtain ⟨a', b', c', d', e', f', g'⟩ := k'
    show (Op.equalIn 10000 83 (rV a b c d e f g) (rV a' b' c' d' e' f' g')).run Try.prog w = _
    rw [eq83]
    congr 1
    refine decide_eq_decide.2 ?_
    simp
  stays := fun k w => stays_agg _ w (by simp)
theorem k7_inj {r r' : List UInt8} (h : r.length = 7) (h' : r'.length = 7) (e : k7 r = k7 r') : r = r' := by
  obtain ⟨a, b, c, d, e1, f, g, rfl⟩ := len7 h
  obtain ⟨a', b', c', d', e', f', g', rfl⟩ := len7 h'
  simpa [k7] using e
/-- What has been counted: good pieces, bad ones, doubles; and the good ones, without doubles. -/
structure Ct where
  ng : Nat
  nb : Nat
  nd : Nat
  sn : List (List UInt8)
def ctStep (x : Ct) (p : List UInt8) : Ct := if isGood p then (if p ∈ x.sn then ⟨x.ng + 1, x.nb, x.nd + 1, x.sn⟩ else ⟨x.ng + 1, x.nb, x.nd, x.sn ++ [p]⟩) else ⟨x.ng, x.nb + 1, x.nd, x.sn⟩
def ctAll (ps : List (List UInt8)) : Ct := ps.foldl ctStep ⟨0, 0, 0, []⟩
def seenM (l : List (List UInt8)) : List (K7 × Value) := l.map fun r => (k7 r, .bool true)
theorem getK_seen {l : List (List UInt8)} (h7 : ∀ r, r ∈ l → r.length = 7) {p : List UInt8} (hp : p.length = 7) : (getK (seenM l) (k7 p)).getD (.bool false) = .bool (decide (p ∈ l)) := by
  induction l with
  | nil => rfl
  | cons r l ih =>
    have h1 := ih (fun x hx => h7 x (List.mem_cons_of_mem _ hx))
    show (getK ((k7 r, .bool true) :: seenM l) (k7 p)).getD (.bool false) = _
    rw [getK_cons]
    by_cases e : p = r
    · subst e
      simp
    · have e2 : k7 p ≠ k7 r := fun h => e (k7_inj hp (h7 r List.mem_cons_self) h)
      rw [if_neg e2, h1]
      simp [e]
theorem putK_seen {l : List (List UInt8)} (h7 : ∀ r, r ∈ l → r.length = 7) {p : List UInt8} (hp : p.length = 7) : putK (seenM l) (k7 p) (.bool true) = seenM (if p ∈ l then l else l ++ [p]) := by
  have h := getK_seen h7 hp
  by_cases e : p ∈ l
  · rw [if_pos e]
    refine putK_same ?_
    rw [decide_eq_true e] at h
    cases hg : getK (seenM l) (k7 p) with
    | none => rw [hg] at h; cases h
    | some v => rw [hg] at h; exact congrArg some h
  · rw [if_neg e]
    have hn : getK (seenM l) (k7 p) = none := by
      cases hg : getK (seenM l) (k7 p) with
      | none => rfl
      | some v =>
        rw [hg, decide_eq_false e] at h
        have hm := getK_mem hg
        unfold seenM at hm
        obtain ⟨r, _, hr⟩ := List.mem_map.1 hm
        have hv := congrArg Prod.snd hr
        simp only at hv
        subst hv
        cases h
    rw [putK_new hn]
    simp [seenM]
theorem ct_le : ∀ (ps : List (List UInt8)) (x : Ct), x.nd ≤ x.ng → (ps.foldl ctStep x).nd ≤ (ps.foldl ctStep x).ng ∧ (ps.foldl ctStep x).ng + (ps.foldl ctStep x).nb = x.ng + x.nb + ps.length
  | [], x, h => ⟨h, by simp⟩
  | p :: ps, x, h => by
    have hs : (ctStep x p).nd ≤ (ctStep x p).ng ∧ (ctStep x p).ng + (ctStep x p).nb = x.ng + x.nb + 1 := by
      unfold ctStep
      split
      · split <;> simp <;> omega
      · simp; omega
    have := ct_le ps (ctStep x p) hs.1
    simp only [List.foldl_cons, List.length_cons]
    omega
theorem al62 (w : World) : (Instr.alloc 62 true (.tuple #[])).run Try.prog w = .ok (.pointer (some ⟨w.heap.size, 0, none⟩)) (w.alloc (.cells #[.int .i64 0, .int .i64 0, .int .i64 0] 62)) := by go_simp
theorem al102 (w : World) : (Instr.alloc 102 true (.tuple #[])).run Try.prog w = .ok (.pointer (some ⟨w.heap.size, 0, none⟩)) (w.alloc (.cells #[.map none] 102)) := by go_simp
theorem bd62_0 (w : World) : (Instr.build 62 #[]).run Try.prog w = .ok (.agg #[.int .i64 0, .int .i64 0, .int .i64 0]) w := by go_simp
theorem mm102 (w : World) : (Instr.makeMap 102 none).run Try.prog w = .ok (.map (some w.heap.size)) (w.alloc (.map #[] 0)) := by kernel_rfl
theorem st102 {w : World} {p : Addr} {u : Value} {M : Option Nat} (h : w.cell? p = some u) (hf : w.frozen? p = false) : (Instr.storeAt 102 (.pointer (some p)) (.map M)).run Try.prog w = .ok () (w.setCell p (.map M)) := by go_simp
theorem ld102 {w : World} {p : Addr} {v : Value} (h : w.cell? p = some v) : (Instr.loadAt 102 (.pointer (some p))).run Try.prog w = .ok v w := by go_simp
theorem ld62 {w : World} {b : Nat} {u v x : Value} (h : w.cell? ⟨b, 0, none⟩ = some u ∧ w.cell? ⟨b, 1, none⟩ = some v ∧ w.cell? ⟨b, 2, none⟩ = some x) : (Instr.loadAt 62 (.pointer (some ⟨b, 0, none⟩))).run Try.prog w = .ok (.agg #[u, v, x]) w := by
  obtain ⟨h0, h1, h2⟩ := h
  go_simp
theorem st62 {w : World} {b : Nat} {u0 u1 u2 : Value} {x y z : Int} (h : Whole w b 62 #[u0, u1, u2]) : (Instr.storeAt 62 (.pointer (some ⟨b, 0, none⟩)) (.agg #[.int .i64 x, .int .i64 y, .int .i64 z])).run Try.prog w = .ok () (((w.setCell ⟨b, 0, none⟩ (.int .i64 x)).setCell ⟨b, 1, none⟩ (.int .i64 y)).setCell ⟨b, 2, none⟩ (.int .i64 z)) := by
  have h0 : w.cell? ⟨b, 0, none⟩ = some u0 := h.cell 0
  have h1 : w.cell? ⟨b, 1, none⟩ = some u1 := h.cell 1
  have h2 : w.cell? ⟨b, 2, none⟩ = some u2 := h.cell 2
  have f0 := h.frozen 0
  have f1 := h.frozen 1
  have f2 := h.frozen 2
  go_simp
theorem fa62_0 {b o : Nat} (w : World) : (Instr.fieldAt 62 (.pointer (some ⟨b, o, none⟩)) 0).run Try.prog w = .ok (.pointer (some ⟨b, o, none⟩)) w := by go_simp
theorem fa62_1 {b o : Nat} (w : World) : (Instr.fieldAt 62 (.pointer (some ⟨b, o, none⟩)) 1).run Try.prog w = .ok (.pointer (some ⟨b, o + 1, none⟩)) w := by go_simp
theorem fa62_2 {b o : Nat} (w : World) : (Instr.fieldAt 62 (.pointer (some ⟨b, o, none⟩)) 2).run Try.prog w = .ok (.pointer (some ⟨b, o + 2, none⟩)) w := by go_simp
theorem res62b {fn : Func} {k j b : Nat} {W : World} {a : Act} {v0 v1 v2 u : Value} (h : fn.results = #[.cell k 62, .tmp j]) (he : a.eval (.tmp k) = .pointer (some ⟨b, 0, none⟩)) (hj : a.eval (.tmp j) = u) (hw : Whole W b 62 #[v0, v1, v2]) :
    (results fn a.tmps).run Try.prog W = .ok (.tuple #[.agg #[v0, v1, v2], u]) W := by
  have he' : a.tmps[k]?.getD undef = .pointer (some ⟨b, 0, none⟩) := by simpa [Act.eval] using he
  have hj' : a.tmps[j]?.getD undef = u := by simpa [Act.eval] using hj
  have h0 : W.cell? ⟨b, 0, none⟩ = some v0 := hw.cell 0
  have h1 : W.cell? ⟨b, 1, none⟩ = some v1 := hw.cell 1
  have h2 : W.cell? ⟨b, 2, none⟩ = some v2 := hw.cell 2
  simp only [results, h]
  simp [he', hj']
  go_simp
abbrev c62 (x y z : Nat) : Array Value := #[.int .i64 (x : Int), .int .i64 (y : Int), .int .i64 (z : Int)]
/-- What holds between two pieces. -/
structure CtI (W0 : World) (b2 b4 M b5 : Nat) (x : Ct) (W : World) : Prop where
  low : Below W0.heap.size W0 W
  ord : W0.heap.size ≤ b2 ∧ b2 < b4 ∧ b4 < M ∧ M < b5
  w2 : Whole W b2 62 #[.int .i64 0, .int .i64 0, .int .i64 0]
  w4 : Whole W b4 62 (c62 x.ng x.nb x.nd)
  w5 : Whole W b5 102 #[.map (some M)]
  mp : MapAt kv7 W M (seenM x.sn)
  gd : ∀ r, r ∈ x.sn → isGood r = true
section
variable {W0 W W' : World} {b2 b4 M b5 : Nat} {x : Ct}
theorem CtI.else {X : Nat → Prop} (i : CtI W0 b2 b4 M b5 x W) (he : Else X W W') (hX : ∀ k, k ≤ b5 → ¬ X k) : CtI W0 b2 b4 M b5 x W' := by
  obtain ⟨o1, o2, o3, o4⟩ := i.ord
  exact ⟨i.low.trans (he.below i.low.size (fun k hk => hX k (by omega))), i.ord, he.whole (hX _ (by omega)) i.w2, he.whole (hX _ (by omega)) i.w4, he.whole (hX _ (by omega)) i.w5, i.mp.keep (he.block M i.mp.lt (hX _ (by omega))), i.gd⟩
theorem CtI.below (i : CtI W0 b2 b4 M b5 x W) (hb : Below W.heap.size W W') : CtI W0 b2 b4 M b5 x W' := i.else (Else.of_below (fun _ => False) hb) (fun _ _ h => h)
theorem CtI.lt (i : CtI W0 b2 b4 M b5 x W) : b5 < W.heap.size := i.w5.lt
/-- A number is changed. -/
theorem CtI.set (i : CtI W0 b2 b4 M b5 x W) {j : Nat} {v : Value} {y : Ct} (hw : ∀ W', Whole W' b4 62 ((c62 x.ng x.nb x.nd).setIfInBounds j v) → Whole W' b4 62 (c62 y.ng y.nb y.nd)) (hs : y.sn = x.sn) : CtI W0 b2 b4 M b5 y (W.setCell ⟨b4, j, none⟩ v) ∧ Else (fun k => k = b4) W (W.setCell ⟨b4, j, none⟩ v) := by
  obtain ⟨o1, o2, o3, o4⟩ := i.ord
  have he : Else (fun k => k = b4) W (W.setCell ⟨b4, j, none⟩ v) := (Else.refl (fun k => k = b4) W).setCell (p := ⟨b4, j, none⟩) (.inl rfl) _
  refine ⟨⟨i.low.trans (he.below i.low.size (fun k hk => by omega)), i.ord, he.whole (by omega) i.w2, hw _ (i.w4.set j v), he.whole (by omega) i.w5, ?_, fun r hr => i.gd r (hs ▸ hr)⟩, he⟩
  rw [hs]
  exact i.mp.keep (he.block M i.mp.lt (by omega))
/-- A record is seen. -/
theorem CtI.put (i : CtI W0 b2 b4 M b5 x W) {p : List UInt8} (hg : isGood p = true) :
    ∃ W', (Instr.mapUpdate 102 (.map (some M)) (kv7 (k7 p)) (.bool true)).run Try.prog W = .ok () W' ∧ CtI W0 b2 b4 M b5 ⟨x.ng, x.nb, x.nd, if p ∈ x.sn then x.sn else x.sn ++ [p]⟩ W' ∧ Else (fun k => k = M) W W' := by
  obtain ⟨o1, o2, o3, o4⟩ := i.ord
  obtain ⟨o, h3, h4⟩ := i.mp.put kl102 (k7 p) (.bool true)
  rw [putK_seen (fun r hr => good_seven (i.gd r hr)) (good_seven hg)] at h4
  have he : Else (fun k => k = M) W (W.putObj M o) := ⟨⟨rfl, rfl, rfl, by simp [World.putObj], fun k hk => by omega⟩, fun k _ hx => World.putObj_heap_other hx⟩
  refine ⟨_, h3, ⟨i.low.trans (he.below i.low.size (fun k hk => by omega)), i.ord, he.whole (by omega) i.w2, he.whole (by omega) i.w4, he.whole (by omega) i.w5, h4, ?_⟩, he⟩
  intro r hr
  split at hr
  · exact i.gd r hr
  · rcases List.mem_append.1 hr with hr | hr
    · exact i.gd r hr
    · simp at hr
      rw [hr]
      exact hg
end
noncomputable def opsCt0 : Array Oper := (Try.f37.body.bind (regionOf 0)).getD #[]
noncomputable def opsCt1 : Array Oper := (Try.f37.body.bind (regionOf 1)).getD #[]
noncomputable def opsCt2 : Array Oper := (Try.f37.body.bind (regionOf 2)).getD #[]
noncomputable def opsCt3 : Array Oper := (Try.f37.body.bind (regionOf 3)).getD #[]
noncomputable def opsCt4 : Array Oper := (Try.f37.body.bind (regionOf 4)).getD #[]
noncomputable def opsCt5 : Array Oper := (Try.f37.body.bind (regionOf 5)).getD #[]
noncomputable def opsCt6 : Array Oper := (Try.f37.body.bind (regionOf 6)).getD #[]
noncomputable def opsCt7 : Array Oper := (Try.f37.body.bind (regionOf 7)).getD #[]
noncomputable def opsCt8 : Array Oper := (Try.f37.body.bind (regionOf 8)).getD #[]
noncomputable def opsCt9 : Array Oper := (Try.f37.body.bind (regionOf 9)).getD #[]
noncomputable def opsCt10 : Array Oper := (Try.f37.body.bind (regionOf 10)).getD #[]
noncomputable def opsCt11 : Array Oper := (Try.f37.body.bind (regionOf 11)).getD #[]
noncomputable def opsCt12 : Array Oper := (Try.f37.body.bind (regionOf 12)).getD #[]
noncomputable def opsCt13 : Array Oper := (Try.f37.body.bind (regionOf 13)).getD #[]
noncomputable def opsCt14 : Array Oper := (Try.f37.body.bind (regionOf 14)).getD #[]
noncomputable def ct_as : Code := (.region 6 opsCt6 false)
noncomputable def ct_body : Code := (.block 1 (.seq (.region 7 opsCt7 false) (.seq (.block 2 (.seq (.region 8 opsCt8 false) (.cond (.tmp 22) (.seq (.region 9 opsCt9 false) (.exit 1)) (.seq (.region 10 opsCt10 false) (.cond (.tmp 29) (.region 11 opsCt11 false) .skip))))) (.seq (.region 12 opsCt12 false) (.region 13 opsCt13 false)))))
noncomputable def ct_range : Code := (.rangeFunc (.tmp 15) #[16] ct_as ct_body)
noncomputable def ct_e : Code := (.seq (.region 14 opsCt14 false) .ret)
noncomputable def code37 : Code := (.seq (.region 0 opsCt0 false) (.seq (.seq (.region 1 opsCt1 false) (.cond (.tmp 11) (.seq (.region 2 opsCt2 false) .ret) .skip)) (.seq (.region 3 opsCt3 false) (.seq (.region 4 opsCt4 false) (.seq (.seq (.region 5 opsCt5 false) (.block 0 ct_range)) ct_e)))))
theorem body37 : Try.f37.body = some code37 := by kernel_rfl
section
variable {W0 : World} {b2 b4 M b5 : Nat} {x : Ct}
set_option maxHeartbeats 1000000 in
theorem ct_body_any {l n c : Nat} {A : Option Addr} {p : List UInt8} {a : Act} {W1 : World} {Q : Exit → Act → World → Prop} (hl : p.length ≤ c) (hs : BytesAt W1 W1.heap.size A p) (hx : x.ng ≤ 90000 ∧ x.nb ≤ 90000 ∧ x.nd ≤ 90000)
    (hsz : a.tmps.size = 44) (hdf : a.defers = []) (t2 : a.eval (.tmp 2) = ptr b2) (t4 : a.eval (.tmp 4) = ptr b4) (t5 : a.eval (.tmp 5) = ptr b5) (t6 : a.eval (.tmp 6) = .slice A p.length c) (i : CtI W0 b2 b4 M b5 x W1)
    (hN : ∀ a' W', CtI W0 b2 b4 M b5 (ctStep x p) W' → Else (fun k => k = b4 ∨ k = M) W1 W' → Q .normal a' W') :
    ct_body.wpIn (Fence.wide.inRound l) n Try.prog Q a W1 := by
  obtain ⟨x1, x2, x3⟩ := hx
  obtain ⟨c0, c1, c2, c3, c4, c5, c6, hz, hp⟩ : ∃ c0 c1 c2 c3 c4 c5 c6, asRec p = r7 c0 c1 c2 c3 c4 c5 c6 ∧ (isGood p = true → p = [c0, c1, c2, c3, c4, c5, c6]) := by
    cases hg : isGood p with
    | false => exact ⟨0, 0, 0, 0, 0, 0, 0, by simp [asRec, hg], fun h => by cases h⟩
    | true =>
      obtain ⟨c0, c1, c2, c3, c4, c5, c6, rfl⟩ := len7 (good_seven hg)
      exact ⟨c0, c1, c2, c3, c4, c5, c6, by simp [asRec, hg, recC], fun _ => rfl⟩
  unfold ct_body
  refine wpIn_block ?_
  have hgd := good_any A p c W1 hl hs
  refine wpIn_seq (region_l 8 (wideF_round _ _) (by kernel_rfl) (by kernel_rfl) ?_)
  intro K hK
  refine ListK.move (i := 0) (v := .slice A p.length c) rfl (by simp [t6]) ?_
  refine ListK.call (i := 1) (vs := #[.slice A p.length c]) rfl (enters_of Try.func67 (by kernel_rfl) rfl) (by simp [hsz]) ((hgd).mono ?_)
  rintro _ W2 ⟨h67, hb2⟩
  rw [hz] at h67
  subst h67
  refine ⟨_, rfl, ?_⟩
  refine ListK.move (i := 2) (v := .tuple #[rV c0 c1 c2 c3 c4 c5 c6, .bool (isGood p)]) rfl (by simp [hsz]) ?_
  refine ListK.extract (i := 3) (u := .tuple #[rV c0 c1 c2 c3 c4 c5 c6, .bool (isGood p)]) (v := rV c0 c1 c2 c3 c4 c5 c6) rfl (by simp [hsz]) (ex0 _ _ _) ?_
  refine ListK.extract (i := 4) (u := .tuple #[rV c0 c1 c2 c3 c4 c5 c6, .bool (isGood p)]) (v := .bool (isGood p)) rfl (by simp [hsz]) (ex1 _ _ _) ?_
  refine ListK.alloc (i := 5) rfl (al83 W2) ?_
  refine ListK.store (i := 6) (u := .pointer (some ⟨W2.heap.size, 0, none⟩)) (u' := rV c0 c1 c2 c3 c4 c5 c6) rfl (by simp [hsz]) (by simp [hsz]) (st83 (Whole.new W2 83 z7)) ?_
  refine ListK.assign (i := 7) (v := .bool (isGood p)) rfl (by simp [hsz]) ?_
  refine ListK.done (hK _ _ ?_)
  clear hK K
  have w7 := put7_whole (Whole.new W2 83 z7) (u8V c0) (u8V c1) (u8V c2) (u8V c3) (u8V c4) (u8V c5) (u8V c6)
  have hb3 : Below W2.heap.size W2 (put7 (W2.alloc (.cells z7 83)) W2.heap.size (u8V c0) (u8V c1) (u8V c2) (u8V c3) (u8V c4) (u8V c5) (u8V c6)) := ((Below.refl _ W2).alloc (Nat.le_refl _) _).trans ((put7_else (w := W2.alloc (.cells z7 83)) (b := W2.heap.size) (u8V c0) (u8V c1) (u8V c2) (u8V c3) (u8V c4) (u8V c5) (u8V c6)).below (by simp) (fun k hk e => by omega))
  have hl5 := (i.below hb2).lt
  have i3 := (i.below hb2).below hb3
  have hB3 := hb2.trans (hb3.mono hb2.size)
  generalize hq7 : W2.heap.size = b7 at *
  generalize put7 (W2.alloc (.cells z7 83)) b7 (u8V c0) (u8V c1) (u8V c2) (u8V c3) (u8V c4) (u8V c5) (u8V c6) = W3 at *
  obtain ⟨o1, o2, o3, o4⟩ := i.ord
  generalize hA : Act.put _ _ _ = a1
  have hz_a1 : a1.tmps.size = 44 := by rw [← hA]; simp only [size_put, hsz]
  have u2 : a1.eval (.tmp 2) = .pointer (some ⟨b2, 0, none⟩) := by rw [← hA]; exact (by simp [t2])
  have u4 : a1.eval (.tmp 4) = .pointer (some ⟨b4, 0, none⟩) := by rw [← hA]; exact (by simp [t4])
  have u5 : a1.eval (.tmp 5) = .pointer (some ⟨b5, 0, none⟩) := by rw [← hA]; exact (by simp [t5])
  have u7 : a1.eval (.tmp 7) = .pointer (some ⟨b7, 0, none⟩) := by rw [← hA]; exact (by simp [hsz])
  have u8 : a1.eval (.tmp 8) = .bool (isGood p) := by rw [← hA]; exact (by simp [hsz])
  have hd_a1 : a1.defers = [] := by rw [← hA]; simp only [defers_put, hdf]
  clear hA
  cases hg : isGood p with
  | false =>
    rw [hg] at u8
    have hst : ctStep x p = ⟨x.ng, x.nb + 1, x.nd, x.sn⟩ := by unfold ctStep; rw [hg]; rfl
    refine wpIn_seq (wpIn_block ?_)
    refine wpIn_seq (region_l 3 (wideF_round _ _) (by kernel_rfl) (by kernel_rfl) ?_)
    intro K hK
    refine ListK.move (i := 0) (v := .bool false) rfl (by simp [u8]) ?_
    refine ListK.un (i := 1) (u := .bool false) (v := .bool true) rfl (by simp [hz_a1]) (not4 _ _) ?_
    refine ListK.assign (i := 2) (v := .bool true) rfl (by simp [hz_a1]) ?_
    refine ListK.done (hK _ _ ?_)
    clear hK K
    refine wpIn_cond (t := true) (by simp [hz_a1]) ?_
    obtain ⟨i4, he4⟩ := i3.set (j := 1) (v := .int .i64 ((x.nb + 1 : Nat) : Int)) (y := ⟨x.ng, x.nb + 1, x.nd, x.sn⟩) (fun _ h => h) rfl
    generalize hA : Act.put _ _ _ = a2
    have hz_a2 : a2.tmps.size = 44 := by rw [← hA]; simp only [size_put, hz_a1]
    have v2 : a2.eval (.tmp 2) = .pointer (some ⟨b2, 0, none⟩) := by rw [← hA]; exact (by simp [u2])
    have v4 : a2.eval (.tmp 4) = .pointer (some ⟨b4, 0, none⟩) := by rw [← hA]; exact (by simp [u4])
    have v5 : a2.eval (.tmp 5) = .pointer (some ⟨b5, 0, none⟩) := by rw [← hA]; exact (by simp [u5])
    have v7 : a2.eval (.tmp 7) = .pointer (some ⟨b7, 0, none⟩) := by rw [← hA]; exact (by simp [u7])
    have hd_a2 : a2.defers = [] := by rw [← hA]; simp only [defers_put, hd_a1]
    clear hA
    refine wpIn_seq (region_l 5 (wideF_round _ _) (by kernel_rfl) (by kernel_rfl) ?_)
    intro K hK
    refine ListK.field (i := 0) (u := .pointer (some ⟨b4, 0, none⟩)) (v := .pointer (some ⟨b4, 1, none⟩)) rfl (by simp [v4]) (fa62_1 _) ?_
    refine ListK.load (i := 1) (p := ⟨b4, 1, none⟩) (v := .int .i64 (x.nb : Int)) rfl (by simp [hz_a2]) (ld3 (i3.w4.cell 1)) ?_
    refine ListK.bin (i := 2) (u := .int .i64 (x.nb : Int)) (u' := .int .i64 1) (v := .int .i64 ((x.nb + 1 : Nat) : Int)) rfl (by simp [hz_a2]) (by simp) (add3 (by omega) (by omega) _) ?_
    refine ListK.field (i := 3) (u := .pointer (some ⟨b4, 0, none⟩)) (v := .pointer (some ⟨b4, 1, none⟩)) rfl (by simp [v4]) (fa62_1 _) ?_
    refine ListK.store (i := 4) (u := .pointer (some ⟨b4, 1, none⟩)) (u' := .int .i64 ((x.nb + 1 : Nat) : Int)) rfl (by simp [hz_a2]) (by simp [hz_a2]) (st3 (i3.w4.cell 1) (i3.w4.frozen 1)) ?_
    refine ListK.done (hK _ _ (wpIn_exit ?_))
    refine hN _ _ (hst ▸ i4) ((Else.of_below _ hB3).trans (he4.mono (fun k _ e => .inl e)))
  | true =>
    rw [hg] at u8
    obtain rfl := hp hg
    refine wpIn_seq (wpIn_block ?_)
    refine wpIn_seq (region_l 3 (wideF_round _ _) (by kernel_rfl) (by kernel_rfl) ?_)
    intro K hK
    refine ListK.move (i := 0) (v := .bool true) rfl (by simp [u8]) ?_
    refine ListK.un (i := 1) (u := .bool true) (v := .bool false) rfl (by simp [hz_a1]) (not4 _ _) ?_
    refine ListK.assign (i := 2) (v := .bool false) rfl (by simp [hz_a1]) ?_
    refine ListK.done (hK _ _ ?_)
    clear hK K
    refine wpIn_cond (t := false) (by simp [hz_a1]) ?_
    generalize hA : Act.put _ _ _ = a2
    have hz_a2 : a2.tmps.size = 44 := by rw [← hA]; simp only [size_put, hz_a1]
    have v2 : a2.eval (.tmp 2) = .pointer (some ⟨b2, 0, none⟩) := by rw [← hA]; exact (by simp [u2])
    have v4 : a2.eval (.tmp 4) = .pointer (some ⟨b4, 0, none⟩) := by rw [← hA]; exact (by simp [u4])
    have v5 : a2.eval (.tmp 5) = .pointer (some ⟨b5, 0, none⟩) := by rw [← hA]; exact (by simp [u5])
    have v7 : a2.eval (.tmp 7) = .pointer (some ⟨b7, 0, none⟩) := by rw [← hA]; exact (by simp [u7])
    have hd_a2 : a2.defers = [] := by rw [← hA]; simp only [defers_put, hd_a1]
    clear hA
    have hlk := i3.mp.look kl102 (k7 [c0, c1, c2, c3, c4, c5, c6]) zv4
    rw [getK_seen (fun r hr => good_seven (i3.gd r hr)) rfl] at hlk
    have h12 : ∀ (y : Ct) (a3 : Act) (W4 : World), a3.tmps.size = 44 → a3.defers = [] → a3.eval (.tmp 2) = ptr b2 → a3.eval (.tmp 4) = ptr b4 → a3.eval (.tmp 5) = ptr b5 → a3.eval (.tmp 7) = ptr b7 → CtI W0 b2 b4 M b5 y W4 → Whole W4 b7 83 (r7 c0 c1 c2 c3 c4 c5 c6) → Else (fun k => k = b4 ∨ k = M) W1 W4 → y.ng = x.ng → y.sn = x.sn → y.nb = x.nb → ctStep x [c0, c1, c2, c3, c4, c5, c6] = ⟨y.ng + 1, y.nb, y.nd, if [c0, c1, c2, c3, c4, c5, c6] ∈ x.sn then x.sn else x.sn ++ [[c0, c1, c2, c3, c4, c5, c6]]⟩ →
        (Code.seq (.region 12 opsCt12 false) (.region 13 opsCt13 false)).wpIn (Fence.wide.inRound l) n Try.prog (Exit.inBlock 1 Q) a3 W4 := by
      intro y a3 W4 hz_a3 hd_a3 q2 q4 q5 q7 i4 w74 he4 hy1 hy2 hy3 hst
      obtain ⟨i5, he5⟩ := i4.set (j := 0) (v := .int .i64 ((y.ng + 1 : Nat) : Int)) (y := ⟨y.ng + 1, y.nb, y.nd, y.sn⟩) (fun _ h => h) rfl
      have w75 := he5.whole (by omega) w74
      refine wpIn_seq (region_l 5 (wideF_round _ _) (by kernel_rfl) (by kernel_rfl) ?_)
      intro K hK
      refine ListK.field (i := 0) (u := .pointer (some ⟨b4, 0, none⟩)) (v := .pointer (some ⟨b4, 0, none⟩)) rfl (by simp [q4]) (fa62_0 _) ?_
      refine ListK.load (i := 1) (p := ⟨b4, 0, none⟩) (v := .int .i64 (y.ng : Int)) rfl (by simp [hz_a3]) (ld3 (i4.w4.cell 0)) ?_
      refine ListK.bin (i := 2) (u := .int .i64 (y.ng : Int)) (u' := .int .i64 1) (v := .int .i64 ((y.ng + 1 : Nat) : Int)) rfl (by simp [hz_a3]) (by simp) (add3 (by omega) (by omega) _) ?_
      refine ListK.field (i := 3) (u := .pointer (some ⟨b4, 0, none⟩)) (v := .pointer (some ⟨b4, 0, none⟩)) rfl (by simp [q4]) (fa62_0 _) ?_
      refine ListK.store (i := 4) (u := .pointer (some ⟨b4, 0, none⟩)) (u' := .int .i64 ((y.ng + 1 : Nat) : Int)) rfl (by simp [hz_a3]) (by simp [hz_a3]) (st3 (i4.w4.cell 0) (i4.w4.frozen 0)) ?_
      refine ListK.done (hK _ _ ?_)
      clear hK K
      obtain ⟨W6, hput, i6, he6⟩ := i5.put hg
      generalize hA : Act.put _ _ _ = a4
      have hz_a4 : a4.tmps.size = 44 := by rw [← hA]; simp only [size_put, hz_a3]
      have r5 : a4.eval (.tmp 5) = .pointer (some ⟨b5, 0, none⟩) := by rw [← hA]; exact (by simp [q5])
      have r7 : a4.eval (.tmp 7) = .pointer (some ⟨b7, 0, none⟩) := by rw [← hA]; exact (by simp [q7])
      have hd_a4 : a4.defers = [] := by rw [← hA]; simp only [defers_put, hd_a3]
      clear hA
      refine region_l 3 (wideF_round _ _) (by kernel_rfl) (by kernel_rfl) ?_
      intro K hK
      refine ListK.load (i := 0) (p := ⟨b5, 0, none⟩) (v := .map (some M)) rfl (by simp [r5]) (ld102 (i5.w5.cell 0)) ?_
      refine ListK.load (i := 1) (p := ⟨b7, 0, none⟩) (v := rV c0 c1 c2 c3 c4 c5 c6) rfl (by simp [r7]) (ld83 w75) ?_
      refine ListK.mapUp (i := 2) (u := .map (some M)) (u' := rV c0 c1 c2 c3 c4 c5 c6) (u'' := .bool true) rfl (by simp [hz_a4]) (by simp [hz_a4]) (by simp) hput ?_
      refine ListK.done (hK _ _ ?_)
      clear hK K
      refine hN _ _ ?_ ((he4.trans (he5.mono (fun k _ e => .inl e))).trans (he6.mono (fun k _ e => .inr e)))
      rw [hst]
      have h6 := i6
      rw [hy2] at h6
      exact h6
    refine wpIn_seq (region_l 4 (wideF_round _ _) (by kernel_rfl) (by kernel_rfl) ?_)
    intro K hK
    refine ListK.load (i := 0) (p := ⟨b5, 0, none⟩) (v := .map (some M)) rfl (by simp [v5]) (ld102 (i3.w5.cell 0)) ?_
    refine ListK.load (i := 1) (p := ⟨b7, 0, none⟩) (v := rV c0 c1 c2 c3 c4 c5 c6) rfl (by simp [v7]) (ld83 w7) ?_
    refine ListK.look (i := 2) (u := .map (some M)) (u' := rV c0 c1 c2 c3 c4 c5 c6) (v := .bool (decide ([c0, c1, c2, c3, c4, c5, c6] ∈ x.sn))) rfl (by simp [hz_a2]) (by simp [hz_a2]) hlk ?_
    refine ListK.assign (i := 3) (v := .bool (decide ([c0, c1, c2, c3, c4, c5, c6] ∈ x.sn))) rfl (by simp [hz_a2]) ?_
    refine ListK.done (hK _ _ ?_)
    clear hK K
    generalize hA : Act.put _ _ _ = a3
    have hz_a3 : a3.tmps.size = 44 := by rw [← hA]; simp only [size_put, hz_a2]
    have s2 : a3.eval (.tmp 2) = .pointer (some ⟨b2, 0, none⟩) := by rw [← hA]; exact (by simp [v2])
    have s4 : a3.eval (.tmp 4) = .pointer (some ⟨b4, 0, none⟩) := by rw [← hA]; exact (by simp [v4])
    have s5 : a3.eval (.tmp 5) = .pointer (some ⟨b5, 0, none⟩) := by rw [← hA]; exact (by simp [v5])
    have s7 : a3.eval (.tmp 7) = .pointer (some ⟨b7, 0, none⟩) := by rw [← hA]; exact (by simp [v7])
    have s29 : a3.eval (.tmp 29) = .bool (decide ([c0, c1, c2, c3, c4, c5, c6] ∈ x.sn)) := by rw [← hA]; exact (by simp [hz_a2])
    have hd_a3 : a3.defers = [] := by rw [← hA]; simp only [defers_put, hd_a2]
    clear hA
    by_cases hin : [c0, c1, c2, c3, c4, c5, c6] ∈ x.sn
    · have hst : ctStep x [c0, c1, c2, c3, c4, c5, c6] = ⟨x.ng + 1, x.nb, x.nd + 1, if [c0, c1, c2, c3, c4, c5, c6] ∈ x.sn then x.sn else x.sn ++ [[c0, c1, c2, c3, c4, c5, c6]]⟩ := by unfold ctStep; rw [if_pos hg, if_pos hin, if_pos hin]
      rw [decide_eq_true hin] at s29
      refine wpIn_cond (t := true) s29 ?_
      obtain ⟨i4, he4⟩ := i3.set (j := 2) (v := .int .i64 ((x.nd + 1 : Nat) : Int)) (y := ⟨x.ng, x.nb, x.nd + 1, x.sn⟩) (fun _ h => h) rfl
      refine region_l 5 (wideF_round _ _) (by kernel_rfl) (by kernel_rfl) ?_
      intro K hK
      refine ListK.field (i := 0) (u := .pointer (some ⟨b4, 0, none⟩)) (v := .pointer (some ⟨b4, 2, none⟩)) rfl (by simp [s4]) (fa62_2 _) ?_
      refine ListK.load (i := 1) (p := ⟨b4, 2, none⟩) (v := .int .i64 (x.nd : Int)) rfl (by simp [hz_a3]) (ld3 (i3.w4.cell 2)) ?_
      refine ListK.bin (i := 2) (u := .int .i64 (x.nd : Int)) (u' := .int .i64 1) (v := .int .i64 ((x.nd + 1 : Nat) : Int)) rfl (by simp [hz_a3]) (by simp) (add3 (by omega) (by omega) _) ?_
      refine ListK.field (i := 3) (u := .pointer (some ⟨b4, 0, none⟩)) (v := .pointer (some ⟨b4, 2, none⟩)) rfl (by simp [s4]) (fa62_2 _) ?_
      refine ListK.store (i := 4) (u := .pointer (some ⟨b4, 2, none⟩)) (u' := .int .i64 ((x.nd + 1 : Nat) : Int)) rfl (by simp [hz_a3]) (by simp [hz_a3]) (st3 (i3.w4.cell 2) (i3.w4.frozen 2)) ?_
      refine ListK.done (hK _ _ ?_)
      clear hK K
      exact h12 ⟨x.ng, x.nb, x.nd + 1, x.sn⟩ _ _ (by simp only [size_put, hz_a3]) (by simp only [defers_put, hd_a3]) (by simp [s2]) (by simp [s4]) (by simp [s5]) (by simp [s7]) i4 (he4.whole (by omega) w7) ((Else.of_below _ hB3).trans (he4.mono (fun k _ e => .inl e))) rfl rfl rfl hst
    · have hst : ctStep x [c0, c1, c2, c3, c4, c5, c6] = ⟨x.ng + 1, x.nb, x.nd, if [c0, c1, c2, c3, c4, c5, c6] ∈ x.sn then x.sn else x.sn ++ [[c0, c1, c2, c3, c4, c5, c6]]⟩ := by unfold ctStep; rw [if_pos hg, if_neg hin, if_neg hin]
      rw [decide_eq_false hin] at s29
      refine wpIn_cond (t := false) s29 (wpIn_skip ?_)
      exact h12 x _ _ hz_a3 hd_a3 s2 s4 s5 s7 i3 w7 (Else.of_below _ hB3) rfl rfl rfl hst
end
end Go.Proofs.YtmdlmmfbcnkanaaR
namespace Go.Proofs.YtmdlmmfbcnkanaaR
open Go.RowKit Go.Shelf
theorem pieces_len : ∀ (l acc : List UInt8), (pieces acc l).length ≤ l.length
  | [], acc => by simp [pieces]
  | b :: l, acc => by
    unfold pieces
    split
    · have := pieces_len l []
      simp only [List.length_cons]
      omega
    · have := pieces_len l (acc ++ [b])
      simp only [List.length_cons]
      omega
def countR (l : List UInt8) : Ct × Int := if 4000 < l.length then (⟨0, 0, 0, []⟩, 3) else (ctAll (pieces [] l), 0)
def CtP (W0 : World) (l : List UInt8) : Ending → World → Prop := fun e w' => e = .returned (.tuple #[.agg (c62 (countR l).1.ng (countR l).1.nb (countR l).1.nd), .int .i64 (countR l).2]) ∧ Below W0.heap.size W0 w'
section
variable {W0 : World} {b2 b4 M b5 : Nat}
set_option maxHeartbeats 400000 in
theorem ct_range_any {c bb : Nat} {A : Option Addr} {l : List UInt8} {a : Act} {W : World} {Q : Exit → Act → World → Prop} (hl : l.length ≤ 4000) (hc : l.length ≤ c) (hs : BytesAt W0 W0.heap.size A l)
    (hsz : a.tmps.size = 44) (t2 : a.eval (.tmp 2) = ptr b2) (t4 : a.eval (.tmp 4) = ptr b4) (t5 : a.eval (.tmp 5) = ptr b5) (t15 : a.eval (.tmp 15) = .func (.func 85) #[] #[ptr bb])
    (wb : Whole W bb 31 #[.slice A l.length c]) (hbb : b5 < bb) (i : CtI W0 b2 b4 M b5 ⟨0, 0, 0, []⟩ W)
    (hN : ∀ D W', W.heap.size ≤ D → CtI W0 b2 b4 M b5 (ctAll (pieces [] l)) W' → W'.heap[D]? = some (.deferred (some [])) → Q .normal { a with defers := mark D :: a.defers } W') :
    ct_range.wpIn Fence.wide 5 Try.prog Q a W := by
  obtain ⟨o1, o2, o3, o4⟩ := i.ord
  have hlt5 := i.lt
  have hltb := wb.lt
  have hpl := pieces_len l []
  obtain ⟨ps, hps⟩ : ∃ ps, ps = pieces [] l := ⟨_, rfl⟩
  rw [← hps] at hpl hN
  unfold ct_range
  refine range_ix (bb := bb) (N := ps.length) (Z := fun W => BytesAt W W0.heap.size A l) rfl (by omega) t15 trivial (enters_of Try.func85 (by kernel_rfl) rfl) (by rw [hps]; exact pieces_it 4 A c W0.heap.size bb l (by omega) hc W wb) (Below.refl _ _) wb.lt (fun i => rfl)
    (fun j W' => CtI W0 b2 b4 M b5 ((ps.take j).foldl ctStep ⟨0, 0, 0, []⟩) W' ∧ W.heap.size ≤ W'.heap.size) (fun _ _ _ => False) ?_ ?_ ?_ ⟨i, Nat.le_refl _⟩
    (fun j a' _ => (a'.tmps.size = 44 ∧ a'.eval (.tmp 2) = ptr b2 ∧ a'.eval (.tmp 4) = ptr b4 ∧ a'.eval (.tmp 5) = ptr b5) ∧ a'.defers = [] ∧ a'.eval (.tmp 6) = .slice (adr A (posP ps j)) (ps[j]?.getD []).length (c - posP ps j)) (fun j a' _ _ _ _ h _ _ => h) ?_ ?_ ?_ ?_
  · rintro j X Y row ⟨h1, h3⟩ hg hr
    refine ⟨h1.else (Else.of_grown hg) (fun k hk e => ?_), Nat.le_trans h3 hg.size⟩
    rcases hr k e.symm with h | ⟨h, _⟩ <;> omega
  · rintro c' j X Y row h
    exact h.elim
  · rintro j X ⟨h2, _⟩
    exact hs.below h2.low (Nat.le_refl _)
  · intro ly j W1 K hj hi hK
    unfold ct_as
    have hv : encP A c l j = #[.slice (adr A (posP ps j)) (ps[j]?.getD []).length (c - posP ps j)] := by rw [hps]; rfl
    rw [hv, fold1]
    refine region_l 1 (wideF_round _ _) (by kernel_rfl) (by kernel_rfl) ?_
    intro KK hKK
    refine ListK.assign (i := 0) (v := .slice (adr A (posP ps j)) (ps[j]?.getD []).length (c - posP ps j)) rfl (by simp [Act.eval, hsz]) ?_
    refine ListK.done (hKK _ _ ?_)
    have hput : ∀ v : Value, (Act.mk (a.tmps.setIfInBounds 16 v) []) = (Act.mk a.tmps []).put (some 16) v := fun _ => rfl
    refine hK _ _ (KeepsFrom.refl _ _) rfl hi ⟨⟨?_, ?_, ?_, ?_⟩, rfl, ?_⟩
    · simp [Act.put, hsz]
    · rw [hput]
      rw [ev_ne (by omega), ev_ne (by omega)]
      exact t2
    · rw [hput]
      rw [ev_ne (by omega), ev_ne (by omega)]
      exact t4
    · rw [hput]
      rw [ev_ne (by omega), ev_ne (by omega)]
      exact t5
    · rw [ev_same (by simp [hsz])]
  · rintro ly j a' W1 hj ⟨h2, h3⟩ ⟨⟨f0, f2, f4, f5⟩, hdf', t6⟩
    have hp := List.getElem?_eq_getElem hj
    rw [hp] at t6
    have hpf := (pieces_find l j).2 ps[j] (by rw [← hps]; exact hp)
    rw [← hps] at hpf
    obtain ⟨_, hp2, _, hp4⟩ := hpf
    have hb1 : BytesAt W1 W1.heap.size (adr A (posP ps j)) ps[j] := by
      rw [hp2]
      exact ((((hs.below h2.low (Nat.le_refl _)).drop (k := posP ps j) (fun _ => rfl)).take _).more h2.low.size)
    have hXk : ∀ k, W.heap.size ≤ k → ¬ (k = b4 ∨ k = M) := fun k hk e => by omega
    have hle := ct_le (ps.take j) ⟨0, 0, 0, []⟩ (Nat.le_refl _)
    have htl : (ps.take j).length ≤ 4000 := by rw [List.length_take]; omega
    refine ct_body_any (by omega) hb1 (by simp only [Nat.zero_add] at hle; omega) f0 hdf' f2 f4 f5 t6 h2 (fun a2 W2 i2 he => ?_)
    refine ⟨KeepsFrom.of_else he hXk, he.block bb (by omega) (fun e => by omega), ?_, Nat.le_trans h3 he.size⟩
    have h1 : ps.take (j + 1) = ps.take j ++ [ps[j]] := by
      rw [List.take_add_one, hp]
      rfl
    rw [h1, List.foldl_append]
    exact i2
  · rintro D W1 hD ⟨h2, _⟩ hh
    rw [List.take_length] at h2
    exact hN D W1 hD h2 hh
  · rintro D c' j W1 hD _ h hh
    exact h.elim
end
set_option maxHeartbeats 400000 in
theorem count_any (A : Option Addr) (l : List UInt8) (c : Nat) (W : World) (hc : l.length ≤ c) (hs : BytesAt W W.heap.size A l) : Calls Try.prog 37 #[.slice A l.length c] W (CtP W l) := by
  refine (callsIn_wide (n := 5)).1 (callsIn_of_wp_marks Try.func37 body37 trivial ?_ rfl)
  obtain ⟨a, ha⟩ : ∃ a : Act, a = { tmps := #[.slice A l.length c] ++ Array.replicate (Try.f37.ntmps - (#[.slice A l.length c] : Array Value).size) undef, defers := [] } := ⟨_, rfl⟩
  have hsz : a.tmps.size = 44 := by rw [ha]; simp [Try.ntmps37]
  have t0 : a.eval (.tmp 0) = .slice A l.length c := by rw [ha]; simp [Act.eval]
  have hd_a : a.defers = [] := by rw [ha]
  rw [← ha]
  clear ha
  unfold code37
  refine wpIn_seq (region_p 2 ?_)
  intro K hK
  refine ListK.alloc (i := 0) rfl (al62 W) ?_
  refine ListK.assign (i := 1) (v := .int .i64 0) rfl (by simp) ?_
  refine ListK.done (hK _ _ ?_)
  clear hK K
  have hb0 : Below W.heap.size W (W.alloc (.cells #[.int .i64 0, .int .i64 0, .int .i64 0] 62)) := (Below.refl _ W).alloc (Nat.le_refl _) _
  have w2 := Whole.new W 62 #[.int .i64 0, .int .i64 0, .int .i64 0]
  generalize hq2 : W.heap.size = b2 at *
  generalize W.alloc (.cells #[.int .i64 0, .int .i64 0, .int .i64 0] 62) = W1 at *
  generalize hA : Act.put _ _ _ = a1
  have hz_a1 : a1.tmps.size = 44 := by rw [← hA]; simp only [size_put, hsz]
  have u0 : a1.eval (.tmp 0) = .slice A l.length c := by rw [← hA]; exact (by simp [t0])
  have u2 : a1.eval (.tmp 2) = .pointer (some ⟨b2, 0, none⟩) := by rw [← hA]; exact (by simp [hsz])
  have hd_a1 : a1.defers = [] := by rw [← hA]; simp only [defers_put, hd_a]
  clear hA
  by_cases hbig : 4000 < l.length
  · have hcr : countR l = (⟨0, 0, 0, []⟩, 3) := by unfold countR; rw [if_pos hbig]
    refine wpIn_seq (wpIn_seq (region_p 3 ?_))
    intro K hK
    refine ListK.move (i := 0) (v := .slice A l.length c) rfl (by simp [u0]) ?_
    refine ListK.len (i := 1) (u := .slice A l.length c) (v := .int .i64 l.length) rfl (by simp [hz_a1]) (ln31 _ _ _ _ _) rfl ?_
    refine ListK.bin (i := 2) (u := .int .i64 l.length) (u' := .int .i64 4000) (v := .bool true) rfl (by simp [hz_a1]) (by simp) (gtrT3 (by omega) _) ?_
    refine ListK.done (hK _ _ ?_)
    clear hK K
    refine wpIn_cond (t := true) (by simp [hz_a1]) ?_
    have he : Else (fun k => k = b2) W1 (((W1.setCell ⟨b2, 0, none⟩ (.int .i64 0)).setCell ⟨b2, 1, none⟩ (.int .i64 0)).setCell ⟨b2, 2, none⟩ (.int .i64 0)) := (((Else.refl (fun k => k = b2) W1).setCell (p := ⟨b2, 0, none⟩) (.inl rfl) _).setCell (p := ⟨b2, 1, none⟩) (.inl rfl) _).setCell (p := ⟨b2, 2, none⟩) (.inl rfl) _
    have w2' := ((w2.set 0 (.int .i64 0)).set 1 (.int .i64 0)).set 2 (.int .i64 0)
    refine wpIn_seq (region_p 3 ?_)
    intro K hK
    refine ListK.bld (i := 0) (ps := #[]) (v := .agg #[.int .i64 0, .int .i64 0, .int .i64 0]) rfl (by simp) (bd62_0 _) ?_
    refine ListK.store (i := 1) (u := .pointer (some ⟨b2, 0, none⟩)) (u' := .agg #[.int .i64 0, .int .i64 0, .int .i64 0]) rfl (by simp [u2]) (by simp [hz_a1]) (st62 w2) ?_
    refine ListK.assign (i := 2) (v := .int .i64 3) rfl (by simp) ?_
    refine ListK.done (hK _ _ (wpIn_ret ?_))
    show LeavesInM _ _ _ _ _ _ (Act.defers _) _ _
    rw [show (Act.defers _) = [] from (by simp only [defers_put, hd_a1])]
    have hB : Below b2 W (((W1.setCell ⟨b2, 0, none⟩ (.int .i64 0)).setCell ⟨b2, 1, none⟩ (.int .i64 0)).setCell ⟨b2, 2, none⟩ (.int .i64 0)) := hb0.trans (he.below (by have := hb0.size; omega) (fun k hk e => by omega))
    refine ⟨.tuple #[.agg #[.int .i64 0, .int .i64 0, .int .i64 0], .int .i64 3], res62b Try.results37 (by simp [u2]) (by simp [hz_a1]) w2', by rw [hcr]; rfl, by rw [hq2]; exact hB⟩
  · have hcr : countR l = (ctAll (pieces [] l), 0) := by unfold countR; rw [if_neg hbig]
    refine wpIn_seq (wpIn_seq (region_p 3 ?_))
    intro K hK
    refine ListK.move (i := 0) (v := .slice A l.length c) rfl (by simp [u0]) ?_
    refine ListK.len (i := 1) (u := .slice A l.length c) (v := .int .i64 l.length) rfl (by simp [hz_a1]) (ln31 _ _ _ _ _) rfl ?_
    refine ListK.bin (i := 2) (u := .int .i64 l.length) (u' := .int .i64 4000) (v := .bool false) rfl (by simp [hz_a1]) (by simp) (gtrF3 (by omega) _) ?_
    refine ListK.done (hK _ _ ?_)
    clear hK K
    refine wpIn_cond (t := false) (by simp [hz_a1]) (wpIn_skip ?_)
    generalize hA : Act.put _ _ _ = a2
    have hz_a2 : a2.tmps.size = 44 := by rw [← hA]; simp only [size_put, hz_a1]
    have v0 : a2.eval (.tmp 0) = .slice A l.length c := by rw [← hA]; exact (by simp [u0])
    have v2 : a2.eval (.tmp 2) = .pointer (some ⟨b2, 0, none⟩) := by rw [← hA]; exact (by simp [u2])
    have hd_a2 : a2.defers = [] := by rw [← hA]; simp only [defers_put, hd_a1]
    clear hA
    refine wpIn_seq (region_p 1 ?_)
    intro K hK
    refine ListK.alloc (i := 0) rfl (al62 W1) ?_
    refine ListK.done (hK _ _ ?_)
    clear hK K
    have hs0 := hb0.size
    have hb1 : Below W1.heap.size W1 (W1.alloc (.cells #[.int .i64 0, .int .i64 0, .int .i64 0] 62)) := (Below.refl _ W1).alloc (Nat.le_refl _) _
    have hB1 := hb0.trans (hb1.mono (by omega))
    have hl2 := w2.lt
    replace w2 := w2.below hb1 w2.lt
    have w4 := Whole.new W1 62 #[.int .i64 0, .int .i64 0, .int .i64 0]
    generalize hq4 : W1.heap.size = b4 at *
    generalize W1.alloc (.cells #[.int .i64 0, .int .i64 0, .int .i64 0] 62) = W2 at *
    generalize hA : Act.put _ _ _ = a3
    have hz_a3 : a3.tmps.size = 44 := by rw [← hA]; simp only [size_put, hz_a2]
    have q0 : a3.eval (.tmp 0) = .slice A l.length c := by rw [← hA]; exact (by simp [v0])
    have q2 : a3.eval (.tmp 2) = .pointer (some ⟨b2, 0, none⟩) := by rw [← hA]; exact (by simp [v2])
    have q4 : a3.eval (.tmp 4) = .pointer (some ⟨b4, 0, none⟩) := by rw [← hA]; exact (by simp [hz_a2])
    have hd_a3 : a3.defers = [] := by rw [← hA]; simp only [defers_put, hd_a2]
    clear hA
    have hmp0 := MapAt.new (kv := kv7) W2
    refine wpIn_seq (region_p 3 ?_)
    intro K hK
    refine ListK.mkM (i := 0) rfl (mm102 W2) ?_
    refine ListK.alloc (i := 1) rfl (al102 (W2.alloc (.map #[] 0))) ?_
    refine ListK.store (i := 2) (u := .pointer (some ⟨(W2.alloc (.map #[] 0)).heap.size, 0, none⟩)) (u' := .map (some W2.heap.size)) rfl (by simp [hz_a3]) (by simp [hz_a3]) (st102 ((Whole.new (W2.alloc (.map #[] 0)) 102 #[.map none]).cell 0) ((Whole.new (W2.alloc (.map #[] 0)) 102 #[.map none]).frozen 0)) ?_
    refine ListK.done (hK _ _ ?_)
    clear hK K
    have hs1 := hB1.size
    have hl4 := w4.lt
    have hbm : Below W2.heap.size W2 (W2.alloc (.map #[] 0)) := (Below.refl _ W2).alloc (Nat.le_refl _) _
    have hB2 := hB1.trans (hbm.mono (by omega))
    replace w2 := w2.below hbm w2.lt
    replace w4 := w4.below hbm w4.lt
    have hlM := hmp0.lt
    generalize hqM : W2.heap.size = M at *
    generalize W2.alloc (.map #[] 0) = W3 at *
    have hb5 : Below W3.heap.size W3 ((W3.alloc (.cells #[.map none] 102)).setCell ⟨W3.heap.size, 0, none⟩ (.map (some M))) := ((Below.refl _ W3).alloc (Nat.le_refl _) _).setCell (p := ⟨W3.heap.size, 0, none⟩) (Nat.le_refl _) _
    have hs2 := hB2.size
    have hB3 := hB2.trans (hb5.mono (by omega))
    replace w2 := w2.below hb5 w2.lt
    replace w4 := w4.below hb5 w4.lt
    have hmp := hmp0.keep (hb5.block M hlM)
    have w5 := (Whole.new W3 102 #[.map none]).set 0 (.map (some M))
    generalize hq5 : W3.heap.size = b5 at *
    generalize (W3.alloc (.cells #[.map none] 102)).setCell ⟨b5, 0, none⟩ (.map (some M)) = W4 at *
    have hl5 := w5.lt
    have hs3 := hB3.size
    have i4 : CtI W b2 b4 M b5 ⟨0, 0, 0, []⟩ W4 := ⟨by rw [hq2]; exact hB3, ⟨by omega, by omega, by omega, by omega⟩, w2, w4, w5, hmp, fun r hr => (List.not_mem_nil hr).elim⟩
    generalize hA : Act.put _ _ _ = a4
    have hz_a4 : a4.tmps.size = 44 := by rw [← hA]; simp only [size_put, hz_a3]
    have r0 : a4.eval (.tmp 0) = .slice A l.length c := by rw [← hA]; exact (by simp [q0])
    have r2 : a4.eval (.tmp 2) = .pointer (some ⟨b2, 0, none⟩) := by rw [← hA]; exact (by simp [q2])
    have r4 : a4.eval (.tmp 4) = .pointer (some ⟨b4, 0, none⟩) := by rw [← hA]; exact (by simp [q4])
    have r5 : a4.eval (.tmp 5) = .pointer (some ⟨b5, 0, none⟩) := by rw [← hA]; exact (by simp [hz_a3])
    have hd_a4 : a4.defers = [] := by rw [← hA]; simp only [defers_put, hd_a3]
    clear hA
    refine wpIn_seq (wpIn_seq (region_p 2 ?_))
    intro K hK
    refine ListK.move (i := 0) (v := .slice A l.length c) rfl (by simp [r0]) ?_
    refine ListK.call (i := 1) (vs := #[.slice A l.length c]) rfl (enters_of Try.func66 (by kernel_rfl) rfl) (by simp [hz_a4]) ((pieces_any A l.length c W4).mono ?_)
    rintro _ W5 ⟨rfl, rfl⟩
    refine ⟨_, rfl, ?_⟩
    refine ListK.done (hK _ _ ?_)
    clear hK K
    have hb6 : Below W4.heap.size W4 (W4.alloc (.cells #[.slice A l.length c] 31)) := (Below.refl _ W4).alloc (Nat.le_refl _) _
    have i5 := i4.below hb6
    have wb := Whole.new W4 31 #[.slice A l.length c]
    generalize hA : Act.put _ _ _ = a5
    have hz_a5 : a5.tmps.size = 44 := by rw [← hA]; simp only [size_put, hz_a4]
    have p2 : a5.eval (.tmp 2) = .pointer (some ⟨b2, 0, none⟩) := by rw [← hA]; exact (by simp [r2])
    have p4 : a5.eval (.tmp 4) = .pointer (some ⟨b4, 0, none⟩) := by rw [← hA]; exact (by simp [r4])
    have p5 : a5.eval (.tmp 5) = .pointer (some ⟨b5, 0, none⟩) := by rw [← hA]; exact (by simp [r5])
    have p15 : a5.eval (.tmp 15) = .func (.func 85) #[] #[ptr W4.heap.size] := by rw [← hA]; exact (by simp [hz_a4])
    have hd_a5 : a5.defers = [] := by rw [← hA]; simp only [defers_put, hd_a4]
    clear hA
    refine wpIn_block (ct_range_any (by omega) hc (by rw [hq2]; exact hs) hz_a5 p2 p4 p5 p15 wb hl5 i5 (fun D W6 hD i6 hh => ?_))
    obtain ⟨o1, o2, o3, o4⟩ := i6.ord
    show (Code.wpIn _ _ _ ct_e _ _ _)
    have hd_a6 : ({ a5 with defers := mark D :: a5.defers } : Act).defers = [mark D] := by simp [hd_a5]
    have z5 : ({ a5 with defers := mark D :: a5.defers } : Act).tmps.size = 44 := hz_a5
    have y2 : ({ a5 with defers := mark D :: a5.defers } : Act).eval (.tmp 2) = ptr b2 := p2
    have y4 : ({ a5 with defers := mark D :: a5.defers } : Act).eval (.tmp 4) = ptr b4 := p4
    generalize ({ a5 with defers := mark D :: a5.defers } : Act) = a6 at *
    unfold ct_e
    generalize hx : ctAll (pieces [] l) = x at *
    have he : Else (fun k => k = b2) W6 (((W6.setCell ⟨b2, 0, none⟩ (.int .i64 (x.ng : Int))).setCell ⟨b2, 1, none⟩ (.int .i64 (x.nb : Int))).setCell ⟨b2, 2, none⟩ (.int .i64 (x.nd : Int))) := (((Else.refl (fun k => k = b2) W6).setCell (p := ⟨b2, 0, none⟩) (.inl rfl) _).setCell (p := ⟨b2, 1, none⟩) (.inl rfl) _).setCell (p := ⟨b2, 2, none⟩) (.inl rfl) _
    have w2' := ((i6.w2.set 0 (.int .i64 (x.ng : Int))).set 1 (.int .i64 (x.nb : Int))).set 2 (.int .i64 (x.nd : Int))
    refine wpIn_seq (region_p 3 ?_)
    intro K hK
    refine ListK.load (i := 0) (p := ⟨b4, 0, none⟩) (v := .agg (c62 x.ng x.nb x.nd)) rfl (by simp [y4]) (ld62 ⟨i6.w4.cell 0, i6.w4.cell 1, i6.w4.cell 2⟩) ?_
    refine ListK.store (i := 1) (u := .pointer (some ⟨b2, 0, none⟩)) (u' := .agg (c62 x.ng x.nb x.nd)) rfl (by simp [y2]) (by simp [z5]) (st62 i6.w2) ?_
    refine ListK.assign (i := 2) (v := .int .i64 0) rfl (by simp) ?_
    refine ListK.done (hK _ _ (wpIn_ret ?_))
    have hB7 := i6.low.trans (he.below i6.low.size (fun k hk e => by omega))
    generalize ((W6.setCell ⟨b2, 0, none⟩ (.int .i64 (x.ng : Int))).setCell ⟨b2, 1, none⟩ (.int .i64 (x.nb : Int))).setCell ⟨b2, 2, none⟩ (.int .i64 (x.nd : Int)) = W7 at *
    have hmk : Mk (b5 + 1) [D] W7 := (Mk.nil _ _).cons (by have := hb6.size; omega) ((he.block D (Array.getElem?_eq_some_iff.1 hh).1 (by have := hb6.size; omega)).trans hh) (fun _ h => (List.not_mem_nil h).elim)
    show LeavesInM _ _ _ _ _ _ (Act.defers _) _ _
    rw [show (Act.defers _) = [D].map mark from by simp only [defers_put, hd_a6, List.map_cons, List.map_nil]]
    refine leaves_marks2 (h := b5 + 1) (v := .tuple #[.agg (c62 x.ng x.nb x.nd), .int .i64 0]) (fun w => Below W.heap.size W w ∧ Whole w b2 62 (c62 x.ng x.nb x.nd)) ?_ ?_ ?_ [D] W7 hmk ⟨hB7, w2'⟩
    · rintro W' D' hD' _ ⟨h1, h2⟩
      exact ⟨below_put_mark h1 (by omega) _, (World.putObj_heap_other (by omega)).trans h2⟩
    · rintro W' ⟨_, h2⟩
      exact res62b Try.results37 (by simp [y2]) (by simp [z5]) h2
    · rintro W' ⟨h1, _⟩
      exact ⟨by rw [hcr], h1⟩
end Go.Proofs.YtmdlmmfbcnkanaaR
namespace Go.Proofs.YtmdlmmfbcnkanaaR
open Go.RowKit Go.Shelf
/-- Does a series say what a record says? -/
def okRec (s : Ser) (r : List UInt8) : Bool := !(((nameOf r).1 == 82 && decide (s.rd[(nameOf r).2]? ≠ some (valOf r : Int))) || ((nameOf r).1 == 80 && decide (sumB s (nameOf r).2 ≠ (valOf r : Int))))
def headEqB (s : Ser) (h : Head) : Bool := decide ((s.rd.length : Int) = h.many) && (decide (s.width = h.width) && decide (s.step = h.step))
def fitsC (l : List UInt8) (s : Ser) : Bool := match readM l with
  | none => false
  | some (h, m) => decide (faultS s = 0) && (headEqB s h && m.all (okRec s))
theorem IntsAt.cell3 {w : World} {B b off k : Nat} {l : List Int} {x : Int} (h : IntsAt w B (some ⟨b, off, none⟩) l) (hx : l[k]? = some x) : w.cell? ⟨b, off + k, none⟩ = some (.int .i64 x) := by
  obtain ⟨b', o', e, _, hc⟩ := h k x hx
  cases e
  exact hc
noncomputable def opsFits0 : Array Oper := (Try.f31.body.bind (regionOf 0)).getD #[]
noncomputable def opsFits1 : Array Oper := (Try.f31.body.bind (regionOf 1)).getD #[]
noncomputable def opsFits2 : Array Oper := (Try.f31.body.bind (regionOf 2)).getD #[]
noncomputable def opsFits3 : Array Oper := (Try.f31.body.bind (regionOf 3)).getD #[]
noncomputable def opsFits4 : Array Oper := (Try.f31.body.bind (regionOf 4)).getD #[]
noncomputable def opsFits5 : Array Oper := (Try.f31.body.bind (regionOf 5)).getD #[]
noncomputable def opsFits6 : Array Oper := (Try.f31.body.bind (regionOf 6)).getD #[]
noncomputable def opsFits7 : Array Oper := (Try.f31.body.bind (regionOf 7)).getD #[]
noncomputable def opsFits8 : Array Oper := (Try.f31.body.bind (regionOf 8)).getD #[]
noncomputable def opsFits9 : Array Oper := (Try.f31.body.bind (regionOf 9)).getD #[]
noncomputable def fit_l : Code := (.seq (.region 5 opsFits5 false) (.seq (.cond (.tmp 37) .skip (.exit 0)) (.block 1 (.seq (.region 6 opsFits6 false) (.seq (.region 7 opsFits7 true) (.cond (.tmp 68) (.seq (.region 8 opsFits8 false) .ret) .skip))))))
noncomputable def fit_b : Code := (.seq (.seq (.region 4 opsFits4 false) (.block 0 (.loop fit_l))) (.seq (.region 9 opsFits9 false) .ret))
noncomputable def code31 : Code := (.seq (.region 0 opsFits0 false) (.seq (.region 1 opsFits1 false) (.seq (.seq (.region 2 opsFits2 true) (.cond (.tmp 30) (.seq (.region 3 opsFits3 false) .ret) .skip)) fit_b)))
theorem body31 : Try.f31.body = some code31 := by kernel_rfl
section
variable {s : Ser} {A : Option Addr} {c : Nat} {h : Head}
attribute [local irreducible] AnyK StepK
set_option maxHeartbeats 400000 in
theorem ft_7 {b3 b7 b8 r0 : Nat} {c0 c1 c2 c3 c4 c5 c6 : UInt8} {nm : UInt8 × Nat} {vl : Nat} {a : Act} {W : World} {Q : Exit → Act → World → Prop} (hf : faultS s = 0) (hnm : nameOf [c0, c1, c2, c3, c4, c5, c6] = nm) (hvl : num2 c3 c4 = vl) (h82 : nm.1 = 82 → nm.2 < s.rd.length) (h80 : nm.1 = 80 → nm.2 ≤ 100)
    (hsz : a.tmps.size = 69) (t3 : a.eval (.tmp 3) = ptr b3) (t7 : a.eval (.tmp 7) = ptr b7) (t8 : a.eval (.tmp 8) = ptr b8) (t35 : a.eval (.tmp 35) = ptr r0) (w3 : Whole W b3 29 #[.int .i64 s.width, .int .i64 s.step, .slice A s.rd.length c]) (hs : IntsAt W W.heap.size A s.rd) (w7 : Whole W b7 97 #[u8V nm.1, .int .i64 (nm.2 : Int)]) (w8 : Whole W b8 83 (r7 c0 c1 c2 c3 c4 c5 c6))
    (hQ : ∀ a' W', a'.tmps.size = 69 → a'.defers = a.defers → a'.eval (.tmp 3) = ptr b3 → a'.eval (.tmp 35) = ptr r0 → a'.eval (.tmp 68) = .bool (!okRec s [c0, c1, c2, c3, c4, c5, c6]) → Below W.heap.size W W' → Q .normal a' W') :
    (Code.region 7 opsFits7 true).wpIn Fence.wide 5 Try.prog Q a W := by
  obtain ⟨hlen, hwd, hsp, hin, _⟩ := ser_valid hf
  have hok : okRec s [c0, c1, c2, c3, c4, c5, c6] = !((nm.1 == 82 && decide (s.rd[nm.2]? ≠ some (vl : Int))) || (nm.1 == 80 && decide (sumB s nm.2 ≠ (vl : Int)))) := by
    unfold okRec
    rw [hnm]
    show _ = _
    have : valOf [c0, c1, c2, c3, c4, c5, c6] = vl := hvl
    rw [this]
  rw [hok, Bool.not_not] at hQ
  have hbd := (Below.refl W.heap.size W).drew
  have hgr : ∀ w w', (fun w : World => (Whole w b3 29 #[.int .i64 s.width, .int .i64 s.step, .slice A s.rd.length c] ∧ IntsAt w W.heap.size A s.rd) ∧ Whole w b7 97 #[u8V nm.1, .int .i64 (nm.2 : Int)] ∧ Whole w b8 83 (r7 c0 c1 c2 c3 c4 c5 c6) ∧ Below W.heap.size W w) w → Below w.heap.size w w' → (fun w : World => (Whole w b3 29 #[.int .i64 s.width, .int .i64 s.step, .slice A s.rd.length c] ∧ IntsAt w W.heap.size A s.rd) ∧ Whole w b7 97 #[u8V nm.1, .int .i64 (nm.2 : Int)] ∧ Whole w b8 83 (r7 c0 c1 c2 c3 c4 c5 c6) ∧ Below W.heap.size W w) w' := fun w w' h hb => ⟨⟨h.1.1.below hb h.1.1.lt, h.1.2.below (hb.mono h.2.2.2.size) (Nat.le_refl _)⟩, h.2.1.below hb h.2.1.lt, h.2.2.1.below hb h.2.2.1.lt, h.2.2.2.trans (hb.mono h.2.2.2.size)⟩
  have hR0 : (fun w : World => (Whole w b3 29 #[.int .i64 s.width, .int .i64 s.step, .slice A s.rd.length c] ∧ IntsAt w W.heap.size A s.rd) ∧ Whole w b7 97 #[u8V nm.1, .int .i64 (nm.2 : Int)] ∧ Whole w b8 83 (r7 c0 c1 c2 c3 c4 c5 c6) ∧ Below W.heap.size W w) W.drew := hgr W _ ⟨⟨w3, hs⟩, w7, w8, Below.refl _ _⟩ hbd
  by_cases e82 : nm.1 = 82
  · have en : ((nm.1.toNat : Int)) = 82 := by rw [e82]; rfl
    have en2 : ((nm.1.toNat : Int)) ≠ 80 := by rw [e82]; decide
    have hk := h82 e82
    have hx := List.getElem?_eq_getElem hk
    obtain ⟨gb, off, hA, _, _⟩ := hs nm.2 _ hx
    have hcA : ∀ w, IntsAt w W.heap.size A s.rd → w.cell? ⟨gb, off + nm.2, none⟩ = some (.int .i64 s.rd[nm.2]) := fun w h => by rw [hA] at h; exact h.cell3 hx
    by_cases hv : s.rd[nm.2] = (vl : Int)
    · have hd : decide (s.rd[nm.2]? ≠ some (vl : Int)) = false := by rw [hx, hv]; simp
      refine region_K (KpR (fun w : World => (Whole w b3 29 #[.int .i64 s.width, .int .i64 s.step, .slice A s.rd.length c] ∧ IntsAt w W.heap.size A s.rd) ∧ Whole w b7 97 #[u8V nm.1, .int .i64 (nm.2 : Int)] ∧ Whole w b8 83 (r7 c0 c1 c2 c3 c4 c5 c6) ∧ Below W.heap.size W w) (fun _ => false)) (wideF_plain _) (by kernel_rfl) Try.mixed ?_
      change AnyK _ _ _ _ 28 (Array.replicate 28 false) _ _
      have hR : (fun w : World => (Whole w b3 29 #[.int .i64 s.width, .int .i64 s.step, .slice A s.rd.length c] ∧ IntsAt w W.heap.size A s.rd) ∧ Whole w b7 97 #[u8V nm.1, .int .i64 (nm.2 : Int)] ∧ Whole w b8 83 (r7 c0 c1 c2 c3 c4 c5 c6) ∧ Below W.heap.size W w) W.drew := hR0
      refine AnyK.field (i := 0) may_o (u := .pointer (some ⟨b7, 0, none⟩)) (v := .pointer (some ⟨b7, 0, none⟩)) (by simp [t7]) (fun w => fa97_0 w) hR ?_
      refine AnyK.load (i := 1) may_o (p := ⟨b7, 0, none⟩) (v := u8V nm.1) (by simp [hsz]) (fun w hw => ld5 (hw.2.1.cell 0)) hR ?_
      refine AnyK.bin (i := 2) may_o (u := u8V nm.1) (u' := .int .u8 82) (v := .bool true) (by simp [hsz]) (by simp) (fun w => eql5T en w) hR ?_
      refine AnyK.move (i := 3) may_o (v := .bool true) (by simp [hsz]) hR ?_
      refine AnyK.field (i := 4) may_o (u := .pointer (some ⟨b3, 0, none⟩)) (v := .pointer (some ⟨b3, 2, none⟩)) (by simp [t3]) (fun w => fa29_2 w) hR (hw := (by exact wanted_g (e := 44) (b' := true) rfl (by simp [hsz]) rfl)) ?_
      refine AnyK.load (i := 5) may_o (p := ⟨b3, 2, none⟩) (v := .slice (some ⟨gb, off, none⟩) s.rd.length c) (by simp [hsz]) (fun w hw => ld22 ((hw.1.1.cell 2).trans (by rw [hA]; rfl))) hR (hw := (by exact wanted_g (e := 44) (b' := true) rfl (by simp [hsz]) rfl)) ?_
      refine AnyK.field (i := 6) may_o (u := .pointer (some ⟨b7, 0, none⟩)) (v := .pointer (some ⟨b7, 1, none⟩)) (by simp [t7]) (fun w => fa97_1 w) hR (hw := (by exact wanted_g (e := 44) (b' := true) rfl (by simp [hsz]) rfl)) ?_
      refine AnyK.load (i := 7) may_o (p := ⟨b7, 1, none⟩) (v := .int .i64 (nm.2 : Int)) (by simp [hsz]) (fun w hw => ld3 (hw.2.1.cell 1)) hR (hw := (by exact wanted_g (e := 44) (b' := true) rfl (by simp [hsz]) rfl)) ?_
      refine AnyK.index (i := 8) may_o (u := .slice (some ⟨gb, off, none⟩) s.rd.length c) (u' := .int .i64 (nm.2 : Int)) (v := .pointer (some ⟨gb, off + nm.2, none⟩)) (by simp [hsz]) (by simp [hsz]) (fun w => ix22 hk w) hR (hw := (by exact wanted_g (e := 44) (b' := true) rfl (by simp [hsz]) rfl)) ?_
      refine AnyK.load (i := 9) may_o (p := ⟨gb, off + nm.2, none⟩) (v := .int .i64 (s.rd[nm.2])) (by simp [hsz]) (fun w hw => ld3 (hcA _ hw.1.2)) hR (hw := (by exact wanted_g (e := 44) (b' := true) rfl (by simp [hsz]) rfl)) ?_
      refine AnyK.load (i := 10) may_o (p := ⟨b8, 0, none⟩) (v := rV c0 c1 c2 c3 c4 c5 c6) (by simp [t8]) (fun w hw => ld83 hw.2.2.1) hR (hw := (by exact wanted_g (e := 44) (b' := true) rfl (by simp [hsz]) rfl)) ?_
      refine AnyK.pick1 (i := 11) (by kernel_rfl) ?_
      refine StepK.call (i := 11) (f := 59) (vs := #[rV c0 c1 c2 c3 c4 c5 c6, .int .i64 (3)]) rfl (enters_of Try.func59 (by kernel_rfl) rfl) rfl (by simp [hsz]) (((show Calls Try.prog 59 #[rV c0 c1 c2 c3 c4 c5 c6, .int .i64 3] _ (fun e w' => e = .returned (.int .i64 (vl : Int)) ∧ _) from by rw [← hvl]; exact number3 c0 c1 c2 c3 c4 c5 c6 _)).mono ?_) (hw := (by exact wanted_g (e := 44) (b' := true) rfl (by simp [hsz]) rfl))
      rintro _ V11 ⟨rfl, hv11⟩
      replace hR : (fun w : World => (Whole w b3 29 #[.int .i64 s.width, .int .i64 s.step, .slice A s.rd.length c] ∧ IntsAt w W.heap.size A s.rd) ∧ Whole w b7 97 #[u8V nm.1, .int .i64 (nm.2 : Int)] ∧ Whole w b8 83 (r7 c0 c1 c2 c3 c4 c5 c6) ∧ Below W.heap.size W w) V11 := hgr _ _ hR hv11
      refine ⟨_, rfl, fun _ _ => hR, ?_⟩
      refine AnyK.bin (i := 12) may_o (u := .int .i64 (s.rd[nm.2])) (u' := .int .i64 (vl : Int)) (v := .bool false) (by simp [hsz]) (by simp [hsz]) (fun w => neqF hv w) hR (hw := (by exact wanted_g (e := 44) (b' := true) rfl (by simp [hsz]) rfl)) ?_
      refine AnyK.pick (i := 13) may_o (b := true) (v := .bool false) (by simp [hsz]) (by simp [hsz]) hR ?_
      refine AnyK.move (i := 14) may_o (v := .bool false) (by simp [hsz]) hR ?_
      refine AnyK.field (i := 15) may_o (u := .pointer (some ⟨b7, 0, none⟩)) (v := .pointer (some ⟨b7, 0, none⟩)) (by simp [t7]) (fun w => fa97_0 w) hR (hw := (by exact wanted_g (e := 55) (b' := false) rfl (by simp [hsz]) rfl)) ?_
      refine AnyK.load (i := 16) may_o (p := ⟨b7, 0, none⟩) (v := u8V nm.1) (by simp [hsz]) (fun w hw => ld5 (hw.2.1.cell 0)) hR (hw := (by exact wanted_g (e := 55) (b' := false) rfl (by simp [hsz]) rfl)) ?_
      refine AnyK.bin (i := 17) may_o (u := u8V nm.1) (u' := .int .u8 80) (v := .bool false) (by simp [hsz]) (by simp) (fun w => eql5F en2 w) hR (hw := (by exact wanted_g (e := 55) (b' := false) rfl (by simp [hsz]) rfl)) ?_
      refine AnyK.move (i := 18) may_o (v := .bool false) (by simp [hsz]) hR (hw := (by exact wanted_g (e := 55) (b' := false) rfl (by simp [hsz]) rfl)) ?_
      refine AnyK.passG (i := 19) may_o (e := 59) (b' := false) rfl (by simp [hsz]) rfl hR ?_
      refine AnyK.passG (i := 20) may_o (e := 59) (b' := false) rfl (by simp [hsz]) rfl hR ?_
      refine AnyK.passG (i := 21) may_o (e := 59) (b' := false) rfl (by simp [hsz]) rfl hR ?_
      refine AnyK.passG (i := 22) may_o (e := 59) (b' := false) rfl (by simp [hsz]) rfl hR ?_
      refine AnyK.passG (i := 23) may_o (e := 59) (b' := false) rfl (by simp [hsz]) rfl hR ?_
      refine AnyK.passG (i := 24) may_o (e := 59) (b' := false) rfl (by simp [hsz]) rfl hR ?_
      refine AnyK.passG (i := 25) may_o (e := 59) (b' := false) rfl (by simp [hsz]) rfl hR ?_
      refine AnyK.pick (i := 26) may_o (b := false) (v := .bool false) (by simp [hsz]) (by simp) hR (hw := (by exact wanted_g (e := 55) (b' := false) rfl (by simp [hsz]) rfl)) ?_
      refine AnyK.pick (i := 27) may_o (b := false) (v := .bool false) (by simp [hsz]) (by simp [hsz]) hR ?_
      refine AnyK.done (by kernel_rfl) ?_
      exact hQ _ _ (by simp only [size_put, hsz]) (by simp only [defers_put]) (by simp [t3]) (by simp [t35]) (by rw [e82, hd]; exact (by simp [hsz])) hR.2.2.2
    · have hd : decide (s.rd[nm.2]? ≠ some (vl : Int)) = true := by rw [hx]; simp [hv]
      refine region_K (KpR (fun w : World => (Whole w b3 29 #[.int .i64 s.width, .int .i64 s.step, .slice A s.rd.length c] ∧ IntsAt w W.heap.size A s.rd) ∧ Whole w b7 97 #[u8V nm.1, .int .i64 (nm.2 : Int)] ∧ Whole w b8 83 (r7 c0 c1 c2 c3 c4 c5 c6) ∧ Below W.heap.size W w) (fun _ => false)) (wideF_plain _) (by kernel_rfl) Try.mixed ?_
      change AnyK _ _ _ _ 28 (Array.replicate 28 false) _ _
      have hR : (fun w : World => (Whole w b3 29 #[.int .i64 s.width, .int .i64 s.step, .slice A s.rd.length c] ∧ IntsAt w W.heap.size A s.rd) ∧ Whole w b7 97 #[u8V nm.1, .int .i64 (nm.2 : Int)] ∧ Whole w b8 83 (r7 c0 c1 c2 c3 c4 c5 c6) ∧ Below W.heap.size W w) W.drew := hR0
      refine AnyK.field (i := 0) may_o (u := .pointer (some ⟨b7, 0, none⟩)) (v := .pointer (some ⟨b7, 0, none⟩)) (by simp [t7]) (fun w => fa97_0 w) hR ?_
      refine AnyK.load (i := 1) may_o (p := ⟨b7, 0, none⟩) (v := u8V nm.1) (by simp [hsz]) (fun w hw => ld5 (hw.2.1.cell 0)) hR ?_
      refine AnyK.bin (i := 2) may_o (u := u8V nm.1) (u' := .int .u8 82) (v := .bool true) (by simp [hsz]) (by simp) (fun w => eql5T en w) hR ?_
      refine AnyK.move (i := 3) may_o (v := .bool true) (by simp [hsz]) hR ?_
      refine AnyK.field (i := 4) may_o (u := .pointer (some ⟨b3, 0, none⟩)) (v := .pointer (some ⟨b3, 2, none⟩)) (by simp [t3]) (fun w => fa29_2 w) hR (hw := (by exact wanted_g (e := 44) (b' := true) rfl (by simp [hsz]) rfl)) ?_
      refine AnyK.load (i := 5) may_o (p := ⟨b3, 2, none⟩) (v := .slice (some ⟨gb, off, none⟩) s.rd.length c) (by simp [hsz]) (fun w hw => ld22 ((hw.1.1.cell 2).trans (by rw [hA]; rfl))) hR (hw := (by exact wanted_g (e := 44) (b' := true) rfl (by simp [hsz]) rfl)) ?_
      refine AnyK.field (i := 6) may_o (u := .pointer (some ⟨b7, 0, none⟩)) (v := .pointer (some ⟨b7, 1, none⟩)) (by simp [t7]) (fun w => fa97_1 w) hR (hw := (by exact wanted_g (e := 44) (b' := true) rfl (by simp [hsz]) rfl)) ?_
      refine AnyK.load (i := 7) may_o (p := ⟨b7, 1, none⟩) (v := .int .i64 (nm.2 : Int)) (by simp [hsz]) (fun w hw => ld3 (hw.2.1.cell 1)) hR (hw := (by exact wanted_g (e := 44) (b' := true) rfl (by simp [hsz]) rfl)) ?_
      refine AnyK.index (i := 8) may_o (u := .slice (some ⟨gb, off, none⟩) s.rd.length c) (u' := .int .i64 (nm.2 : Int)) (v := .pointer (some ⟨gb, off + nm.2, none⟩)) (by simp [hsz]) (by simp [hsz]) (fun w => ix22 hk w) hR (hw := (by exact wanted_g (e := 44) (b' := true) rfl (by simp [hsz]) rfl)) ?_
      refine AnyK.load (i := 9) may_o (p := ⟨gb, off + nm.2, none⟩) (v := .int .i64 (s.rd[nm.2])) (by simp [hsz]) (fun w hw => ld3 (hcA _ hw.1.2)) hR (hw := (by exact wanted_g (e := 44) (b' := true) rfl (by simp [hsz]) rfl)) ?_
      refine AnyK.load (i := 10) may_o (p := ⟨b8, 0, none⟩) (v := rV c0 c1 c2 c3 c4 c5 c6) (by simp [t8]) (fun w hw => ld83 hw.2.2.1) hR (hw := (by exact wanted_g (e := 44) (b' := true) rfl (by simp [hsz]) rfl)) ?_
      refine AnyK.pick1 (i := 11) (by kernel_rfl) ?_
      refine StepK.call (i := 11) (f := 59) (vs := #[rV c0 c1 c2 c3 c4 c5 c6, .int .i64 (3)]) rfl (enters_of Try.func59 (by kernel_rfl) rfl) rfl (by simp [hsz]) (((show Calls Try.prog 59 #[rV c0 c1 c2 c3 c4 c5 c6, .int .i64 3] _ (fun e w' => e = .returned (.int .i64 (vl : Int)) ∧ _) from by rw [← hvl]; exact number3 c0 c1 c2 c3 c4 c5 c6 _)).mono ?_) (hw := (by exact wanted_g (e := 44) (b' := true) rfl (by simp [hsz]) rfl))
      rintro _ V11 ⟨rfl, hv11⟩
      replace hR : (fun w : World => (Whole w b3 29 #[.int .i64 s.width, .int .i64 s.step, .slice A s.rd.length c] ∧ IntsAt w W.heap.size A s.rd) ∧ Whole w b7 97 #[u8V nm.1, .int .i64 (nm.2 : Int)] ∧ Whole w b8 83 (r7 c0 c1 c2 c3 c4 c5 c6) ∧ Below W.heap.size W w) V11 := hgr _ _ hR hv11
      refine ⟨_, rfl, fun _ _ => hR, ?_⟩
      refine AnyK.bin (i := 12) may_o (u := .int .i64 (s.rd[nm.2])) (u' := .int .i64 (vl : Int)) (v := .bool true) (by simp [hsz]) (by simp [hsz]) (fun w => neqT hv w) hR (hw := (by exact wanted_g (e := 44) (b' := true) rfl (by simp [hsz]) rfl)) ?_
      refine AnyK.pick (i := 13) may_o (b := true) (v := .bool true) (by simp [hsz]) (by simp [hsz]) hR ?_
      refine AnyK.move (i := 14) may_o (v := .bool true) (by simp [hsz]) hR ?_
      refine AnyK.passG (i := 15) may_o (e := 55) (b' := true) rfl (by simp [hsz]) rfl hR ?_
      refine AnyK.passG (i := 16) may_o (e := 55) (b' := true) rfl (by simp [hsz]) rfl hR ?_
      refine AnyK.passG (i := 17) may_o (e := 55) (b' := true) rfl (by simp [hsz]) rfl hR ?_
      refine AnyK.passG (i := 18) may_o (e := 55) (b' := true) rfl (by simp [hsz]) rfl hR ?_
      refine AnyK.passU (i := 19) may_o (e := 59) rfl (by simp [hsz]) hR ?_
      refine AnyK.passU (i := 20) may_o (e := 59) rfl (by simp [hsz]) hR ?_
      refine AnyK.passU (i := 21) may_o (e := 59) rfl (by simp [hsz]) hR ?_
      refine AnyK.passU (i := 22) may_o (e := 59) rfl (by simp [hsz]) hR ?_
      refine AnyK.passU (i := 23) may_o (e := 59) rfl (by simp [hsz]) hR ?_
      refine AnyK.passU (i := 24) may_o (e := 59) rfl (by simp [hsz]) hR ?_
      refine AnyK.passU (i := 25) may_o (e := 59) rfl (by simp [hsz]) hR ?_
      refine AnyK.passG (i := 26) may_o (e := 55) (b' := true) rfl (by simp [hsz]) rfl hR ?_
      refine AnyK.pick (i := 27) may_o (b := true) (v := .bool true) (by simp [hsz]) (by simp) hR ?_
      refine AnyK.done (by kernel_rfl) ?_
      exact hQ _ _ (by simp only [size_put, hsz]) (by simp only [defers_put]) (by simp [t3]) (by simp [t35]) (by rw [e82, hd]; exact (by simp [hsz])) hR.2.2.2
  · have en : ((nm.1.toNat : Int)) ≠ 82 := fun e => e82 (UInt8.toNat_inj.1 (show nm.1.toNat = 82 by omega))
    have b82 : (nm.1 == 82) = false := by simpa using e82
    by_cases e80 : nm.1 = 80
    · have en2 : ((nm.1.toNat : Int)) = 80 := by rw [e80]; rfl
      have hk := h80 e80
      by_cases hv : sumB s nm.2 = (vl : Int)
      · have hd : decide (sumB s nm.2 ≠ (vl : Int)) = false := by simp [hv]
        refine region_K (KpR (fun w : World => (Whole w b3 29 #[.int .i64 s.width, .int .i64 s.step, .slice A s.rd.length c] ∧ IntsAt w W.heap.size A s.rd) ∧ Whole w b7 97 #[u8V nm.1, .int .i64 (nm.2 : Int)] ∧ Whole w b8 83 (r7 c0 c1 c2 c3 c4 c5 c6) ∧ Below W.heap.size W w) (fun _ => false)) (wideF_plain _) (by kernel_rfl) Try.mixed ?_
        change AnyK _ _ _ _ 28 (Array.replicate 28 false) _ _
        have hR : (fun w : World => (Whole w b3 29 #[.int .i64 s.width, .int .i64 s.step, .slice A s.rd.length c] ∧ IntsAt w W.heap.size A s.rd) ∧ Whole w b7 97 #[u8V nm.1, .int .i64 (nm.2 : Int)] ∧ Whole w b8 83 (r7 c0 c1 c2 c3 c4 c5 c6) ∧ Below W.heap.size W w) W.drew := hR0
        refine AnyK.field (i := 0) may_o (u := .pointer (some ⟨b7, 0, none⟩)) (v := .pointer (some ⟨b7, 0, none⟩)) (by simp [t7]) (fun w => fa97_0 w) hR ?_
        refine AnyK.load (i := 1) may_o (p := ⟨b7, 0, none⟩) (v := u8V nm.1) (by simp [hsz]) (fun w hw => ld5 (hw.2.1.cell 0)) hR ?_
        refine AnyK.bin (i := 2) may_o (u := u8V nm.1) (u' := .int .u8 82) (v := .bool false) (by simp [hsz]) (by simp) (fun w => eql5F en w) hR ?_
        refine AnyK.move (i := 3) may_o (v := .bool false) (by simp [hsz]) hR ?_
        refine AnyK.passG (i := 4) may_o (e := 44) (b' := false) rfl (by simp [hsz]) rfl hR ?_
        refine AnyK.passG (i := 5) may_o (e := 44) (b' := false) rfl (by simp [hsz]) rfl hR ?_
        refine AnyK.passG (i := 6) may_o (e := 44) (b' := false) rfl (by simp [hsz]) rfl hR ?_
        refine AnyK.passG (i := 7) may_o (e := 44) (b' := false) rfl (by simp [hsz]) rfl hR ?_
        refine AnyK.passG (i := 8) may_o (e := 44) (b' := false) rfl (by simp [hsz]) rfl hR ?_
        refine AnyK.passG (i := 9) may_o (e := 44) (b' := false) rfl (by simp [hsz]) rfl hR ?_
        refine AnyK.passG (i := 10) may_o (e := 44) (b' := false) rfl (by simp [hsz]) rfl hR ?_
        refine AnyK.passG (i := 11) may_o (e := 44) (b' := false) rfl (by simp [hsz]) rfl hR ?_
        refine AnyK.passG (i := 12) may_o (e := 44) (b' := false) rfl (by simp [hsz]) rfl hR ?_
        refine AnyK.pick (i := 13) may_o (b := false) (v := .bool false) (by simp [hsz]) (by simp) hR ?_
        refine AnyK.move (i := 14) may_o (v := .bool false) (by simp [hsz]) hR ?_
        refine AnyK.field (i := 15) may_o (u := .pointer (some ⟨b7, 0, none⟩)) (v := .pointer (some ⟨b7, 0, none⟩)) (by simp [t7]) (fun w => fa97_0 w) hR (hw := (by exact wanted_g (e := 55) (b' := false) rfl (by simp [hsz]) rfl)) ?_
        refine AnyK.load (i := 16) may_o (p := ⟨b7, 0, none⟩) (v := u8V nm.1) (by simp [hsz]) (fun w hw => ld5 (hw.2.1.cell 0)) hR (hw := (by exact wanted_g (e := 55) (b' := false) rfl (by simp [hsz]) rfl)) ?_
        refine AnyK.bin (i := 17) may_o (u := u8V nm.1) (u' := .int .u8 80) (v := .bool true) (by simp [hsz]) (by simp) (fun w => eql5T en2 w) hR (hw := (by exact wanted_g (e := 55) (b' := false) rfl (by simp [hsz]) rfl)) ?_
        refine AnyK.move (i := 18) may_o (v := .bool true) (by simp [hsz]) hR (hw := (by exact wanted_g (e := 55) (b' := false) rfl (by simp [hsz]) rfl)) ?_
        refine AnyK.load (i := 19) may_o (p := ⟨b3, 0, none⟩) (v := serV s A c) (by simp [t3]) (fun w hw => ld29 ⟨hw.1.1.cell 0, hw.1.1.cell 1, hw.1.1.cell 2⟩) hR (hw := (by exact wanted_g (e := 59) (b' := true) rfl (by simp [hsz]) rfl)) ?_
        refine AnyK.field (i := 20) may_o (u := .pointer (some ⟨b7, 0, none⟩)) (v := .pointer (some ⟨b7, 1, none⟩)) (by simp [t7]) (fun w => fa97_1 w) hR (hw := (by exact wanted_g (e := 59) (b' := true) rfl (by simp [hsz]) rfl)) ?_
        refine AnyK.load (i := 21) may_o (p := ⟨b7, 1, none⟩) (v := .int .i64 (nm.2 : Int)) (by simp [hsz]) (fun w hw => ld3 (hw.2.1.cell 1)) hR (hw := (by exact wanted_g (e := 59) (b' := true) rfl (by simp [hsz]) rfl)) ?_
        refine AnyK.load (i := 23) may_o (p := ⟨b8, 0, none⟩) (v := rV c0 c1 c2 c3 c4 c5 c6) (by simp [t8]) (fun w hw => ld83 hw.2.2.1) hR (hw := (by exact wanted_g (e := 59) (b' := true) rfl (by simp [hsz]) rfl)) ?_
        refine AnyK.pick1 (i := 22) (by kernel_rfl) ?_
        refine StepK.call (i := 22) (f := 52) (vs := #[serV s A c, .int .i64 (nm.2 : Int)]) rfl (enters_of Try.func52 (by kernel_rfl) rfl) rfl (by simp [hsz]) ((sum_any s A c nm.2 _ (by omega) (by omega) (by omega) hk hin (hR.1.2.more hR.2.2.2.size)).mono ?_) (hw := (by exact wanted_g (e := 59) (b' := true) rfl (by simp [hsz]) rfl))
        rintro _ V22 ⟨rfl, hv22⟩
        replace hR : (fun w : World => (Whole w b3 29 #[.int .i64 s.width, .int .i64 s.step, .slice A s.rd.length c] ∧ IntsAt w W.heap.size A s.rd) ∧ Whole w b7 97 #[u8V nm.1, .int .i64 (nm.2 : Int)] ∧ Whole w b8 83 (r7 c0 c1 c2 c3 c4 c5 c6) ∧ Below W.heap.size W w) V22 := hgr _ _ hR hv22
        refine ⟨_, rfl, fun _ _ => hR, ?_⟩
        refine AnyK.pick1 (i := 24) (by kernel_rfl) ?_
        refine StepK.call (i := 24) (f := 59) (vs := #[rV c0 c1 c2 c3 c4 c5 c6, .int .i64 (3)]) rfl (enters_of Try.func59 (by kernel_rfl) rfl) rfl (by simp [hsz]) (((show Calls Try.prog 59 #[rV c0 c1 c2 c3 c4 c5 c6, .int .i64 3] _ (fun e w' => e = .returned (.int .i64 (vl : Int)) ∧ _) from by rw [← hvl]; exact number3 c0 c1 c2 c3 c4 c5 c6 _)).mono ?_) (hw := (by exact wanted_g (e := 59) (b' := true) rfl (by simp [hsz]) rfl))
        rintro _ V24 ⟨rfl, hv24⟩
        replace hR : (fun w : World => (Whole w b3 29 #[.int .i64 s.width, .int .i64 s.step, .slice A s.rd.length c] ∧ IntsAt w W.heap.size A s.rd) ∧ Whole w b7 97 #[u8V nm.1, .int .i64 (nm.2 : Int)] ∧ Whole w b8 83 (r7 c0 c1 c2 c3 c4 c5 c6) ∧ Below W.heap.size W w) V24 := hgr _ _ hR hv24
        refine ⟨_, rfl, fun _ _ => hR, ?_⟩
        refine AnyK.bin (i := 25) may_o (u := .int .i64 (sumB s nm.2)) (u' := .int .i64 (vl : Int)) (v := .bool false) (by simp [hsz]) (by simp [hsz]) (fun w => neqF hv w) hR (hw := (by exact wanted_g (e := 59) (b' := true) rfl (by simp [hsz]) rfl)) ?_
        refine AnyK.pick (i := 26) may_o (b := true) (v := .bool false) (by simp [hsz]) (by simp [hsz]) hR (hw := (by exact wanted_g (e := 55) (b' := false) rfl (by simp [hsz]) rfl)) ?_
        refine AnyK.pick (i := 27) may_o (b := false) (v := .bool false) (by simp [hsz]) (by simp [hsz]) hR ?_
        refine AnyK.done (by kernel_rfl) ?_
        exact hQ _ _ (by simp only [size_put, hsz]) (by simp only [defers_put]) (by simp [t3]) (by simp [t35]) (by rw [b82, e80, hd]; exact (by simp [hsz])) hR.2.2.2
      · have hd : decide (sumB s nm.2 ≠ (vl : Int)) = true := by simp [hv]
        refine region_K (KpR (fun w : World => (Whole w b3 29 #[.int .i64 s.width, .int .i64 s.step, .slice A s.rd.length c] ∧ IntsAt w W.heap.size A s.rd) ∧ Whole w b7 97 #[u8V nm.1, .int .i64 (nm.2 : Int)] ∧ Whole w b8 83 (r7 c0 c1 c2 c3 c4 c5 c6) ∧ Below W.heap.size W w) (fun _ => false)) (wideF_plain _) (by kernel_rfl) Try.mixed ?_
        change AnyK _ _ _ _ 28 (Array.replicate 28 false) _ _
        have hR : (fun w : World => (Whole w b3 29 #[.int .i64 s.width, .int .i64 s.step, .slice A s.rd.length c] ∧ IntsAt w W.heap.size A s.rd) ∧ Whole w b7 97 #[u8V nm.1, .int .i64 (nm.2 : Int)] ∧ Whole w b8 83 (r7 c0 c1 c2 c3 c4 c5 c6) ∧ Below W.heap.size W w) W.drew := hR0
        refine AnyK.field (i := 0) may_o (u := .pointer (some ⟨b7, 0, none⟩)) (v := .pointer (some ⟨b7, 0, none⟩)) (by simp [t7]) (fun w => fa97_0 w) hR ?_
        refine AnyK.load (i := 1) may_o (p := ⟨b7, 0, none⟩) (v := u8V nm.1) (by simp [hsz]) (fun w hw => ld5 (hw.2.1.cell 0)) hR ?_
        refine AnyK.bin (i := 2) may_o (u := u8V nm.1) (u' := .int .u8 82) (v := .bool false) (by simp [hsz]) (by simp) (fun w => eql5F en w) hR ?_
        refine AnyK.move (i := 3) may_o (v := .bool false) (by simp [hsz]) hR ?_
        refine AnyK.passG (i := 4) may_o (e := 44) (b' := false) rfl (by simp [hsz]) rfl hR ?_
        refine AnyK.passG (i := 5) may_o (e := 44) (b' := false) rfl (by simp [hsz]) rfl hR ?_
        refine AnyK.passG (i := 6) may_o (e := 44) (b' := false) rfl (by simp [hsz]) rfl hR ?_
        refine AnyK.passG (i := 7) may_o (e := 44) (b' := false) rfl (by simp [hsz]) rfl hR ?_
        refine AnyK.passG (i := 8) may_o (e := 44) (b' := false) rfl (by simp [hsz]) rfl hR ?_
        refine AnyK.passG (i := 9) may_o (e := 44) (b' := false) rfl (by simp [hsz]) rfl hR ?_
        refine AnyK.passG (i := 10) may_o (e := 44) (b' := false) rfl (by simp [hsz]) rfl hR ?_
        refine AnyK.passG (i := 11) may_o (e := 44) (b' := false) rfl (by simp [hsz]) rfl hR ?_
        refine AnyK.passG (i := 12) may_o (e := 44) (b' := false) rfl (by simp [hsz]) rfl hR ?_
        refine AnyK.pick (i := 13) may_o (b := false) (v := .bool false) (by simp [hsz]) (by simp) hR ?_
        refine AnyK.move (i := 14) may_o (v := .bool false) (by simp [hsz]) hR ?_
        refine AnyK.field (i := 15) may_o (u := .pointer (some ⟨b7, 0, none⟩)) (v := .pointer (some ⟨b7, 0, none⟩)) (by simp [t7]) (fun w => fa97_0 w) hR (hw := (by exact wanted_g (e := 55) (b' := false) rfl (by simp [hsz]) rfl)) ?_
        refine AnyK.load (i := 16) may_o (p := ⟨b7, 0, none⟩) (v := u8V nm.1) (by simp [hsz]) (fun w hw => ld5 (hw.2.1.cell 0)) hR (hw := (by exact wanted_g (e := 55) (b' := false) rfl (by simp [hsz]) rfl)) ?_
        refine AnyK.bin (i := 17) may_o (u := u8V nm.1) (u' := .int .u8 80) (v := .bool true) (by simp [hsz]) (by simp) (fun w => eql5T en2 w) hR (hw := (by exact wanted_g (e := 55) (b' := false) rfl (by simp [hsz]) rfl)) ?_
        refine AnyK.move (i := 18) may_o (v := .bool true) (by simp [hsz]) hR (hw := (by exact wanted_g (e := 55) (b' := false) rfl (by simp [hsz]) rfl)) ?_
        refine AnyK.load (i := 19) may_o (p := ⟨b3, 0, none⟩) (v := serV s A c) (by simp [t3]) (fun w hw => ld29 ⟨hw.1.1.cell 0, hw.1.1.cell 1, hw.1.1.cell 2⟩) hR (hw := (by exact wanted_g (e := 59) (b' := true) rfl (by simp [hsz]) rfl)) ?_
        refine AnyK.field (i := 20) may_o (u := .pointer (some ⟨b7, 0, none⟩)) (v := .pointer (some ⟨b7, 1, none⟩)) (by simp [t7]) (fun w => fa97_1 w) hR (hw := (by exact wanted_g (e := 59) (b' := true) rfl (by simp [hsz]) rfl)) ?_
        refine AnyK.load (i := 21) may_o (p := ⟨b7, 1, none⟩) (v := .int .i64 (nm.2 : Int)) (by simp [hsz]) (fun w hw => ld3 (hw.2.1.cell 1)) hR (hw := (by exact wanted_g (e := 59) (b' := true) rfl (by simp [hsz]) rfl)) ?_
        refine AnyK.load (i := 23) may_o (p := ⟨b8, 0, none⟩) (v := rV c0 c1 c2 c3 c4 c5 c6) (by simp [t8]) (fun w hw => ld83 hw.2.2.1) hR (hw := (by exact wanted_g (e := 59) (b' := true) rfl (by simp [hsz]) rfl)) ?_
        refine AnyK.pick1 (i := 22) (by kernel_rfl) ?_
        refine StepK.call (i := 22) (f := 52) (vs := #[serV s A c, .int .i64 (nm.2 : Int)]) rfl (enters_of Try.func52 (by kernel_rfl) rfl) rfl (by simp [hsz]) ((sum_any s A c nm.2 _ (by omega) (by omega) (by omega) hk hin (hR.1.2.more hR.2.2.2.size)).mono ?_) (hw := (by exact wanted_g (e := 59) (b' := true) rfl (by simp [hsz]) rfl))
        rintro _ V22 ⟨rfl, hv22⟩
        replace hR : (fun w : World => (Whole w b3 29 #[.int .i64 s.width, .int .i64 s.step, .slice A s.rd.length c] ∧ IntsAt w W.heap.size A s.rd) ∧ Whole w b7 97 #[u8V nm.1, .int .i64 (nm.2 : Int)] ∧ Whole w b8 83 (r7 c0 c1 c2 c3 c4 c5 c6) ∧ Below W.heap.size W w) V22 := hgr _ _ hR hv22
        refine ⟨_, rfl, fun _ _ => hR, ?_⟩
        refine AnyK.pick1 (i := 24) (by kernel_rfl) ?_
        refine StepK.call (i := 24) (f := 59) (vs := #[rV c0 c1 c2 c3 c4 c5 c6, .int .i64 (3)]) rfl (enters_of Try.func59 (by kernel_rfl) rfl) rfl (by simp [hsz]) (((show Calls Try.prog 59 #[rV c0 c1 c2 c3 c4 c5 c6, .int .i64 3] _ (fun e w' => e = .returned (.int .i64 (vl : Int)) ∧ _) from by rw [← hvl]; exact number3 c0 c1 c2 c3 c4 c5 c6 _)).mono ?_) (hw := (by exact wanted_g (e := 59) (b' := true) rfl (by simp [hsz]) rfl))
        rintro _ V24 ⟨rfl, hv24⟩
        replace hR : (fun w : World => (Whole w b3 29 #[.int .i64 s.width, .int .i64 s.step, .slice A s.rd.length c] ∧ IntsAt w W.heap.size A s.rd) ∧ Whole w b7 97 #[u8V nm.1, .int .i64 (nm.2 : Int)] ∧ Whole w b8 83 (r7 c0 c1 c2 c3 c4 c5 c6) ∧ Below W.heap.size W w) V24 := hgr _ _ hR hv24
        refine ⟨_, rfl, fun _ _ => hR, ?_⟩
        refine AnyK.bin (i := 25) may_o (u := .int .i64 (sumB s nm.2)) (u' := .int .i64 (vl : Int)) (v := .bool true) (by simp [hsz]) (by simp [hsz]) (fun w => neqT hv w) hR (hw := (by exact wanted_g (e := 59) (b' := true) rfl (by simp [hsz]) rfl)) ?_
        refine AnyK.pick (i := 26) may_o (b := true) (v := .bool true) (by simp [hsz]) (by simp [hsz]) hR (hw := (by exact wanted_g (e := 55) (b' := false) rfl (by simp [hsz]) rfl)) ?_
        refine AnyK.pick (i := 27) may_o (b := false) (v := .bool true) (by simp [hsz]) (by simp [hsz]) hR ?_
        refine AnyK.done (by kernel_rfl) ?_
        exact hQ _ _ (by simp only [size_put, hsz]) (by simp only [defers_put]) (by simp [t3]) (by simp [t35]) (by rw [b82, e80, hd]; exact (by simp [hsz])) hR.2.2.2
    · have en2 : ((nm.1.toNat : Int)) ≠ 80 := fun e => e80 (UInt8.toNat_inj.1 (show nm.1.toNat = 80 by omega))
      have b80 : (nm.1 == 80) = false := by simpa using e80
      refine region_K (KpR (fun w : World => (Whole w b3 29 #[.int .i64 s.width, .int .i64 s.step, .slice A s.rd.length c] ∧ IntsAt w W.heap.size A s.rd) ∧ Whole w b7 97 #[u8V nm.1, .int .i64 (nm.2 : Int)] ∧ Whole w b8 83 (r7 c0 c1 c2 c3 c4 c5 c6) ∧ Below W.heap.size W w) (fun _ => false)) (wideF_plain _) (by kernel_rfl) Try.mixed ?_
      change AnyK _ _ _ _ 28 (Array.replicate 28 false) _ _
      have hR : (fun w : World => (Whole w b3 29 #[.int .i64 s.width, .int .i64 s.step, .slice A s.rd.length c] ∧ IntsAt w W.heap.size A s.rd) ∧ Whole w b7 97 #[u8V nm.1, .int .i64 (nm.2 : Int)] ∧ Whole w b8 83 (r7 c0 c1 c2 c3 c4 c5 c6) ∧ Below W.heap.size W w) W.drew := hR0
      refine AnyK.field (i := 0) may_o (u := .pointer (some ⟨b7, 0, none⟩)) (v := .pointer (some ⟨b7, 0, none⟩)) (by simp [t7]) (fun w => fa97_0 w) hR ?_
      refine AnyK.load (i := 1) may_o (p := ⟨b7, 0, none⟩) (v := u8V nm.1) (by simp [hsz]) (fun w hw => ld5 (hw.2.1.cell 0)) hR ?_
      refine AnyK.bin (i := 2) may_o (u := u8V nm.1) (u' := .int .u8 82) (v := .bool false) (by simp [hsz]) (by simp) (fun w => eql5F en w) hR ?_
      refine AnyK.move (i := 3) may_o (v := .bool false) (by simp [hsz]) hR ?_
      refine AnyK.passG (i := 4) may_o (e := 44) (b' := false) rfl (by simp [hsz]) rfl hR ?_
      refine AnyK.passG (i := 5) may_o (e := 44) (b' := false) rfl (by simp [hsz]) rfl hR ?_
      refine AnyK.passG (i := 6) may_o (e := 44) (b' := false) rfl (by simp [hsz]) rfl hR ?_
      refine AnyK.passG (i := 7) may_o (e := 44) (b' := false) rfl (by simp [hsz]) rfl hR ?_
      refine AnyK.passG (i := 8) may_o (e := 44) (b' := false) rfl (by simp [hsz]) rfl hR ?_
      refine AnyK.passG (i := 9) may_o (e := 44) (b' := false) rfl (by simp [hsz]) rfl hR ?_
      refine AnyK.passG (i := 10) may_o (e := 44) (b' := false) rfl (by simp [hsz]) rfl hR ?_
      refine AnyK.passG (i := 11) may_o (e := 44) (b' := false) rfl (by simp [hsz]) rfl hR ?_
      refine AnyK.passG (i := 12) may_o (e := 44) (b' := false) rfl (by simp [hsz]) rfl hR ?_
      refine AnyK.pick (i := 13) may_o (b := false) (v := .bool false) (by simp [hsz]) (by simp) hR ?_
      refine AnyK.move (i := 14) may_o (v := .bool false) (by simp [hsz]) hR ?_
      refine AnyK.field (i := 15) may_o (u := .pointer (some ⟨b7, 0, none⟩)) (v := .pointer (some ⟨b7, 0, none⟩)) (by simp [t7]) (fun w => fa97_0 w) hR (hw := (by exact wanted_g (e := 55) (b' := false) rfl (by simp [hsz]) rfl)) ?_
      refine AnyK.load (i := 16) may_o (p := ⟨b7, 0, none⟩) (v := u8V nm.1) (by simp [hsz]) (fun w hw => ld5 (hw.2.1.cell 0)) hR (hw := (by exact wanted_g (e := 55) (b' := false) rfl (by simp [hsz]) rfl)) ?_
      refine AnyK.bin (i := 17) may_o (u := u8V nm.1) (u' := .int .u8 80) (v := .bool false) (by simp [hsz]) (by simp) (fun w => eql5F en2 w) hR (hw := (by exact wanted_g (e := 55) (b' := false) rfl (by simp [hsz]) rfl)) ?_
      refine AnyK.move (i := 18) may_o (v := .bool false) (by simp [hsz]) hR (hw := (by exact wanted_g (e := 55) (b' := false) rfl (by simp [hsz]) rfl)) ?_
      refine AnyK.passG (i := 19) may_o (e := 59) (b' := false) rfl (by simp [hsz]) rfl hR ?_
      refine AnyK.passG (i := 20) may_o (e := 59) (b' := false) rfl (by simp [hsz]) rfl hR ?_
      refine AnyK.passG (i := 21) may_o (e := 59) (b' := false) rfl (by simp [hsz]) rfl hR ?_
      refine AnyK.passG (i := 22) may_o (e := 59) (b' := false) rfl (by simp [hsz]) rfl hR ?_
      refine AnyK.passG (i := 23) may_o (e := 59) (b' := false) rfl (by simp [hsz]) rfl hR ?_
      refine AnyK.passG (i := 24) may_o (e := 59) (b' := false) rfl (by simp [hsz]) rfl hR ?_
      refine AnyK.passG (i := 25) may_o (e := 59) (b' := false) rfl (by simp [hsz]) rfl hR ?_
      refine AnyK.pick (i := 26) may_o (b := false) (v := .bool false) (by simp [hsz]) (by simp) hR (hw := (by exact wanted_g (e := 55) (b' := false) rfl (by simp [hsz]) rfl)) ?_
      refine AnyK.pick (i := 27) may_o (b := false) (v := .bool false) (by simp [hsz]) (by simp [hsz]) hR ?_
      refine AnyK.done (by kernel_rfl) ?_
      exact hQ _ _ (by simp only [size_put, hsz]) (by simp only [defers_put]) (by simp [t3]) (by simp [t35]) (by rw [b82, b80]; exact (by simp [hsz])) hbd
end
end Go.Proofs.YtmdlmmfbcnkanaaR
namespace Go.Proofs.YtmdlmmfbcnkanaaR
open Go.RowKit Go.Shelf
theorem neq77 {a b : Operand} (x y z x' y' z' : Int) (w : World) : (do eqGuard .neq 77 a b (headV x y z) (headV x' y' z'); binOp .neq 77 (headV x y z) (headV x' y' z') : Sem Value).run Try.prog w = .ok (.bool (!(decide (x = x') && (decide (y = y') && decide (z = z'))))) w := by
  go_simp
  by_cases h1 : x = x' <;> by_cases h2 : y = y' <;> by_cases h3 : z = z' <;> simp [h1, h2, h3]
section
variable {s : Ser} {A : Option Addr} {c b3 ba M : Nat} {h : Head} {m : List (List UInt8)} {W0 : World}
attribute [local irreducible] AnyK StepK
set_option maxHeartbeats 400000 in
theorem fit_l_any {r0 : Nat} {D : List Nat} {a : Act} {W : World} {Q : Exit → Act → World → Prop} (hf : faultS s = 0) (hh : HeadB h) (hmany : h.many = s.rd.length) (hgd : ∀ r, r ∈ m → isGood r = true) (hout : ∀ r, r ∈ m → outOf h r = false)
    (w3 : Whole W0 b3 29 #[.int .i64 s.width, .int .i64 s.step, .slice A s.rd.length c]) (hs : IntsAt W0 W0.heap.size A s.rd) (har : ArchAt W0 ba M h m) (low : Below W0.heap.size W0 W) (it : IterAt nameV W r0 M (recMap m) D) (hr0 : W0.heap.size ≤ r0)
    (hsz : a.tmps.size = 69) (hdf : a.defers = []) (t3 : a.eval (.tmp 3) = ptr b3) (t35 : a.eval (.tmp 35) = ptr r0)
    (hN : ∀ a' W' j r, m[j]? = some r → okRec s r = true → a'.tmps.size = 69 → a'.defers = [] → a'.eval (.tmp 3) = ptr b3 → a'.eval (.tmp 35) = ptr r0 → Below W0.heap.size W0 W' → IterAt nameV W' r0 M (recMap m) (D ++ [j]) → D.length < m.length → Q .normal a' W')
    (hX : ∀ a', (∀ j, j < m.length → j ∈ D) → a'.tmps.size = 69 → a'.defers = [] → Q (.exit 0) a' W)
    (hR : ∀ a' W' r, r ∈ m → okRec s r = false → a'.defers = [] → a'.eval (.tmp 4) = .bool false → Below W0.heap.size W0 W' → Q .ret a' W') :
    fit_l.wpIn Fence.wide 5 Try.prog Q a W := by
  have hltM := har.lt.2
  unfold fit_l
  rcases it.next (by omega) 0 with ⟨hall, hnx⟩ | ⟨j, k, v, W1, hjk, hlt, hnx, it1, he1⟩
  · skip
    refine wpIn_seq (region_p 2 ?_)
    intro K hK
    refine ListK.next (i := 0) (u := ptr r0) rfl (by simp [t35]) hnx ?_
    refine ListK.extract (i := 1) (u := .tuple #[.bool false]) (v := .bool false) rfl (by simp [hsz]) (ex0s _ _) ?_
    refine ListK.done (hK _ _ ?_)
    clear hK K
    refine wpIn_seq (wpIn_cond (t := false) (by simp [hsz]) (wpIn_exit ?_))
    exact hX _ (fun j hj => hall j (by simpa [recMap] using hj)) (by simp only [size_put, hsz]) (by simp only [defers_put, hdf])
  · have low1 := low.trans (he1.below low.size (fun k hk => by omega))
    obtain ⟨r, hr, hkr, hvr⟩ : ∃ r, m[j]? = some r ∧ k = nameOf r ∧ v = .agg (recC r) := by
      simp only [recMap, List.getElem?_map, Option.map_eq_some_iff, Prod.mk.injEq] at hjk
      obtain ⟨r, h1, h2, h3⟩ := hjk
      exact ⟨r, h1, h2.symm, h3.symm⟩
    subst hkr
    have hent := it1.entry hjk
    have hlt' : D.length < m.length := by simpa [recMap] using hlt
    have hrm := List.mem_of_getElem? hr
    obtain ⟨c0, c1, c2, c3, c4, c5, c6, hre⟩ := len7 (good_seven (hgd r hrm))
    have hv7 : v = rV c0 c1 c2 c3 c4 c5 c6 := by rw [hvr, hre]; rfl
    subst hv7
    refine wpIn_seq (region_p 2 ?_)
    intro K hK
    refine ListK.next (i := 0) (u := ptr r0) rfl (by simp [t35]) hnx ?_
    refine ListK.extract (i := 1) (u := .tuple #[.bool true, nameV (nameOf r), rV c0 c1 c2 c3 c4 c5 c6]) (v := .bool true) rfl (by simp [hsz]) (ex0t _ _ _ _) ?_
    refine ListK.done (hK _ _ ?_)
    clear hK K
    refine wpIn_seq (wpIn_cond (t := true) (by simp [hsz]) (wpIn_skip ?_))
    generalize hA : Act.put _ _ _ = a1
    have hz_a1 : a1.tmps.size = 69 := by rw [← hA]; simp only [size_put, hsz]
    have u3 : a1.eval (.tmp 3) = .pointer (some ⟨b3, 0, none⟩) := by rw [← hA]; exact (by simp [t3])
    have u35 : a1.eval (.tmp 35) = .pointer (some ⟨r0, 0, none⟩) := by rw [← hA]; exact (by simp [t35])
    have hd_a1 : a1.defers = [] := by rw [← hA]; simp only [defers_put, hdf]
    clear hA
    refine wpIn_block ?_
    have hbA : Below W1.heap.size W1 (W1.alloc (.cells #[.int .u8 0, .int .i64 0] 97)) := (Below.refl _ W1).alloc (Nat.le_refl _) _
    have hbB : Below (W1.alloc (.cells #[.int .u8 0, .int .i64 0] 97)).heap.size (W1.alloc (.cells #[.int .u8 0, .int .i64 0] 97)) ((W1.alloc (.cells #[.int .u8 0, .int .i64 0] 97)).alloc (.cells z7 83)) := (Below.refl _ (W1.alloc (.cells #[.int .u8 0, .int .i64 0] 97))).alloc (Nat.le_refl _) _
    have w7b := (Whole.new W1 97 #[.int .u8 0, .int .i64 0]).below hbB (Whole.new W1 97 #[.int .u8 0, .int .i64 0]).lt
    have w8b := Whole.new (W1.alloc (.cells #[.int .u8 0, .int .i64 0] 97)) 83 z7
    have hlt78 := (Whole.new W1 97 #[.int .u8 0, .int .i64 0]).lt
    have heC : Else (fun k => k = W1.heap.size) ((W1.alloc (.cells #[.int .u8 0, .int .i64 0] 97)).alloc (.cells z7 83)) ((((W1.alloc (.cells #[.int .u8 0, .int .i64 0] 97)).alloc (.cells z7 83)).setCell ⟨W1.heap.size, 0, none⟩ (u8V (nameOf r).1)).setCell ⟨W1.heap.size, 1, none⟩ (.int .i64 ((nameOf r).2 : Int))) := ((Else.refl (fun k => k = W1.heap.size) _).setCell (p := ⟨W1.heap.size, 0, none⟩) (.inl rfl) _).setCell (p := ⟨W1.heap.size, 1, none⟩) (.inl rfl) _
    have w8c := heC.whole (by omega) w8b
    have w7c := (w7b.set 0 (u8V (nameOf r).1)).set 1 (.int .i64 ((nameOf r).2 : Int))
    refine wpIn_seq (region_p 7 ?_)
    intro K hK
    refine ListK.entry (i := 0) (u := ptr r0) rfl (by simp [u35]) hent ?_
    refine ListK.extract (i := 1) (u := .tuple #[nameV (nameOf r), rV c0 c1 c2 c3 c4 c5 c6]) (v := nameV (nameOf r)) rfl (by simp [hz_a1]) (ex0 _ _ _) ?_
    refine ListK.extract (i := 2) (u := .tuple #[nameV (nameOf r), rV c0 c1 c2 c3 c4 c5 c6]) (v := rV c0 c1 c2 c3 c4 c5 c6) rfl (by simp [hz_a1]) (ex1 _ _ _) ?_
    refine ListK.alloc (i := 3) rfl (al97 W1) ?_
    refine ListK.alloc (i := 4) rfl (al83 (W1.alloc (.cells #[.int .u8 0, .int .i64 0] 97))) ?_
    refine ListK.store (i := 5) (u := .pointer (some ⟨W1.heap.size, 0, none⟩)) (u' := nameV (nameOf r)) rfl (by simp [hz_a1]) (by simp [hz_a1]) (st97 w7b) ?_
    refine ListK.store (i := 6) (u := .pointer (some ⟨(W1.alloc (.cells #[.int .u8 0, .int .i64 0] 97)).heap.size, 0, none⟩)) (u' := rV c0 c1 c2 c3 c4 c5 c6) rfl (by simp [hz_a1]) (by simp [hz_a1]) (st83 w8c) ?_
    refine ListK.done (hK _ _ ?_)
    clear hK K
    have w8d := put7_whole w8c (u8V c0) (u8V c1) (u8V c2) (u8V c3) (u8V c4) (u8V c5) (u8V c6)
    have heD := put7_else (w := (((W1.alloc (.cells #[.int .u8 0, .int .i64 0] 97)).alloc (.cells z7 83)).setCell ⟨W1.heap.size, 0, none⟩ (u8V (nameOf r).1)).setCell ⟨W1.heap.size, 1, none⟩ (.int .i64 ((nameOf r).2 : Int))) (b := (W1.alloc (.cells #[.int .u8 0, .int .i64 0] 97)).heap.size) (u8V c0) (u8V c1) (u8V c2) (u8V c3) (u8V c4) (u8V c5) (u8V c6)
    have w7d := heD.whole (by omega) w7c
    have hszA := hbA.size
    have hszB := hbB.size
    have hb2 := (hbA.trans (hbB.mono hszA)).trans ((heC.below (B := W1.heap.size) (by omega) (fun k hk e => by omega)).trans (heD.below (B := W1.heap.size) (by simp; omega) (fun k hk e => by omega)))
    generalize (W1.alloc (.cells #[.int .u8 0, .int .i64 0] 97)).heap.size = b8 at *
    have hrl : r0 < W1.heap.size := by obtain ⟨_, _, _, _, _, _, _, _, _, h6, _⟩ := it1.ex; exact (Array.getElem?_eq_some_iff.1 h6).1
    have hs01 := low1.size
    have it2 := it1.keep (hb2.block M (by omega)) (hb2.block r0 hrl)
    have hrl2 : r0 < _ := Nat.lt_of_lt_of_le hrl hb2.size
    have low2 := low1.trans (hb2.mono low1.size)
    generalize W1.heap.size = b7 at *
    generalize put7 ((((W1.alloc (.cells #[.int .u8 0, .int .i64 0] 97)).alloc (.cells z7 83)).setCell ⟨b7, 0, none⟩ (u8V (nameOf r).1)).setCell ⟨b7, 1, none⟩ (.int .i64 ((nameOf r).2 : Int))) b8 (u8V c0) (u8V c1) (u8V c2) (u8V c3) (u8V c4) (u8V c5) (u8V c6) = W2 at *
    generalize hA : Act.put _ _ _ = a2
    have hz_a2 : a2.tmps.size = 69 := by rw [← hA]; simp only [size_put, hz_a1]
    have v3 : a2.eval (.tmp 3) = .pointer (some ⟨b3, 0, none⟩) := by rw [← hA]; exact (by simp [u3])
    have v7 : a2.eval (.tmp 7) = .pointer (some ⟨b7, 0, none⟩) := by rw [← hA]; exact (by simp [hz_a1])
    have v8 : a2.eval (.tmp 8) = .pointer (some ⟨b8, 0, none⟩) := by rw [← hA]; exact (by simp [hz_a1])
    have v35 : a2.eval (.tmp 35) = .pointer (some ⟨r0, 0, none⟩) := by rw [← hA]; exact (by simp [u35])
    have hd_a2 : a2.defers = [] := by rw [← hA]; simp only [defers_put, hd_a1]
    clear hA
    have ho := hout r hrm
    have ho2 : ((nameOf r).1 = 82 → (nameOf r).2 < s.rd.length) ∧ ((nameOf r).1 = 80 → (nameOf r).2 ≤ 100) := by
      unfold outOf at ho
      rw [Bool.or_eq_false_iff, Bool.and_eq_false_iff, Bool.and_eq_false_iff] at ho
      refine ⟨fun e => ?_, fun e => ?_⟩
      · rcases ho.1 with h1 | h1
        · rw [e] at h1
          cases h1
        · simp at h1
          omega
      · rcases ho.2 with h1 | h1
        · rw [e] at h1
          cases h1
        · simp at h1
          have hb : h.blocks ≤ 48 := by
            unfold Head.blocks
            refine Nat.le_trans (Nat.div_le_self _ _) ?_
            have := hh.many
            have := hh.width
            omega
          omega
    subst hre
    refine wpIn_seq (ft_7 hf rfl rfl ho2.1 ho2.2 hz_a2 v3 v7 v8 v35 (w3.below low2 w3.lt) ((hs.below low2 (Nat.le_refl _)).more low2.size) w7d w8d (fun a' W' y0 yd y3 y35 y68 hb3 => ?_))
    rw [hd_a2] at yd
    have it3 := it2.keep (hb3.block M (by have := low2.size; omega)) (hb3.block r0 hrl2)
    have low3 := low2.trans (hb3.mono low2.size)
    cases ho : okRec s [c0, c1, c2, c3, c4, c5, c6] with
    | true =>
      rw [ho] at y68
      refine wpIn_cond (t := false) y68 (wpIn_skip ?_)
      exact hN a' W' j _ hr ho y0 yd y3 y35 low3 it3 hlt'
    | false =>
      rw [ho] at y68
      refine wpIn_cond (t := true) y68 ?_
      refine wpIn_seq (region_p 1 ?_)
      intro K hK
      refine ListK.assign (i := 0) (v := .bool false) rfl (by simp) ?_
      refine ListK.done (hK _ _ (wpIn_ret ?_))
      exact hR _ _ _ hrm ho (by simp only [defers_put, yd]) (by simp [y0]) low3
end
end Go.Proofs.YtmdlmmfbcnkanaaR
namespace Go.Proofs.YtmdlmmfbcnkanaaR
open Go.RowKit Go.Shelf
section
variable {s : Ser} {A : Option Addr} {c b3 ba M : Nat} {h : Head} {m : List (List UInt8)} {W0 : World}
attribute [local irreducible] AnyK StepK
set_option maxHeartbeats 400000 in
theorem fit_b_any {a : Act} {W W2 : World} (hf : faultS s = 0) (hh : HeadB h) (hmany : h.many = s.rd.length) (hgd : ∀ r, r ∈ m → isGood r = true) (hout : ∀ r, r ∈ m → outOf h r = false)
    (w3 : Whole W2 b3 29 #[.int .i64 s.width, .int .i64 s.step, .slice A s.rd.length c]) (hs : IntsAt W2 W2.heap.size A s.rd) (har : ArchAt W2 ba M h m) (hB : Below W.heap.size W W2)
    (hsz : a.tmps.size = 69) (hd_a : a.defers = []) (t3 : a.eval (.tmp 3) = ptr b3) (t5 : a.eval (.tmp 5) = ptr ba) :
    fit_b.wpIn Fence.wide 5 Try.prog (bodyPost Try.prog Try.f31 (EvP W (.bool (m.all (okRec s))))) a W2 := by
  obtain ⟨o, hrun, it⟩ := IterAt.new kl97 har.map
  unfold fit_b
  refine wpIn_seq (wpIn_seq (region_p 5 ?_))
  intro K hK
  refine ListK.move (i := 0) (v := .pointer (some ⟨ba, 0, none⟩)) rfl (by simp [t5]) ?_
  refine ListK.nilCheck (i := 1) (p := ⟨ba, 0, none⟩) rfl (by simp [hsz]) ?_
  refine ListK.field (i := 2) (u := .pointer (some ⟨ba, 0, none⟩)) (v := .pointer (some ⟨ba, 3, none⟩)) rfl (by simp [hsz]) (fa95_1 _) ?_
  refine ListK.load (i := 3) (p := ⟨ba, 3, none⟩) (v := .map (some M)) rfl (by simp [hsz]) (ld93m (har.whole.cell 3)) ?_
  refine ListK.range (i := 4) (u := .map (some M)) rfl (by simp [hsz]) hrun ?_
  refine ListK.done (hK _ _ ?_)
  clear hK K
  have hb1 : Below W2.heap.size W2 (W2.alloc o) := (Below.refl _ W2).alloc (Nat.le_refl _) _
  generalize hA : Act.put _ _ _ = a1
  have hz_a1 : a1.tmps.size = 69 := by rw [← hA]; simp only [size_put, hsz]
  have u3 : a1.eval (.tmp 3) = .pointer (some ⟨b3, 0, none⟩) := by rw [← hA]; exact (by simp [t3])
  have u35 : a1.eval (.tmp 35) = .pointer (some ⟨W2.heap.size, 0, none⟩) := by rw [← hA]; exact (by simp [hsz])
  have hd_a1 : a1.defers = [] := by rw [← hA]; simp only [defers_put, hd_a]
  clear hA
  refine wpIn_block (wpIn_loop (fun a W' => ∃ D, IterAt nameV W' W2.heap.size M (recMap m) D ∧ Below W2.heap.size W2 W' ∧ (∀ j r, j ∈ D → m[j]? = some r → okRec s r = true) ∧ a.tmps.size = 69 ∧ a.defers = [] ∧ a.eval (.tmp 3) = ptr b3 ∧ a.eval (.tmp 35) = ptr W2.heap.size) (fun _ W' => m.length - seenN W' W2.heap.size)
    ⟨[], it, hb1, fun _ _ h => by simp at h, hz_a1, hd_a1, u3, u35⟩ ?_)
  rintro b1 W3 ⟨D, it2, low2, hD, z2, d2, s3, s35⟩
  refine fit_l_any hf hh hmany hgd hout w3 hs har low2 it2 (Nat.le_refl _) z2 d2 s3 s35 (fun a' W' j r hj ho y0 yd y3 y35 low' it' hlt => ?_) (fun a' hall y0 yd => ?_) (fun a' W' r hr2 ho yd y4 low' => ?_)
  · refine ⟨⟨D ++ [j], it', low', fun j' r' hj' hr' => ?_, y0, yd, y3, y35⟩, ?_⟩
    · rcases List.mem_append.1 hj' with hj' | hj'
      · exact hD j' r' hj' hr'
      · simp at hj'
        subst hj'
        rw [hj] at hr'
        cases hr'
        exact ho
    · rw [it'.seenN, it2.seenN]
      simp
      omega
  · have hno : m.all (okRec s) = true := by
      rw [List.all_eq_true]
      intro r hr2
      obtain ⟨j, hj⟩ := List.mem_iff_getElem?.1 hr2
      exact hD j r (hall j (List.getElem?_eq_some_iff.1 hj).1) hj
    rw [hno]
    show (Code.wpIn _ _ _ (Code.seq _ _) _ _ _)
    refine wpIn_seq (region_p 1 ?_)
    intro K hK
    refine ListK.assign (i := 0) (v := .bool true) rfl (by simp) ?_
    refine ListK.done (hK _ _ (wpIn_ret ?_))
    exact bodyPost_ret (v := .bool true) (res1 Try.results31 (by simp [y0])) (by simp only [defers_put, yd]) ⟨rfl, hB.trans (low2.mono hB.size)⟩
  · have hno : m.all (okRec s) = false := by
      cases hq : m.all (okRec s) with
      | false => rfl
      | true =>
        have := List.all_eq_true.1 hq r hr2
        rw [ho] at this
        cases this
    rw [hno]
    exact bodyPost_ret (v := .bool false) (res1 Try.results31 y4) yd ⟨rfl, hB.trans (low'.mono hB.size)⟩
end
section
attribute [local irreducible] AnyK StepK
set_option maxHeartbeats 400000 in
theorem fits_any (s : Ser) (A Ab : Option Addr) (c cb : Nat) (l : List UInt8) (W : World) (hlr : s.rd.length ≤ 1000000) (hs : IntsAt W W.heap.size A s.rd) (hc : l.length ≤ cb) (hl : l.length ≤ 100000) (hby : BytesAt W W.heap.size Ab l) :
    Calls Try.prog 31 #[.slice Ab l.length cb, serV s A c] W (EvP W (.bool (fitsC l s))) := by
  refine (callsIn_wide (n := 5)).1 (callsIn_of_wp Try.func31 body31 trivial ?_ rfl)
  obtain ⟨a, ha⟩ : ∃ a : Act, a = { tmps := #[.slice Ab l.length cb, serV s A c] ++ Array.replicate (Try.f31.ntmps - (#[.slice Ab l.length cb, serV s A c] : Array Value).size) undef, defers := [] } := ⟨_, rfl⟩
  have hsz : a.tmps.size = 69 := by rw [ha]; simp [Try.ntmps31]
  have t0 : a.eval (.tmp 0) = .slice Ab l.length cb := by rw [ha]; simp [Act.eval]
  have t1 : a.eval (.tmp 1) = serV s A c := by rw [ha]; simp [Act.eval]
  have hd_a : a.defers = [] := by rw [ha]
  rw [← ha]
  clear ha
  unfold code31
  refine wpIn_seq (region_p 2 ?_)
  intro K hK
  refine ListK.box (i := 0) (u := serV s A c) rfl (by simp [t1]) (bx29 W _ _ _ _ _) ?_
  refine ListK.assign (i := 1) (v := .bool false) rfl (by simp) ?_
  refine ListK.done (hK _ _ ?_)
  clear hK K
  replace hs : IntsAt (W.alloc (.cells #[.int .i64 s.width, .int .i64 s.step, .slice A s.rd.length c] 29)) W.heap.size A s.rd := hs.below ((Below.refl W.heap.size W).alloc (Nat.le_refl _) _) (Nat.le_refl _)
  replace hby : BytesAt (W.alloc (.cells #[.int .i64 s.width, .int .i64 s.step, .slice A s.rd.length c] 29)) W.heap.size Ab l := hby.below ((Below.refl W.heap.size W).alloc (Nat.le_refl _) _) (Nat.le_refl _)
  have w3 := Whole.new W 29 #[.int .i64 s.width, .int .i64 s.step, .slice A s.rd.length c]
  have hb_b3 : Below W.heap.size W (W.alloc (.cells #[.int .i64 s.width, .int .i64 s.step, .slice A s.rd.length c] 29)) := (Below.refl _ W).alloc (Nat.le_refl _) _
  have hB := hb_b3
  generalize hq_b3 : W.heap.size = b3 at *
  generalize W.alloc (.cells #[.int .i64 s.width, .int .i64 s.step, .slice A s.rd.length c] 29) = W1 at *
  have hsz1 := hB.size
  replace hs := hs.more (show b3 ≤ W1.heap.size by omega)
  replace hby := hby.more (show b3 ≤ W1.heap.size by omega)
  rw [← hq_b3] at hB
  generalize hA : Act.put _ _ _ = a1
  have hz_a1 : a1.tmps.size = 69 := by rw [← hA]; simp only [size_put, hsz]
  have u0 : a1.eval (.tmp 0) = .slice Ab l.length cb := by rw [← hA]; exact (by simp [t0])
  have u3 : a1.eval (.tmp 3) = .pointer (some ⟨b3, 0, none⟩) := by rw [← hA]; exact (by simp [hsz])
  have hd_a1 : a1.defers = [] := by rw [← hA]; simp only [defers_put, hd_a]
  clear hA
  have hb1 : Below W1.heap.size W1 (W1.alloc (.cells #[.slice Ab l.length cb] 31)) := (Below.refl _ W1).alloc (Nat.le_refl _) _
  have hrd := read_any [l] (some ⟨W1.heap.size, 0, none⟩) 1 (by simp) _ (lists_one hc hl hby)
  refine wpIn_seq (region_p 8 ?_)
  intro K hK
  refine ListK.move (i := 0) (v := .slice Ab l.length cb) rfl (by simp [u0]) ?_
  refine ListK.bsl (i := 1) (ps := #[(0, .slice Ab l.length cb)]) (v := .slice (some ⟨W1.heap.size, 0, none⟩) 1 1) rfl (by simp [hz_a1]) (bs124 _ _ _ W1) ?_
  refine ListK.call (i := 2) (vs := #[.slice (some ⟨W1.heap.size, 0, none⟩) 1 1]) rfl (enters_of Try.func58 (by kernel_rfl) rfl) (by simp [hz_a1]) ((hrd).mono ?_)
  rintro e W2 hrp
  obtain ⟨p, rfl, hb2, hok⟩ := hrp.val
  refine ⟨_, rfl, ?_⟩
  refine ListK.move (i := 3) (v := .tuple #[.pointer p, .int .i64 (readC [l])]) rfl (by simp [hz_a1]) ?_
  refine ListK.extract (i := 4) (u := .tuple #[.pointer p, .int .i64 (readC [l])]) (v := .pointer p) rfl (by simp [hz_a1]) (ex0 _ _ _) ?_
  refine ListK.extract (i := 5) (u := .tuple #[.pointer p, .int .i64 (readC [l])]) (v := .int .i64 (readC [l])) rfl (by simp [hz_a1]) (ex1 _ _ _) ?_
  refine ListK.assign (i := 6) (v := .pointer p) rfl (by simp [hz_a1]) ?_
  refine ListK.assign (i := 7) (v := .int .i64 (readC [l])) rfl (by simp [hz_a1]) ?_
  refine ListK.done (hK _ _ ?_)
  clear hK K
  have hb12 := hb1.trans (hb2.mono (by have := hb1.size; omega))
  have hB2 := hB.trans (hb12.mono hB.size)
  have w32 := w3.below hb12 w3.lt
  have hs2 := (hs.below hb12 (Nat.le_refl _)).more hb12.size
  generalize hA : Act.put _ _ _ = a2
  have hz_a2 : a2.tmps.size = 69 := by rw [← hA]; simp only [size_put, hz_a1]
  have v3 : a2.eval (.tmp 3) = .pointer (some ⟨b3, 0, none⟩) := by rw [← hA]; exact (by simp [u3])
  have v5 : a2.eval (.tmp 5) = .pointer p := by rw [← hA]; exact (by simp [hz_a1])
  have v6 : a2.eval (.tmp 6) = .int .i64 (readC [l]) := by rw [← hA]; exact (by simp [hz_a1])
  have hd_a2 : a2.defers = [] := by rw [← hA]; simp only [defers_put, hd_a1]
  clear hA
  have hbd := (Below.refl W2.heap.size W2).drew
  by_cases hz : readC [l] = 0
  · obtain ⟨b, M, hr, m, rfl, ht, hf, har, hgd, hno⟩ := hok hz
    have hfl : [l].flatMap goods = goods l := by simp
    rw [hfl] at ht
    have hh := head_b (hgd _ (find_mem hf).1) (find_mem hf).2
    have hrm : readM l = some (headOf hr, m) := by simp [readM, hz, ht, hf]
    have hfc : fitsC l s = (decide (faultS s = 0) && (headEqB s (headOf hr) && m.all (okRec s))) := by simp only [fitsC, hrm]
    rw [hfc]
    generalize headOf hr = h at *
    have hgr : ∀ w w', (fun w : World => (Whole w b3 29 #[.int .i64 s.width, .int .i64 s.step, .slice A s.rd.length c] ∧ IntsAt w W2.heap.size A s.rd) ∧ ArchAt w b M h m ∧ Below W2.heap.size W2 w) w → Below w.heap.size w w' → (fun w : World => (Whole w b3 29 #[.int .i64 s.width, .int .i64 s.step, .slice A s.rd.length c] ∧ IntsAt w W2.heap.size A s.rd) ∧ ArchAt w b M h m ∧ Below W2.heap.size W2 w) w' := fun w w' h hb => ⟨⟨h.1.1.below hb h.1.1.lt, h.1.2.below (hb.mono h.2.2.size) (Nat.le_refl _)⟩, h.2.1.below hb, h.2.2.trans (hb.mono h.2.2.size)⟩
    have hR0 : (fun w : World => (Whole w b3 29 #[.int .i64 s.width, .int .i64 s.step, .slice A s.rd.length c] ∧ IntsAt w W2.heap.size A s.rd) ∧ ArchAt w b M h m ∧ Below W2.heap.size W2 w) W2.drew := hgr W2 _ ⟨⟨w32, hs2⟩, har, Below.refl _ _⟩ hbd
    by_cases hfa : faultS s = 0
    · skip
      refine wpIn_seq (wpIn_seq (region_K (KpR (fun w : World => (Whole w b3 29 #[.int .i64 s.width, .int .i64 s.step, .slice A s.rd.length c] ∧ IntsAt w W2.heap.size A s.rd) ∧ ArchAt w b M h m ∧ Below W2.heap.size W2 w) (fun _ => false)) (wideF_plain _) (by kernel_rfl) Try.mixed ?_))
      change AnyK _ _ _ _ 16 (Array.replicate 16 false) _ _
      have hR : (fun w : World => (Whole w b3 29 #[.int .i64 s.width, .int .i64 s.step, .slice A s.rd.length c] ∧ IntsAt w W2.heap.size A s.rd) ∧ ArchAt w b M h m ∧ Below W2.heap.size W2 w) W2.drew := hR0
      refine AnyK.move (i := 0) may_o (v := .int .i64 (readC [l])) (by simp [v6]) hR ?_
      refine AnyK.bin (i := 1) may_o (u := .int .i64 (readC [l])) (u' := .int .i64 (0)) (v := .bool false) (by simp [hz_a2]) (by simp) (fun w => neq27F hz w) hR ?_
      refine AnyK.move (i := 2) may_o (v := .bool false) (by simp [hz_a2]) hR ?_
      refine AnyK.load (i := 3) may_o (p := ⟨b3, 0, none⟩) (v := serV s A c) (by simp [v3]) (fun w hw => ld29 ⟨hw.1.1.cell 0, hw.1.1.cell 1, hw.1.1.cell 2⟩) hR (hw := (by exact wanted_g (e := 17) (b' := false) rfl (by simp [hz_a2]) rfl)) ?_
      refine AnyK.pick1 (i := 4) (by kernel_rfl) ?_
      refine StepK.call (i := 4) (f := 17) (vs := #[serV s A c]) rfl (enters_of Try.func17 (by kernel_rfl) rfl) rfl (by simp [hz_a2]) ((check_any s A c _ hlr (hR.1.2.more hR.2.2.size)).mono ?_) (hw := (by exact wanted_g (e := 17) (b' := false) rfl (by simp [hz_a2]) rfl))
      rintro _ V4 ⟨rfl, hv4⟩
      replace hR : (fun w : World => (Whole w b3 29 #[.int .i64 s.width, .int .i64 s.step, .slice A s.rd.length c] ∧ IntsAt w W2.heap.size A s.rd) ∧ ArchAt w b M h m ∧ Below W2.heap.size W2 w) V4 := hgr _ _ hR hv4
      refine ⟨_, rfl, fun _ _ => hR, ?_⟩
      refine AnyK.bin (i := 5) may_o (u := .int .i64 (faultS s)) (u' := .int .i64 (0)) (v := .bool false) (by simp [hz_a2]) (by simp) (fun w => neq27F hfa w) hR (hw := (by exact wanted_g (e := 17) (b' := false) rfl (by simp [hz_a2]) rfl)) ?_
      refine AnyK.pick (i := 6) may_o (b := false) (v := .bool false) (by simp [hz_a2]) (by simp [hz_a2]) hR ?_
      refine AnyK.move (i := 7) may_o (v := .bool false) (by simp [hz_a2]) hR ?_
      refine AnyK.load (i := 8) may_o (p := ⟨b3, 0, none⟩) (v := serV s A c) (by simp [v3]) (fun w hw => ld29 ⟨hw.1.1.cell 0, hw.1.1.cell 1, hw.1.1.cell 2⟩) hR (hw := (by exact wanted_g (e := 22) (b' := false) rfl (by simp [hz_a2]) rfl)) ?_
      refine AnyK.move (i := 10) may_o (v := .pointer (some ⟨b, 0, none⟩)) (by simp [v5]) hR (hw := (by exact wanted_g (e := 22) (b' := false) rfl (by simp [hz_a2]) rfl)) ?_
      refine AnyK.nilCheck (i := 11) may_o (p := ⟨b, 0, none⟩) (by simp [hz_a2]) hR (hw := (by exact wanted_g (e := 22) (b' := false) rfl (by simp [hz_a2]) rfl)) ?_
      refine AnyK.field (i := 12) may_o (u := .pointer (some ⟨b, 0, none⟩)) (v := .pointer (some ⟨b, 0, none⟩)) (by simp [hz_a2]) (fun w => fa95_0 w) hR (hw := (by exact wanted_g (e := 22) (b' := false) rfl (by simp [hz_a2]) rfl)) ?_
      refine AnyK.load (i := 13) may_o (p := ⟨b, 0, none⟩) (v := headV (h.many : Int) (h.width : Int) (h.step : Int)) (by simp [hz_a2]) (fun w hw => ld77 ⟨hw.2.1.whole.cell 0, hw.2.1.whole.cell 1, hw.2.1.whole.cell 2⟩) hR (hw := (by exact wanted_g (e := 22) (b' := false) rfl (by simp [hz_a2]) rfl)) ?_
      refine AnyK.pick1 (i := 9) (by kernel_rfl) ?_
      refine StepK.call (i := 9) (f := 45) (vs := #[serV s A c]) rfl (enters_of Try.func45 (by kernel_rfl) rfl) rfl (by simp [hz_a2]) ((sHead_any s.width s.step A s.rd.length c _).mono ?_) (hw := (by exact wanted_g (e := 22) (b' := false) rfl (by simp [hz_a2]) rfl))
      rintro _ V9 ⟨rfl, hv9⟩
      replace hR : (fun w : World => (Whole w b3 29 #[.int .i64 s.width, .int .i64 s.step, .slice A s.rd.length c] ∧ IntsAt w W2.heap.size A s.rd) ∧ ArchAt w b M h m ∧ Below W2.heap.size W2 w) V9 := hgr _ _ hR hv9
      refine ⟨_, rfl, fun _ _ => hR, ?_⟩
      refine AnyK.bin (i := 14) may_o (u := headV (s.rd.length : Int) s.width s.step) (u' := headV (h.many : Int) (h.width : Int) (h.step : Int)) (v := .bool (!headEqB s h)) (by simp [hz_a2]) (by simp [hz_a2]) (fun w => neq77 _ _ _ _ _ _ w) hR (hw := (by exact wanted_g (e := 22) (b' := false) rfl (by simp [hz_a2]) rfl)) ?_
      refine AnyK.pick (i := 15) may_o (b := false) (v := .bool (!headEqB s h)) (by simp [hz_a2]) (by simp [hz_a2]) hR ?_
      refine AnyK.done (by kernel_rfl) ?_
      generalize hA : Act.put _ _ _ = a3
      have hz_a3 : a3.tmps.size = 69 := by rw [← hA]; simp only [size_put, hz_a2]
      have q3 : a3.eval (.tmp 3) = .pointer (some ⟨b3, 0, none⟩) := by rw [← hA]; exact (by simp [v3])
      have q5 : a3.eval (.tmp 5) = .pointer (some ⟨b, 0, none⟩) := by rw [← hA]; exact (by simp [v5])
      have q30 : a3.eval (.tmp 30) = .bool (!headEqB s h) := by rw [← hA]; exact (by simp [hz_a2])
      have hd_a3 : a3.defers = [] := by rw [← hA]; simp only [defers_put, hd_a2]
      clear hA
      have hBv := hB2.trans (hR.2.2.mono hB2.size)
      cases hhe : headEqB s h with
      | false =>
        rw [hhe] at q30
        refine wpIn_cond (t := true) q30 ?_
        refine wpIn_seq (region_p 1 ?_)
        intro K hK
        refine ListK.assign (i := 0) (v := .bool false) rfl (by simp) ?_
        refine ListK.done (hK _ _ (wpIn_ret ?_))
        exact bodyPost_ret (v := .bool false) (res1 Try.results31 (by simp [hz_a3])) (by simp only [defers_put, hd_a3]) ⟨by simp, hBv⟩
      | true =>
        rw [hhe] at q30
        refine wpIn_cond (t := false) q30 (wpIn_skip ?_)
        show fit_b.wpIn _ _ _ _ _ _
        have hmany : h.many = s.rd.length := by
          unfold headEqB at hhe
          simp at hhe
          omega
        have hval : (decide (faultS s = 0) && (true && m.all (okRec s))) = m.all (okRec s) := by rw [decide_eq_true hfa]; simp
        rw [hval]
        exact fit_b_any hfa hh hmany hgd (fun r hr => by simpa using List.any_eq_false.1 hno r hr) hR.1.1 (hR.1.2.more hR.2.2.size) hR.2.1 hBv hz_a3 hd_a3 q3 q5
    · skip
      refine wpIn_seq (wpIn_seq (region_K (KpR (fun w : World => (Whole w b3 29 #[.int .i64 s.width, .int .i64 s.step, .slice A s.rd.length c] ∧ IntsAt w W2.heap.size A s.rd) ∧ ArchAt w b M h m ∧ Below W2.heap.size W2 w) (fun _ => false)) (wideF_plain _) (by kernel_rfl) Try.mixed ?_))
      change AnyK _ _ _ _ 16 (Array.replicate 16 false) _ _
      have hR : (fun w : World => (Whole w b3 29 #[.int .i64 s.width, .int .i64 s.step, .slice A s.rd.length c] ∧ IntsAt w W2.heap.size A s.rd) ∧ ArchAt w b M h m ∧ Below W2.heap.size W2 w) W2.drew := hR0
      refine AnyK.move (i := 0) may_o (v := .int .i64 (readC [l])) (by simp [v6]) hR ?_
      refine AnyK.bin (i := 1) may_o (u := .int .i64 (readC [l])) (u' := .int .i64 (0)) (v := .bool false) (by simp [hz_a2]) (by simp) (fun w => neq27F hz w) hR ?_
      refine AnyK.move (i := 2) may_o (v := .bool false) (by simp [hz_a2]) hR ?_
      refine AnyK.load (i := 3) may_o (p := ⟨b3, 0, none⟩) (v := serV s A c) (by simp [v3]) (fun w hw => ld29 ⟨hw.1.1.cell 0, hw.1.1.cell 1, hw.1.1.cell 2⟩) hR (hw := (by exact wanted_g (e := 17) (b' := false) rfl (by simp [hz_a2]) rfl)) ?_
      refine AnyK.pick1 (i := 4) (by kernel_rfl) ?_
      refine StepK.call (i := 4) (f := 17) (vs := #[serV s A c]) rfl (enters_of Try.func17 (by kernel_rfl) rfl) rfl (by simp [hz_a2]) ((check_any s A c _ hlr (hR.1.2.more hR.2.2.size)).mono ?_) (hw := (by exact wanted_g (e := 17) (b' := false) rfl (by simp [hz_a2]) rfl))
      rintro _ V4 ⟨rfl, hv4⟩
      replace hR : (fun w : World => (Whole w b3 29 #[.int .i64 s.width, .int .i64 s.step, .slice A s.rd.length c] ∧ IntsAt w W2.heap.size A s.rd) ∧ ArchAt w b M h m ∧ Below W2.heap.size W2 w) V4 := hgr _ _ hR hv4
      refine ⟨_, rfl, fun _ _ => hR, ?_⟩
      refine AnyK.bin (i := 5) may_o (u := .int .i64 (faultS s)) (u' := .int .i64 (0)) (v := .bool true) (by simp [hz_a2]) (by simp) (fun w => neq27T hfa w) hR (hw := (by exact wanted_g (e := 17) (b' := false) rfl (by simp [hz_a2]) rfl)) ?_
      refine AnyK.pick (i := 6) may_o (b := false) (v := .bool true) (by simp [hz_a2]) (by simp [hz_a2]) hR ?_
      refine AnyK.move (i := 7) may_o (v := .bool true) (by simp [hz_a2]) hR ?_
      refine AnyK.passG (i := 8) may_o (e := 22) (b' := true) rfl (by simp [hz_a2]) rfl hR ?_
      refine AnyK.passG (i := 9) may_o (e := 22) (b' := true) rfl (by simp [hz_a2]) rfl hR ?_
      refine AnyK.passG (i := 10) may_o (e := 22) (b' := true) rfl (by simp [hz_a2]) rfl hR ?_
      refine AnyK.passG (i := 11) may_o (e := 22) (b' := true) rfl (by simp [hz_a2]) rfl hR ?_
      refine AnyK.passG (i := 12) may_o (e := 22) (b' := true) rfl (by simp [hz_a2]) rfl hR ?_
      refine AnyK.passG (i := 13) may_o (e := 22) (b' := true) rfl (by simp [hz_a2]) rfl hR ?_
      refine AnyK.passG (i := 14) may_o (e := 22) (b' := true) rfl (by simp [hz_a2]) rfl hR ?_
      refine AnyK.pick (i := 15) may_o (b := true) (v := .bool true) (by simp [hz_a2]) (by simp) hR ?_
      refine AnyK.done (by kernel_rfl) ?_
      refine wpIn_cond (t := true) (by simp [hz_a2]) ?_
      refine wpIn_seq (region_p 1 ?_)
      intro K hK
      refine ListK.assign (i := 0) (v := .bool false) rfl (by simp) ?_
      refine ListK.done (hK _ _ (wpIn_ret ?_))
      exact bodyPost_ret (v := .bool false) (res1 Try.results31 (by simp [hz_a2])) (by simp only [defers_put, hd_a2]) ⟨by rw [decide_eq_false hfa]; rfl, hB2.trans (hR.2.2.mono hB2.size)⟩
  · have hfc : fitsC l s = false := by simp [fitsC, readM, hz]
    rw [hfc]
    refine wpIn_seq (wpIn_seq (region_K (KpR (fun _ : World => True) (fun _ => false)) (wideF_plain _) (by kernel_rfl) Try.mixed ?_))
    change AnyK _ _ _ _ 16 (Array.replicate 16 false) _ _
    have hR : (fun _ : World => True) W2.drew := trivial
    refine AnyK.move (i := 0) may_o (v := .int .i64 (readC [l])) (by simp [v6]) hR ?_
    refine AnyK.bin (i := 1) may_o (u := .int .i64 (readC [l])) (u' := .int .i64 (0)) (v := .bool true) (by simp [hz_a2]) (by simp) (fun w => neq27T hz w) hR ?_
    refine AnyK.move (i := 2) may_o (v := .bool true) (by simp [hz_a2]) hR ?_
    refine AnyK.passG (i := 3) may_o (e := 17) (b' := true) rfl (by simp [hz_a2]) rfl hR ?_
    refine AnyK.passG (i := 4) may_o (e := 17) (b' := true) rfl (by simp [hz_a2]) rfl hR ?_
    refine AnyK.passG (i := 5) may_o (e := 17) (b' := true) rfl (by simp [hz_a2]) rfl hR ?_
    refine AnyK.pick (i := 6) may_o (b := true) (v := .bool true) (by simp [hz_a2]) (by simp) hR ?_
    refine AnyK.move (i := 7) may_o (v := .bool true) (by simp [hz_a2]) hR ?_
    refine AnyK.passG (i := 8) may_o (e := 22) (b' := true) rfl (by simp [hz_a2]) rfl hR ?_
    refine AnyK.passG (i := 9) may_o (e := 22) (b' := true) rfl (by simp [hz_a2]) rfl hR ?_
    refine AnyK.passG (i := 10) may_o (e := 22) (b' := true) rfl (by simp [hz_a2]) rfl hR ?_
    refine AnyK.passG (i := 11) may_o (e := 22) (b' := true) rfl (by simp [hz_a2]) rfl hR ?_
    refine AnyK.passG (i := 12) may_o (e := 22) (b' := true) rfl (by simp [hz_a2]) rfl hR ?_
    refine AnyK.passG (i := 13) may_o (e := 22) (b' := true) rfl (by simp [hz_a2]) rfl hR ?_
    refine AnyK.passG (i := 14) may_o (e := 22) (b' := true) rfl (by simp [hz_a2]) rfl hR ?_
    refine AnyK.pick (i := 15) may_o (b := true) (v := .bool true) (by simp [hz_a2]) (by simp) hR ?_
    refine AnyK.done (by kernel_rfl) ?_
    refine wpIn_cond (t := true) (by simp [hz_a2]) ?_
    refine wpIn_seq (region_p 1 ?_)
    intro K hK
    refine ListK.assign (i := 0) (v := .bool false) rfl (by simp) ?_
    refine ListK.done (hK _ _ (wpIn_ret ?_))
    exact bodyPost_ret (v := .bool false) (res1 Try.results31 (by simp [hz_a2])) (by simp only [defers_put, hd_a2]) ⟨rfl, hB2.trans (hbd.mono hB2.size)⟩
end
end Go.Proofs.YtmdlmmfbcnkanaaR
namespace Go.Proofs.YtmdlmmfbcnkanaaR
open Go.RowKit Go.Shelf
theorem bs36_2 (l k : List UInt8) (w : World) : (Instr.buildSlice 36 2 #[(0, strV l), (1, strV k)]).run Try.prog w = .ok (.slice (some ⟨w.heap.size, 0, none⟩) 2 2) (w.alloc (.cells #[strV l, strV k] 9)) := by go_simp
theorem bs36_0 (w : World) : (Instr.buildSlice 36 0 #[]).run Try.prog w = .ok (.slice (some ⟨w.heap.size, 0, none⟩) 0 0) (w.alloc (.cells #[] 9)) := by go_simp
theorem os_empty {W1 W : World} (hb : Below W1.heap.size W1 W) : OS W1 (.slice (some ⟨W.heap.size, 0, none⟩) 0 0) [] (W.alloc (.cells #[] 9)) :=
  ⟨hb.trans ((Below.refl W.heap.size W).alloc (Nat.le_refl _) _ |>.mono hb.size), rfl, .inr ⟨W.heap.size, 0, #[], rfl, hb.size, World.alloc_heap_new _ _, Nat.le_refl _, by decide, rfl, rfl⟩⟩
section
variable {ops : Array Oper} {K : Act → World → Prop} {Kp : Nat → World → World → Prop} {fuel d i : Nat} {listed : Array Bool} {a : Act} {w w' : World} {ty : TypeId} {pos : String} {aft : Array Edge} {v v2 v' : Value}
theorem StepK.app36 {s z : Operand} (hi : ops[i]? = some ⟨some d, .call { callee := .builtin .append, args := #[s, z], argTypes := #[36, 36] }, ty, pos, aft, none⟩) (hs : a.eval s = v) (hx : a.eval z = v2)
    (hr : (Builtin.append_ #[36, 36] ty #[v, v2]).run Try.prog w = .ok v' w') (hk : Kp i w w') (h : AnyK Try.prog ops K Kp fuel (listed.setIfInBounds i true) (a.put (some d) v') w') : StepK Try.prog ops K Kp fuel listed a w i := by
  unfold StepK opG
  simp only [hi]
  rw [if_pos (show Region.wanted _ _ = true from rfl)]
  simp [Oper.wp, execOp, resolve, invoke, builtin, hs, hx, hr, Oper.upon]
  exact ⟨hk, h⟩
end
/-- What is left of some records. -/
structure Tn (L : List (List UInt8)) (i : Nat) (T : List (List UInt8)) : Prop where
  sub : ∀ r, r ∈ T → r ∈ L
  hd : 0 < i → ∀ h, L[0]? = some h → h ∈ T
  len : T.length ≤ 2 * i
theorem Tn.skip {L : List (List UInt8)} {i : Nat} {T : List (List UInt8)} (t : Tn L i T) (hi : 0 < i) : Tn L (i + 1) T := ⟨t.sub, fun _ => t.hd hi, by have := t.len; omega⟩
theorem Tn.one {L : List (List UInt8)} {i : Nat} {T : List (List UInt8)} {l : List UInt8} (t : Tn L i T) (hl : L[i]? = some l) : Tn L (i + 1) (T ++ [l]) := by
  refine ⟨fun r hr => ?_, fun _ h hh => ?_, by have := t.len; simp; omega⟩
  · rcases List.mem_append.1 hr with hr | hr
    · exact t.sub r hr
    · simp at hr
      rw [hr]
      exact List.mem_of_getElem? hl
  · by_cases h0 : i = 0
    · subst h0
      rw [hl] at hh
      cases hh
      simp
    · exact List.mem_append_left _ (t.hd (by omega) h hh)
theorem Tn.two {L : List (List UInt8)} {i : Nat} {T : List (List UInt8)} {l : List UInt8} (t : Tn L i T) (hl : L[i]? = some l) : Tn L (i + 1) (T ++ [l, l]) := by
  have h1 := t.one hl
  refine ⟨fun r hr => h1.sub r (by simpa using hr), fun h0 h hh => by simpa using h1.hd h0 h hh, by have := t.len; simp; omega⟩
theorem strs_two (w : World) (l k : List UInt8) : StrsAt (w.alloc (.cells #[strV l, strV k] 9)) (w.alloc (.cells #[strV l, strV k] 9)).heap.size (some ⟨w.heap.size, 0, none⟩) [l, k] := by
  have h := Whole.new w 9 #[strV l, strV k]
  intro i x hx
  match i, hx with
  | 0, hx =>
    simp at hx
    subst hx
    exact ⟨_, _, rfl, by simp, h.cell 0⟩
  | 1, hx =>
    simp at hx
    subst hx
    exact ⟨_, _, rfl, by simp, h.cell 1⟩
theorem StrsAt.cell36 {w : World} {B b off i : Nat} {L : List (List UInt8)} {l : List UInt8} (h : StrsAt w B (some ⟨b, off, none⟩) L) (hl : L[i]? = some l) : w.cell? ⟨b, off + i, none⟩ = some (strV l) := by
  obtain ⟨b', o', e, _, hc⟩ := h i l hl
  cases e
  exact hc
theorem WordsAt.below {w w' : World} {B : Nat} {A : Option Addr} {l : List Nat} (h : WordsAt w B A l) (hb : Below B w w') : WordsAt w' B A l := by
  intro k x hx
  obtain ⟨h1, b, off, e, h2, h3⟩ := h k x hx
  exact ⟨h1, b, off, e, h2, by rw [hb.cell (show Addr.block ⟨b, off + k, none⟩ < B from h2)]; exact h3⟩
theorem WordsAt.more {w : World} {B B' : Nat} {A : Option Addr} {l : List Nat} (h : WordsAt w B A l) (hb : B ≤ B') : WordsAt w B' A l := by
  intro k x hx
  obtain ⟨h1, b, off, e, h2, h3⟩ := h k x hx
  exact ⟨h1, b, off, e, Nat.lt_of_lt_of_le h2 hb, h3⟩
theorem os_none (W : World) : OS W (.slice none 0 0) [] W := ⟨Below.refl _ _, rfl, .inl ⟨rfl, rfl⟩⟩
theorem gtr3T {x y : Operand} {m n : Int} (h : n < m) (w : World) : (do eqGuard .gtr 3 x y (.int .i64 m) (.int .i64 n); binOp .gtr 3 (.int .i64 m) (.int .i64 n) : Sem Value).run Try.prog w = .ok (.bool true) w := by
  rw [gtr3, decide_eq_true h]
theorem gtr3F {x y : Operand} {m n : Int} (h : ¬n < m) (w : World) : (do eqGuard .gtr 3 x y (.int .i64 m) (.int .i64 n); binOp .gtr 3 (.int .i64 m) (.int .i64 n) : Sem Value).run Try.prog w = .ok (.bool false) w := by
  rw [gtr3, decide_eq_false h]
theorem StrsAt.wide {w : World} {B B' : Nat} {A : Option Addr} {L : List (List UInt8)} (h : StrsAt w B A L) (hb : B ≤ B') : StrsAt w B' A L := by
  intro i l hl
  obtain ⟨b, o, e1, e2, e3⟩ := h i l hl
  exact ⟨b, o, e1, Nat.lt_of_lt_of_le e2 hb, e3⟩
theorem Tn.turn {L T : List (List UInt8)} {i : Nat} (t : Tn L i T) (k : Nat) : Tn L i (T.drop k ++ T.take k) := by
  have hm : ∀ r, r ∈ T.drop k ++ T.take k ↔ r ∈ T := by
    intro r
    rw [List.mem_append, or_comm, ← List.mem_append, List.take_append_drop]
  refine ⟨fun r hr => t.sub r ((hm r).1 hr), fun h0 h hh => (hm h).2 (t.hd h0 h hh), ?_⟩
  have := t.len
  simp
  omega
noncomputable def opsTn0 : Array Oper := (Try.f24.body.bind (regionOf 0)).getD #[]
noncomputable def opsTn1 : Array Oper := (Try.f24.body.bind (regionOf 1)).getD #[]
noncomputable def opsTn2 : Array Oper := (Try.f24.body.bind (regionOf 2)).getD #[]
noncomputable def opsTn3 : Array Oper := (Try.f24.body.bind (regionOf 3)).getD #[]
noncomputable def opsTn4 : Array Oper := (Try.f24.body.bind (regionOf 4)).getD #[]
noncomputable def opsTn5 : Array Oper := (Try.f24.body.bind (regionOf 5)).getD #[]
noncomputable def opsTn6 : Array Oper := (Try.f24.body.bind (regionOf 6)).getD #[]
noncomputable def opsTn7 : Array Oper := (Try.f24.body.bind (regionOf 7)).getD #[]
noncomputable def opsTn8 : Array Oper := (Try.f24.body.bind (regionOf 8)).getD #[]
noncomputable def opsTn9 : Array Oper := (Try.f24.body.bind (regionOf 9)).getD #[]
noncomputable def opsTn10 : Array Oper := (Try.f24.body.bind (regionOf 10)).getD #[]
noncomputable def opsTn11 : Array Oper := (Try.f24.body.bind (regionOf 11)).getD #[]
noncomputable def tn_l : Code := (.seq (.seq (.region 3 opsTn3 false) (.cond (.tmp 14) .skip (.exit 0))) (.seq (.block 1 (.seq (.region 5 opsTn5 false) (.block 2 (.seq (.region 7 opsTn7 false) (.cond (.tmp 27) (.exit 1) (.seq (.region 8 opsTn8 false) (.cond (.tmp 35) (.region 9 opsTn9 true) (.region 6 opsTn6 false)))))))) (.region 4 opsTn4 false)))
noncomputable def tn_e : Code := (.seq (.region 10 opsTn10 false) (.seq (.region 11 opsTn11 true) .ret))
noncomputable def code24 : Code := (.seq (.region 0 opsTn0 false) (.seq (.region 1 opsTn1 false) (.seq (.seq (.region 2 opsTn2 false) (.block 0 (.loop tn_l))) tn_e)))
theorem body24 : Try.f24.body = some code24 := by kernel_rfl
section
attribute [local irreducible] AnyK StepK
variable {L : List (List UInt8)} {A Aw : Option Addr} {c cw by_ : Nat} {lw : List Nat} {W : World}
set_option maxHeartbeats 400000 in
theorem tn_e_any {T : List (List UInt8)} {v : Value} {a : Act} {W1 : World} (hL : L.length ≤ 1000) (hne : 0 < L.length) (hby : by_ < 256) (hz : a.tmps.size = 64) (hd_a : a.defers = []) (t2 : a.eval (.tmp 2) = .int .u8 (by_ : Int)) (t7 : a.eval (.tmp 7) = v) (os : OS W v T W1) (tn : Tn L L.length T) :
    tn_e.wpIn Fence.wide 5 Try.prog (bodyPost Try.prog Try.f24 (fun e w' => ∃ v T', e = .returned v ∧ OS W v T' w' ∧ Tn L L.length T')) a W1 := by
  have hT : T ≠ [] := by
    have := tn.hd hne _ (List.getElem?_eq_getElem hne)
    exact List.ne_nil_of_mem this
  have hTl : 0 < T.length := List.length_pos_iff.2 hT
  have htl := tn.len
  obtain ⟨g, cT, rfl, hcT, hst⟩ := os.strs2 hT
  unfold tn_e
  refine wpIn_seq (region_p 6 ?_)
  intro K hK
  refine ListK.move (i := 0) (v := .int .u8 (by_ : Int)) rfl (by simp [t2]) ?_
  refine ListK.conv (i := 1) (u := .int .u8 (by_ : Int)) (v := .int .i64 (by_ : Int)) rfl (by simp [hz]) (cvu8 hby _) ?_
  refine ListK.move (i := 2) (v := .slice (some ⟨g, 0, none⟩) T.length cT) rfl (by simp [t7]) ?_
  refine ListK.len (i := 3) (u := .slice (some ⟨g, 0, none⟩) T.length cT) (v := .int .i64 T.length) rfl (by simp [hz]) (ln36 _ _ _ _ _) rfl ?_
  refine ListK.bin (i := 4) (u := .int .i64 (by_ : Int)) (u' := .int .i64 T.length) (v := .int .i64 ((by_ % T.length : Nat) : Int)) rfl (by simp [hz]) (by simp [hz]) (rem3r (by omega) (by omega) rfl _) ?_
  refine ListK.assign (i := 5) (v := .int .i64 ((by_ % T.length : Nat) : Int)) rfl (by simp [hz]) ?_
  refine ListK.done (hK _ _ ?_)
  clear hK K
  obtain ⟨k, hk⟩ : ∃ k, by_ % T.length = k := ⟨_, rfl⟩
  have hkl : k < T.length := by rw [← hk]; exact Nat.mod_lt _ hTl
  rw [hk]
  generalize hA : Act.put _ _ _ = a1
  have hz_a1 : a1.tmps.size = 64 := by rw [← hA]; simp only [size_put, hz]
  have u7 : a1.eval (.tmp 7) = .slice (some ⟨g, 0, none⟩) T.length cT := by rw [← hA]; exact (by simp [t7])
  have u10 : a1.eval (.tmp 10) = .int .i64 (k : Int) := by rw [← hA]; exact (by simp [hz])
  have hd_a1 : a1.defers = [] := by rw [← hA]; simp only [defers_put, hd_a]
  clear hA
  have hbd : Below W1.heap.size W1 W1.drew := (Below.refl W1.heap.size W1).drew
  have os1 := os_empty hbd
  have hd1 : (T.drop k).length = T.length - k := List.length_drop
  have ht1 : (T.take k).length = k := by rw [List.length_take]; omega
  obtain ⟨v3, W3, hap3, os3⟩ := app36n_run (A := some ⟨g, 0 + k, none⟩) (c := cT - k) (ty := 36) os1 (((hst.below os1.low (Nat.le_refl _)).wide os1.low.size).drop k) (by simp) (by omega)
  obtain ⟨v4, W4, hap4, os4⟩ := app36n_run (A := some ⟨g, 0, none⟩) (c := cT) (ty := 36) os3 (((hst.below os3.low (Nat.le_refl _)).wide os3.low.size).take k) (by simp; omega) (by omega)
  rw [hd1] at hap3
  rw [ht1] at hap4
  refine wpIn_seq (region_K (KpR (fun _ : World => True) (fun _ => false)) (wideF_plain _) (by kernel_rfl) Try.mixed ?_)
  change AnyK _ _ _ _ 10 (Array.replicate 10 false) _ _
  have hR : (fun _ : World => True) W1.drew := trivial
  refine AnyK.move (i := 1) may_o (v := .slice (some ⟨g, 0, none⟩) T.length cT) (by simp [u7]) hR ?_
  refine AnyK.move (i := 2) may_o (v := .int .i64 (k : Int)) (by simp [u10]) hR ?_
  refine AnyK.sliceL (i := 3) may_o (u := .slice (some ⟨g, 0, none⟩) T.length cT) (u' := .int .i64 (k : Int)) (v := .slice (some ⟨g, 0 + k, none⟩) (T.length - k) (cT - k)) (by simp [hz_a1]) (by simp [hz_a1]) (fun w => sl36L (by omega) (by omega) (by omega) w) hR ?_
  refine AnyK.move (i := 5) may_o (v := .slice (some ⟨g, 0, none⟩) T.length cT) (by simp [u7]) hR ?_
  refine AnyK.move (i := 6) may_o (v := .int .i64 (k : Int)) (by simp [u10]) hR ?_
  refine AnyK.sliceH (i := 7) may_o (u := .slice (some ⟨g, 0, none⟩) T.length cT) (u' := .int .i64 (k : Int)) (v := .slice (some ⟨g, 0, none⟩) k cT) (by simp [hz_a1]) (by simp [hz_a1]) (fun w => sl36H (by omega) (by omega) w) hR ?_
  refine AnyK.pick1 (i := 0) (by kernel_rfl) ?_
  refine StepK.buildG (i := 0) (ps := #[]) rfl (by simp) (bs36_0 W1.drew) (fun _ _ => trivial) ?_
  refine AnyK.pick1 (i := 4) (by kernel_rfl) ?_
  refine StepK.app36 (i := 4) rfl (by simp [hz_a1]) (by simp [hz_a1]) hap3 (fun _ _ => trivial) ?_
  refine AnyK.pick1 (i := 8) (by kernel_rfl) ?_
  refine StepK.app36 (i := 8) rfl (by simp [hz_a1]) (by simp [hz_a1]) hap4 (fun _ _ => trivial) ?_
  refine AnyK.assign (i := 9) may_o (v := v4) (by simp [hz_a1]) hR ?_
  refine AnyK.done (by kernel_rfl) ?_
  refine wpIn_ret ?_
  refine bodyPost_ret (v := v4) (res1 Try.results24 (by simp [hz_a1])) (by simp only [defers_put, hd_a1]) ⟨v4, _, rfl, os4.base os.low, ?_⟩
  simpa using tn.turn k
set_option maxHeartbeats 400000 in
theorem tn_l_any {T : List (List UInt8)} {i : Nat} {v : Value} {a : Act} {W1 : World} {Q : Exit → Act → World → Prop} (hL : L.length ≤ 1000) (hs : StrsAt W W.heap.size A L) (hw : WordsAt W W.heap.size Aw lw) (hi : i ≤ L.length)
    (hz : a.tmps.size = 64) (hd_a : a.defers = []) (t0 : a.eval (.tmp 0) = .slice A L.length c) (t1 : a.eval (.tmp 1) = .slice Aw lw.length cw) (t2 : a.eval (.tmp 2) = .int .u8 (by_ : Int)) (t7 : a.eval (.tmp 7) = v) (t8 : a.eval (.tmp 8) = .int .i64 (i : Int)) (os : OS W v T W1) (tn : Tn L i T)
    (hN : i < L.length → ∀ a' W' v' T', a'.tmps.size = 64 → a'.defers = [] → a'.eval (.tmp 0) = .slice A L.length c → a'.eval (.tmp 1) = .slice Aw lw.length cw → a'.eval (.tmp 2) = .int .u8 (by_ : Int) → a'.eval (.tmp 7) = v' → a'.eval (.tmp 8) = .int .i64 ((i + 1 : Nat) : Int) → OS W v' T' W' → Tn L (i + 1) T' → Q .normal a' W')
    (hX : i = L.length → ∀ a', a'.tmps.size = 64 → a'.defers = [] → a'.eval (.tmp 2) = .int .u8 (by_ : Int) → a'.eval (.tmp 7) = v → Q (.exit 0) a' W1) :
    tn_l.wpIn Fence.wide 5 Try.prog Q a W1 := by
  have hs1 := hs.below os.low (Nat.le_refl _)
  have hw1 : WordsAt W1 W1.heap.size Aw lw := (hw.below os.low).more os.low.size
  have htl := tn.len
  unfold tn_l
  by_cases hil : i < L.length
  · skip
    refine wpIn_seq (wpIn_seq (region_p 4 ?_))
    intro K hK
    refine ListK.move (i := 0) (v := .int .i64 (i : Int)) rfl (by simp [t8]) ?_
    refine ListK.move (i := 1) (v := .slice A L.length c) rfl (by simp [t0]) ?_
    refine ListK.len (i := 2) (u := .slice A L.length c) (v := .int .i64 L.length) rfl (by simp [hz]) (ln36 _ _ _ _ _) rfl ?_
    refine ListK.bin (i := 3) (u := .int .i64 (i : Int)) (u' := .int .i64 L.length) (v := .bool true) rfl (by simp [hz]) (by simp [hz]) (lssT3 (by omega) _) ?_
    refine ListK.done (hK _ _ ?_)
    clear hK K
    refine wpIn_cond (t := true) (by simp [hz]) (wpIn_skip ?_)
    generalize hA : Act.put _ _ _ = a1
    have hz_a1 : a1.tmps.size = 64 := by rw [← hA]; simp only [size_put, hz]
    have u0 : a1.eval (.tmp 0) = .slice A L.length c := by rw [← hA]; exact (by simp [t0])
    have u1 : a1.eval (.tmp 1) = .slice Aw lw.length cw := by rw [← hA]; exact (by simp [t1])
    have u2 : a1.eval (.tmp 2) = .int .u8 (by_ : Int) := by rw [← hA]; exact (by simp [t2])
    have u7 : a1.eval (.tmp 7) = v := by rw [← hA]; exact (by simp [t7])
    have u8 : a1.eval (.tmp 8) = .int .i64 (i : Int) := by rw [← hA]; exact (by simp [t8])
    have hd_a1 : a1.defers = [] := by rw [← hA]; simp only [defers_put, hd_a]
    clear hA
    have hgo : ∀ (T' : List (List UInt8)) (v' : Value) (b : Act) (W' : World), b.tmps.size = 64 → b.defers = [] → b.eval (.tmp 0) = .slice A L.length c → b.eval (.tmp 1) = .slice Aw lw.length cw → b.eval (.tmp 2) = .int .u8 (by_ : Int) → b.eval (.tmp 7) = v' → b.eval (.tmp 8) = .int .i64 (i : Int) → OS W v' T' W' → Tn L (i + 1) T' →
        (Code.region 4 opsTn4 false).wpIn Fence.wide 5 Try.prog Q b W' := by
      intro T' v' b W' hz_b hd_b s0 s1 s2 s7 s8 os' tn'
      refine region_p 3 ?_
      intro K hK
      refine ListK.move (i := 0) (v := .int .i64 (i : Int)) rfl (by simp [s8]) ?_
      refine ListK.bin (i := 1) (u := .int .i64 (i : Int)) (u' := .int .i64 1) (v := .int .i64 ((i + 1 : Nat) : Int)) rfl (by simp [hz_b]) (by simp) (add3 (by omega) (by omega) _) ?_
      refine ListK.assign (i := 2) (v := .int .i64 ((i + 1 : Nat) : Int)) rfl (by simp [hz_b]) ?_
      refine ListK.done (hK _ _ ?_)
      clear hK K
      exact hN hil _ _ v' T' (by simp only [size_put, hz_b]) (by simp only [defers_put, hd_b]) (by simp [s0]) (by simp [s1]) (by simp [s2]) (by simp [s7]) (by simp [hz_b]) os' tn'
    refine wpIn_seq (wpIn_block (wpIn_seq ?_))
    refine region_p 4 ?_
    intro K hK
    refine ListK.move (i := 0) (v := .slice Aw lw.length cw) rfl (by simp [u1]) ?_
    refine ListK.move (i := 1) (v := .int .i64 (i : Int)) rfl (by simp [u8]) ?_
    refine ListK.call (i := 2) (vs := #[.slice Aw lw.length cw, .int .i64 (i : Int)]) rfl (enters_of Try.func29 (by kernel_rfl) rfl) (by simp [hz_a1]) ((word_any Aw lw cw i W1 (by omega) hw1).mono ?_)
    rintro _ W1x ⟨n, rfl, hn, hWe⟩
    have hWf := hWe.symm
    subst hWf
    refine ⟨_, rfl, ?_⟩
    refine ListK.assign (i := 3) (v := .int .i64 (n : Int)) rfl (by simp [hz_a1]) ?_
    refine ListK.done (hK _ _ ?_)
    clear hK K
    generalize hA : Act.put _ _ _ = a2
    have hz_a2 : a2.tmps.size = 64 := by rw [← hA]; simp only [size_put, hz_a1]
    have q0 : a2.eval (.tmp 0) = .slice A L.length c := by rw [← hA]; exact (by simp [u0])
    have q1 : a2.eval (.tmp 1) = .slice Aw lw.length cw := by rw [← hA]; exact (by simp [u1])
    have q2 : a2.eval (.tmp 2) = .int .u8 (by_ : Int) := by rw [← hA]; exact (by simp [u2])
    have q7 : a2.eval (.tmp 7) = v := by rw [← hA]; exact (by simp [u7])
    have q8 : a2.eval (.tmp 8) = .int .i64 (i : Int) := by rw [← hA]; exact (by simp [u8])
    have q9 : a2.eval (.tmp 9) = .int .i64 (n : Int) := by rw [← hA]; exact (by simp [hz_a1])
    have hd_a2 : a2.defers = [] := by rw [← hA]; simp only [defers_put, hd_a1]
    clear hA
    have hl := List.getElem?_eq_getElem hil
    obtain ⟨gb, off, rfl, hgb, c1⟩ := hs1 i _ hl
    have hlast : ∀ b : Act, b.tmps.size = 64 → b.defers = [] → b.eval (.tmp 0) = .slice (some ⟨gb, off, none⟩) L.length c → b.eval (.tmp 1) = .slice Aw lw.length cw → b.eval (.tmp 2) = .int .u8 (by_ : Int) → b.eval (.tmp 7) = v → b.eval (.tmp 8) = .int .i64 (i : Int) → b.eval (.tmp 9) = .int .i64 (n : Int) →
        (Code.seq (.region 8 opsTn8 false) (.cond (.tmp 35) (.region 9 opsTn9 true) (.region 6 opsTn6 false))).wpIn Fence.wide 5 Try.prog (Exit.inBlock 2 (Exit.inBlock 1 (Exit.then ((Code.region 4 opsTn4 false).wpIn Fence.wide 5 Try.prog Q) Q))) b W1 := by
      intro b hz_b hd_b s0 s1 s2 s7 s8 s9
      by_cases h9 : n % 9 = 1
      · skip
        refine wpIn_seq (region_p 4 ?_)
        intro K hK
        refine ListK.move (i := 0) (v := .int .i64 (n : Int)) rfl (by simp [s9]) ?_
        refine ListK.bin (i := 1) (u := .int .i64 (n : Int)) (u' := .int .i64 9) (v := .int .i64 ((n % 9 : Nat) : Int)) rfl (by simp [hz_b]) (by simp) (rem3r (by omega) (by omega) rfl _) ?_
        refine ListK.bin (i := 2) (u := .int .i64 ((n % 9 : Nat) : Int)) (u' := .int .i64 1) (v := .bool true) rfl (by simp [hz_b]) (by simp) (eql3T (by omega) _) ?_
        refine ListK.assign (i := 3) (v := .bool true) rfl (by simp [hz_b]) ?_
        refine ListK.done (hK _ _ ?_)
        clear hK K
        refine wpIn_cond (t := true) (by simp [hz_b]) ?_
        generalize hA : Act.put _ _ _ = b2
        have hz_b2 : b2.tmps.size = 64 := by rw [← hA]; simp only [size_put, hz_b]
        have p0 : b2.eval (.tmp 0) = .slice (some ⟨gb, off, none⟩) L.length c := by rw [← hA]; exact (by simp [s0])
        have p1 : b2.eval (.tmp 1) = .slice Aw lw.length cw := by rw [← hA]; exact (by simp [s1])
        have p2 : b2.eval (.tmp 2) = .int .u8 (by_ : Int) := by rw [← hA]; exact (by simp [s2])
        have p7 : b2.eval (.tmp 7) = v := by rw [← hA]; exact (by simp [s7])
        have p8 : b2.eval (.tmp 8) = .int .i64 (i : Int) := by rw [← hA]; exact (by simp [s8])
        have hd_b2 : b2.defers = [] := by rw [← hA]; simp only [defers_put, hd_b]
        clear hA
        have hbd : Below W1.heap.size W1 (W1.drew.alloc (.cells #[strV L[i], strV L[i]] 9)) := (Below.refl W1.heap.size W1).drew.alloc (Nat.le_refl _) _
        obtain ⟨v4, W4, hap4, os4⟩ := app36n_run (ys := [L[i], L[i]]) (A := some ⟨W1.drew.heap.size, 0, none⟩) (c := 2) (ty := 36) (os.below hbd) (strs_two W1.drew L[i] L[i]) (by omega) (by simp)
        have c4 : W4.cell? ⟨gb, off + i, none⟩ = some (strV L[i]) := (hs.below os4.low (Nat.le_refl _)).cell36 hl
        refine region_K (KpR (fun w : World => w.cell? ⟨gb, off + i, none⟩ = some (strV L[i])) (fun _ => false)) (wideF_plain _) (by kernel_rfl) Try.mixed ?_
        change AnyK _ _ _ _ 12 (Array.replicate 12 false) _ _
        have hR : (fun w : World => w.cell? ⟨gb, off + i, none⟩ = some (strV L[i])) W1.drew := c1
        refine AnyK.move (i := 0) may_o (v := v) (by simp [p7]) hR ?_
        refine AnyK.move (i := 1) may_o (v := .slice (some ⟨gb, off, none⟩) L.length c) (by simp [p0]) hR ?_
        refine AnyK.move (i := 2) may_o (v := .int .i64 (i : Int)) (by simp [p8]) hR ?_
        refine AnyK.index (i := 3) may_o (u := .slice (some ⟨gb, off, none⟩) L.length c) (u' := .int .i64 (i : Int)) (v := .pointer (some ⟨gb, off + i, none⟩)) (by simp [hz_b2]) (by simp [hz_b2]) (fun w => ix36 hil w) hR ?_
        refine AnyK.load (i := 4) may_o (p := ⟨gb, off + i, none⟩) (v := strV L[i]) (by simp [hz_b2]) (fun w hw => ld9 hw) hR ?_
        refine AnyK.move (i := 5) may_o (v := .slice (some ⟨gb, off, none⟩) L.length c) (by simp [p0]) hR ?_
        refine AnyK.move (i := 6) may_o (v := .int .i64 (i : Int)) (by simp [p8]) hR ?_
        refine AnyK.index (i := 7) may_o (u := .slice (some ⟨gb, off, none⟩) L.length c) (u' := .int .i64 (i : Int)) (v := .pointer (some ⟨gb, off + i, none⟩)) (by simp [hz_b2]) (by simp [hz_b2]) (fun w => ix36 hil w) hR ?_
        refine AnyK.load (i := 8) may_o (p := ⟨gb, off + i, none⟩) (v := strV L[i]) (by simp [hz_b2]) (fun w hw => ld9 hw) hR ?_
        refine AnyK.pick1 (i := 9) (by kernel_rfl) ?_
        replace hR : (fun w : World => w.cell? ⟨gb, off + i, none⟩ = some (strV L[i])) (W1.drew.alloc (.cells #[strV L[i], strV L[i]] 9)) := (by show World.cell? _ _ = _; rw [hbd.cell (show Addr.block ⟨gb, off + i, none⟩ < W1.heap.size from Nat.lt_of_lt_of_le hgb os.low.size)]; exact c1)
        refine StepK.buildG (i := 9) (ps := #[(0, strV L[i]), (1, strV L[i])]) rfl (by simp [hz_b2]) (bs36_2 _ _ W1.drew) (fun _ _ => hR) ?_
        refine AnyK.pick1 (i := 10) (by kernel_rfl) ?_
        replace hR : (fun w : World => w.cell? ⟨gb, off + i, none⟩ = some (strV L[i])) W4 := c4
        refine StepK.app36 (i := 10) rfl (by simp [hz_b2]) (by simp [hz_b2]) hap4 (fun _ _ => hR) ?_
        refine AnyK.assign (i := 11) may_o (v := v4) (by simp [hz_b2]) hR ?_
        refine AnyK.done (by kernel_rfl) ?_
        exact hgo (T ++ [L[i], L[i]]) v4 _ W4 (by simp only [size_put, hz_b2]) (by simp only [defers_put, hd_b2]) (by simp [p0]) (by simp [p1]) (by simp [p2]) (by simp [hz_b2]) (by simp [p8]) os4 (tn.two hl)
      · skip
        refine wpIn_seq (region_p 4 ?_)
        intro K hK
        refine ListK.move (i := 0) (v := .int .i64 (n : Int)) rfl (by simp [s9]) ?_
        refine ListK.bin (i := 1) (u := .int .i64 (n : Int)) (u' := .int .i64 9) (v := .int .i64 ((n % 9 : Nat) : Int)) rfl (by simp [hz_b]) (by simp) (rem3r (by omega) (by omega) rfl _) ?_
        refine ListK.bin (i := 2) (u := .int .i64 ((n % 9 : Nat) : Int)) (u' := .int .i64 1) (v := .bool false) rfl (by simp [hz_b]) (by simp) (eql3F (by omega) _) ?_
        refine ListK.assign (i := 3) (v := .bool false) rfl (by simp [hz_b]) ?_
        refine ListK.done (hK _ _ ?_)
        clear hK K
        refine wpIn_cond (t := false) (by simp [hz_b]) ?_
        generalize hA : Act.put _ _ _ = b2
        have hz_b2 : b2.tmps.size = 64 := by rw [← hA]; simp only [size_put, hz_b]
        have p0 : b2.eval (.tmp 0) = .slice (some ⟨gb, off, none⟩) L.length c := by rw [← hA]; exact (by simp [s0])
        have p1 : b2.eval (.tmp 1) = .slice Aw lw.length cw := by rw [← hA]; exact (by simp [s1])
        have p2 : b2.eval (.tmp 2) = .int .u8 (by_ : Int) := by rw [← hA]; exact (by simp [s2])
        have p7 : b2.eval (.tmp 7) = v := by rw [← hA]; exact (by simp [s7])
        have p8 : b2.eval (.tmp 8) = .int .i64 (i : Int) := by rw [← hA]; exact (by simp [s8])
        have hd_b2 : b2.defers = [] := by rw [← hA]; simp only [defers_put, hd_b]
        clear hA
        obtain ⟨v4, W4, hap4, os4⟩ := app36_run (l := L[i]) (b := W1.heap.size) (c := 1) (ty := 36) (os.below ((Below.refl W1.heap.size W1).alloc (Nat.le_refl _) (.cells #[strV L[i]] 9))) ((Whole.new W1 9 #[strV L[i]]).cell 0) (by omega)
        refine region_p 8 ?_
        intro K hK
        refine ListK.move (i := 0) (v := v) rfl (by simp [p7]) ?_
        refine ListK.move (i := 1) (v := .slice (some ⟨gb, off, none⟩) L.length c) rfl (by simp [p0]) ?_
        refine ListK.move (i := 2) (v := .int .i64 (i : Int)) rfl (by simp [p8]) ?_
        refine ListK.index (i := 3) (u := .slice (some ⟨gb, off, none⟩) L.length c) (u' := .int .i64 (i : Int)) (v := .pointer (some ⟨gb, off + i, none⟩)) rfl (by simp [hz_b2]) (by simp [hz_b2]) (ix36 hil _) ?_
        refine ListK.load (i := 4) (p := ⟨gb, off + i, none⟩) (v := strV L[i]) rfl (by simp [hz_b2]) (ld9 (c1)) ?_
        refine ListK.bsl (i := 5) (ps := #[(0, strV L[i])]) (v := .slice (some ⟨W1.heap.size, 0, none⟩) 1 1) rfl (by simp [hz_b2]) (bs36_1 _ W1) ?_
        refine ListK.app36 (i := 6) rfl (by simp [hz_b2]) (by simp [hz_b2]) hap4 ?_
        refine ListK.assign (i := 7) (v := v4) rfl (by simp [hz_b2]) ?_
        refine ListK.done (hK _ _ ?_)
        clear hK K
        exact hgo (T ++ [L[i]]) v4 _ W4 (by simp only [size_put, hz_b2]) (by simp only [defers_put, hd_b2]) (by simp [p0]) (by simp [p1]) (by simp [p2]) (by simp [hz_b2]) (by simp [p8]) os4 (tn.one hl)
    refine wpIn_block (wpIn_seq ?_)
    by_cases h0 : i = 0
    · skip
      refine region_p 8 ?_
      intro K hK
      refine ListK.move (i := 0) (v := .int .i64 (i : Int)) rfl (by simp [q8]) ?_
      refine ListK.bin (i := 1) (u := .int .i64 (i : Int)) (u' := .int .i64 0) (v := .bool false) rfl (by simp [hz_a2]) (by simp) (gtr3F (by omega) _) ?_
      refine ListK.move (i := 2) (v := .bool false) rfl (by simp [hz_a2]) ?_
      refine ListK.passG (i := 3) (e := 30) (b' := false) rfl rfl (by simp [hz_a2]) rfl ?_
      refine ListK.passG (i := 4) (e := 30) (b' := false) rfl rfl (by simp [hz_a2]) rfl ?_
      refine ListK.passG (i := 5) (e := 30) (b' := false) rfl rfl (by simp [hz_a2]) rfl ?_
      refine ListK.pick (i := 6) (b := false) (v := .bool false) rfl (by simp [hz_a2]) (by simp) ?_
      refine ListK.assign (i := 7) (v := .bool false) rfl (by simp [hz_a2]) ?_
      refine ListK.done (hK _ _ ?_)
      clear hK K
      refine wpIn_cond (t := false) (by simp [hz_a2]) ?_
      generalize hA : Act.put _ _ _ = a3
      have hz_a3 : a3.tmps.size = 64 := by rw [← hA]; simp only [size_put, hz_a2]
      have r0 : a3.eval (.tmp 0) = .slice (some ⟨gb, off, none⟩) L.length c := by rw [← hA]; exact (by simp [q0])
      have r1 : a3.eval (.tmp 1) = .slice Aw lw.length cw := by rw [← hA]; exact (by simp [q1])
      have r2 : a3.eval (.tmp 2) = .int .u8 (by_ : Int) := by rw [← hA]; exact (by simp [q2])
      have r7 : a3.eval (.tmp 7) = v := by rw [← hA]; exact (by simp [q7])
      have r8 : a3.eval (.tmp 8) = .int .i64 (i : Int) := by rw [← hA]; exact (by simp [q8])
      have r9 : a3.eval (.tmp 9) = .int .i64 (n : Int) := by rw [← hA]; exact (by simp [q9])
      have hd_a3 : a3.defers = [] := by rw [← hA]; simp only [defers_put, hd_a2]
      clear hA
      exact hlast _ hz_a3 hd_a3 r0 r1 r2 r7 r8 r9
    · by_cases h4 : n % 4 = 0
      · skip
        refine region_p 8 ?_
        intro K hK
        refine ListK.move (i := 0) (v := .int .i64 (i : Int)) rfl (by simp [q8]) ?_
        refine ListK.bin (i := 1) (u := .int .i64 (i : Int)) (u' := .int .i64 0) (v := .bool true) rfl (by simp [hz_a2]) (by simp) (gtr3T (by omega) _) ?_
        refine ListK.move (i := 2) (v := .bool true) rfl (by simp [hz_a2]) ?_
        refine ListK.move (i := 3) (v := .int .i64 (n : Int)) rfl (by simp [q9]) ?_ (hw := wanted_g (e := 30) (b' := true) rfl (by simp [hz_a2]) rfl)
        refine ListK.bin (i := 4) (u := .int .i64 (n : Int)) (u' := .int .i64 4) (v := .int .i64 ((n % 4 : Nat) : Int)) rfl (by simp [hz_a2]) (by simp) (rem3r (by omega) (by omega) rfl _) ?_ (hw := wanted_g (e := 30) (b' := true) rfl (by simp [hz_a2]) rfl)
        refine ListK.bin (i := 5) (u := .int .i64 ((n % 4 : Nat) : Int)) (u' := .int .i64 0) (v := .bool true) rfl (by simp [hz_a2]) (by simp) (eql3T (by omega) _) ?_ (hw := wanted_g (e := 30) (b' := true) rfl (by simp [hz_a2]) rfl)
        refine ListK.pick (i := 6) (b := true) (v := .bool true) rfl (by simp [hz_a2]) (by simp [hz_a2]) ?_
        refine ListK.assign (i := 7) (v := .bool true) rfl (by simp [hz_a2]) ?_
        refine ListK.done (hK _ _ ?_)
        clear hK K
        refine wpIn_cond (t := true) (by simp [hz_a2]) (wpIn_exit ?_)
        exact hgo T v _ W1 (by simp only [size_put, hz_a2]) (by simp only [defers_put, hd_a2]) (by simp [q0]) (by simp [q1]) (by simp [q2]) (by simp [q7]) (by simp [q8]) os (tn.skip (by omega))
      · skip
        refine region_p 8 ?_
        intro K hK
        refine ListK.move (i := 0) (v := .int .i64 (i : Int)) rfl (by simp [q8]) ?_
        refine ListK.bin (i := 1) (u := .int .i64 (i : Int)) (u' := .int .i64 0) (v := .bool true) rfl (by simp [hz_a2]) (by simp) (gtr3T (by omega) _) ?_
        refine ListK.move (i := 2) (v := .bool true) rfl (by simp [hz_a2]) ?_
        refine ListK.move (i := 3) (v := .int .i64 (n : Int)) rfl (by simp [q9]) ?_ (hw := wanted_g (e := 30) (b' := true) rfl (by simp [hz_a2]) rfl)
        refine ListK.bin (i := 4) (u := .int .i64 (n : Int)) (u' := .int .i64 4) (v := .int .i64 ((n % 4 : Nat) : Int)) rfl (by simp [hz_a2]) (by simp) (rem3r (by omega) (by omega) rfl _) ?_ (hw := wanted_g (e := 30) (b' := true) rfl (by simp [hz_a2]) rfl)
        refine ListK.bin (i := 5) (u := .int .i64 ((n % 4 : Nat) : Int)) (u' := .int .i64 0) (v := .bool false) rfl (by simp [hz_a2]) (by simp) (eql3F (by omega) _) ?_ (hw := wanted_g (e := 30) (b' := true) rfl (by simp [hz_a2]) rfl)
        refine ListK.pick (i := 6) (b := true) (v := .bool false) rfl (by simp [hz_a2]) (by simp [hz_a2]) ?_
        refine ListK.assign (i := 7) (v := .bool false) rfl (by simp [hz_a2]) ?_
        refine ListK.done (hK _ _ ?_)
        clear hK K
        refine wpIn_cond (t := false) (by simp [hz_a2]) ?_
        generalize hA : Act.put _ _ _ = a3
        have hz_a3 : a3.tmps.size = 64 := by rw [← hA]; simp only [size_put, hz_a2]
        have r0 : a3.eval (.tmp 0) = .slice (some ⟨gb, off, none⟩) L.length c := by rw [← hA]; exact (by simp [q0])
        have r1 : a3.eval (.tmp 1) = .slice Aw lw.length cw := by rw [← hA]; exact (by simp [q1])
        have r2 : a3.eval (.tmp 2) = .int .u8 (by_ : Int) := by rw [← hA]; exact (by simp [q2])
        have r7 : a3.eval (.tmp 7) = v := by rw [← hA]; exact (by simp [q7])
        have r8 : a3.eval (.tmp 8) = .int .i64 (i : Int) := by rw [← hA]; exact (by simp [q8])
        have r9 : a3.eval (.tmp 9) = .int .i64 (n : Int) := by rw [← hA]; exact (by simp [q9])
        have hd_a3 : a3.defers = [] := by rw [← hA]; simp only [defers_put, hd_a2]
        clear hA
        exact hlast _ hz_a3 hd_a3 r0 r1 r2 r7 r8 r9
  · skip
    refine wpIn_seq (wpIn_seq (region_p 4 ?_))
    intro K hK
    refine ListK.move (i := 0) (v := .int .i64 (i : Int)) rfl (by simp [t8]) ?_
    refine ListK.move (i := 1) (v := .slice A L.length c) rfl (by simp [t0]) ?_
    refine ListK.len (i := 2) (u := .slice A L.length c) (v := .int .i64 L.length) rfl (by simp [hz]) (ln36 _ _ _ _ _) rfl ?_
    refine ListK.bin (i := 3) (u := .int .i64 (i : Int)) (u' := .int .i64 L.length) (v := .bool false) rfl (by simp [hz]) (by simp [hz]) (lssF3 (by omega) _) ?_
    refine ListK.done (hK _ _ ?_)
    clear hK K
    refine wpIn_cond (t := false) (by simp [hz]) (wpIn_exit ?_)
    exact hX (by omega) _ (by simp only [size_put, hz]) (by simp only [defers_put, hd_a]) (by simp [t2]) (by simp [t7])
end
theorem torn_any (A Aw : Option Addr) (c cw by_ : Nat) (L : List (List UInt8)) (lw : List Nat) (W : World) (hL : L.length ≤ 1000) (hne : 0 < L.length) (hby : by_ < 256) (hs : StrsAt W W.heap.size A L) (hw : WordsAt W W.heap.size Aw lw) :
    Calls Try.prog 24 #[.slice A L.length c, .slice Aw lw.length cw, .int .u8 (by_ : Int)] W (fun e w' => ∃ v T, e = .returned v ∧ OS W v T w' ∧ Tn L L.length T) := by
  refine (callsIn_wide (n := 5)).1 (callsIn_of_wp Try.func24 body24 trivial ?_ rfl)
  obtain ⟨a, ha⟩ : ∃ a : Act, a = { tmps := #[.slice A L.length c, .slice Aw lw.length cw, .int .u8 (by_ : Int)] ++ Array.replicate (Try.f24.ntmps - (#[.slice A L.length c, .slice Aw lw.length cw, .int .u8 (by_ : Int)] : Array Value).size) undef, defers := [] } := ⟨_, rfl⟩
  have hsz : a.tmps.size = 64 := by rw [ha]; simp [Try.ntmps24]
  have t0 : a.eval (.tmp 0) = .slice A L.length c := by rw [ha]; simp [Act.eval]
  have t1 : a.eval (.tmp 1) = .slice Aw lw.length cw := by rw [ha]; simp [Act.eval]
  have t2 : a.eval (.tmp 2) = .int .u8 (by_ : Int) := by rw [ha]; simp [Act.eval]
  have hd_a : a.defers = [] := by rw [ha]
  rw [← ha]
  clear ha
  unfold code24
  refine wpIn_seq (region_p 1 ?_)
  intro K hK
  refine ListK.assign (i := 0) (v := .slice none 0 0) rfl (by simp) ?_
  refine ListK.done (hK _ _ ?_)
  clear hK K
  refine wpIn_seq (region_p 1 ?_)
  intro K hK
  refine ListK.assign (i := 0) (v := .slice none 0 0) rfl (by simp) ?_
  refine ListK.done (hK _ _ ?_)
  clear hK K
  generalize hA : Act.put _ _ _ = a1
  have hz_a1 : a1.tmps.size = 64 := by rw [← hA]; simp only [size_put, hsz]
  have u0 : a1.eval (.tmp 0) = .slice A L.length c := by rw [← hA]; exact (by simp [t0])
  have u1 : a1.eval (.tmp 1) = .slice Aw lw.length cw := by rw [← hA]; exact (by simp [t1])
  have u2 : a1.eval (.tmp 2) = .int .u8 (by_ : Int) := by rw [← hA]; exact (by simp [t2])
  have u7 : a1.eval (.tmp 7) = .slice none 0 0 := by rw [← hA]; exact (by simp [hsz])
  have hd_a1 : a1.defers = [] := by rw [← hA]; simp only [defers_put, hd_a]
  clear hA
  refine wpIn_seq (wpIn_seq (region_p 1 ?_))
  intro K hK
  refine ListK.assign (i := 0) (v := .int .i64 0) rfl (by simp) ?_
  refine ListK.done (hK _ _ ?_)
  clear hK K
  generalize hA : Act.put _ _ _ = a2
  have hz_a2 : a2.tmps.size = 64 := by rw [← hA]; simp only [size_put, hz_a1]
  have v0 : a2.eval (.tmp 0) = .slice A L.length c := by rw [← hA]; exact (by simp [u0])
  have v1 : a2.eval (.tmp 1) = .slice Aw lw.length cw := by rw [← hA]; exact (by simp [u1])
  have v2 : a2.eval (.tmp 2) = .int .u8 (by_ : Int) := by rw [← hA]; exact (by simp [u2])
  have v7 : a2.eval (.tmp 7) = .slice none 0 0 := by rw [← hA]; exact (by simp [u7])
  have v8 : a2.eval (.tmp 8) = .int .i64 0 := by rw [← hA]; exact (by simp [hz_a1])
  have hd_a2 : a2.defers = [] := by rw [← hA]; simp only [defers_put, hd_a1]
  clear hA
  refine wpIn_block (wpIn_loop (fun a W' => ∃ (i : Nat) (v : Value) (T : List (List UInt8)), i ≤ L.length ∧ a.tmps.size = 64 ∧ a.defers = [] ∧ a.eval (.tmp 0) = .slice A L.length c ∧ a.eval (.tmp 1) = .slice Aw lw.length cw ∧ a.eval (.tmp 2) = .int .u8 (by_ : Int) ∧ a.eval (.tmp 7) = v ∧ a.eval (.tmp 8) = .int .i64 (i : Int) ∧ OS W v T W' ∧ Tn L i T) (fun a _ => L.length - (intOf (a.eval (.tmp 8))).toNat)
    ⟨0, _, [], Nat.zero_le _, hz_a2, hd_a2, v0, v1, v2, v7, v8, os_none W, ⟨fun _ h => (List.not_mem_nil h).elim, fun h => absurd h (by omega), by simp⟩⟩ ?_)
  rintro b1 W1 ⟨i, v, T, hi, hz_b, hd_b, q0, q1, q2, q7, q8, os, tn⟩
  refine tn_l_any hL hs hw hi hz_b hd_b q0 q1 q2 q7 q8 os tn (fun hil a' W' v' T' y0 yd s0 s1 s2 s7 s8 os' tn' => ?_) (fun hend a' y0 yd s2 s7 => ?_)
  · refine ⟨⟨i + 1, v', T', by omega, y0, yd, s0, s1, s2, s7, s8, os', tn'⟩, ?_⟩
    rw [q8, s8]
    simp only [intOf]
    omega
  · subst hend
    exact tn_e_any hL hne hby y0 yd s2 s7 os tn
end Go.Proofs.YtmdlmmfbcnkanaaR
namespace Go.Proofs.YtmdlmmfbcnkanaaR

theorem pieces_app : ∀ (l acc rest : List UInt8), (10 : UInt8) ∉ l → pieces acc (l ++ 10 :: rest) = (acc ++ l) :: pieces [] rest
  | [], acc, rest, _ => by
    show (if (10 : UInt8) = 10 then acc :: pieces [] rest else pieces (acc ++ [10]) rest) = _
    simp
  | b :: l, acc, rest, h => by
    have hb : b ≠ 10 := fun e => h (by simp [e])
    show (if b = 10 then acc :: pieces [] (l ++ 10 :: rest) else pieces (acc ++ [b]) (l ++ 10 :: rest)) = _
    rw [if_neg hb, pieces_app l _ rest (fun hm => h (List.mem_cons_of_mem _ hm))]
    simp
theorem pieces_lines : ∀ (L : List (List UInt8)) (rest : List UInt8), (∀ l, l ∈ L → (10 : UInt8) ∉ l) → pieces [] (linesL L ++ rest) = L ++ pieces [] rest
  | [], _, _ => rfl
  | l :: L, rest, h => by
    have h1 := pieces_app l [] (linesL L ++ rest) (h l List.mem_cons_self)
    have h2 : linesL (l :: L) ++ rest = l ++ 10 :: (linesL L ++ rest) := by simp [linesL]
    rw [h2, h1, pieces_lines L rest (fun x hx => h x (List.mem_cons_of_mem _ hx))]
    rfl
theorem isDig_hi {n : Nat} (h : n ≤ 99) : isDig (hi2 n) = true ∧ dig (hi2 n) = n / 10 := by
  have h1 : isDig (hi2 n) = true := by
    simp only [isDig, decide_eq_true_eq, hi2_nat h]
    omega
  have h2 := (dig_nat h1).1
  rw [hi2_nat h] at h2
  exact ⟨h1, by omega⟩
theorem isDig_lo {n : Nat} (h : n ≤ 99) : isDig (lo2 n) = true ∧ dig (lo2 n) = n % 10 := by
  have h1 : isDig (lo2 n) = true := by
    simp only [isDig, decide_eq_true_eq, lo2_nat h]
    omega
  have h2 := (dig_nat h1).1
  rw [lo2_nat h] at h2
  exact ⟨h1, by omega⟩
theorem num2_two {n : Nat} (h : n ≤ 99) : num2 (hi2 n) (lo2 n) = n := by
  rw [num2, (isDig_hi h).2, (isDig_lo h).2]
  omega
theorem not10 {b : UInt8} (h : isDig b = true) : b ≠ 10 := by
  rintro rfl
  simp [isDig] at h
theorem made_no10 {k : UInt8} {a b : Nat} (hk : k ≠ 10) (ha : a ≤ 99) (hb : b ≤ 99) : (10 : UInt8) ∉ made k a b := by
  have hc : chk5 k (hi2 a) (lo2 a) (hi2 b) (lo2 b) ≤ 99 := by have := chk5_lt k (hi2 a) (lo2 a) (hi2 b) (lo2 b); omega
  have h1 := not10 (isDig_hi ha).1
  have h2 := not10 (isDig_lo ha).1
  have h3 := not10 (isDig_hi hb).1
  have h4 := not10 (isDig_lo hb).1
  have h5 := not10 (isDig_hi hc).1
  have h6 := not10 (isDig_lo hc).1
  simp only [made, List.mem_cons, List.not_mem_nil, or_false, not_or]
  exact ⟨hk.symm, h1.symm, h2.symm, h3.symm, h4.symm, h5.symm, h6.symm⟩
theorem made_good {k : UInt8} {a b : Nat} (hk : k = 72 ∨ k = 82 ∨ k = 80) (ha : a ≤ 99) (hb : b ≤ 99) (hh : k = 72 → headOk (a : Int) ((b / 10 : Nat) : Int) ((b % 10 : Nat) : Int) = true) : isGood (made k a b) = true := by
  have hc : chk5 k (hi2 a) (lo2 a) (hi2 b) (lo2 b) ≤ 99 := by have := chk5_lt k (hi2 a) (lo2 a) (hi2 b) (lo2 b); omega
  have e1 : (k == 72 || k == 82 || k == 80) = true := by rcases hk with rfl | rfl | rfl <;> rfl
  simp only [made, isGood, good7, e1, (isDig_hi ha).1, (isDig_lo ha).1, (isDig_hi hb).1, (isDig_lo hb).1, (isDig_hi hc).1, (isDig_lo hc).1, num2_two hc, num2_two ha, (isDig_hi hb).2, (isDig_lo hb).2, Bool.and_self, BEq.rfl, Bool.true_and]
  by_cases h72 : k = 72
  · rw [hh h72]
    simp
  · simp [h72]
theorem made_name {k : UInt8} {a b : Nat} (ha : a ≤ 99) : nameOf (made k a b) = if k = 72 then (72, 0) else (k, a) := by
  simp only [made, nameOf, num2_two ha]
theorem made_val {k : UInt8} {a b : Nat} (hb : b ≤ 99) : valOf (made k a b) = b := by
  simp only [made, valOf, num2_two hb]
theorem made_head {m w st : Nat} (hm : m ≤ 99) (hw : w ≤ 9) (hs : st ≤ 9) : headOf (made 72 m (10 * w + st)) = ⟨m, w, st⟩ := by
  have hb : 10 * w + st ≤ 99 := by omega
  simp only [made, headOf, num2_two hm, (isDig_hi hb).2, (isDig_lo hb).2, Head.mk.injEq, true_and]
  omega
/-- Records of which no two of one name differ. -/
def Func (L : List (List UInt8)) : Prop := ∀ a b, a ∈ L → b ∈ L → nameOf a = nameOf b → a = b
theorem find_iff {m : List (List UInt8)} (hf : Func m) {nm : UInt8 × Nat} {r : List UInt8} : find m nm = some r ↔ r ∈ m ∧ nameOf r = nm := by
  constructor
  · exact find_mem
  · rintro ⟨h1, h2⟩
    cases h : find m nm with
    | none =>
      unfold find at h
      rw [List.find?_eq_none] at h
      have := h r h1
      simp [h2] at this
    | some r' =>
      obtain ⟨h3, h4⟩ := find_mem h
      rw [hf r' r h3 h1 (h4.trans h2.symm)]
theorem takeUp_ok : ∀ (T m : List (List UInt8)), Func (m ++ T) → ∃ m', takeUp m T = some m' ∧ ∀ r, r ∈ m' ↔ r ∈ m ++ T
  | [], m, _ => ⟨m, rfl, fun r => by simp⟩
  | g :: T, m, hf => by
    simp only [takeUp]
    cases h : find m (nameOf g) with
    | none =>
      obtain ⟨m', h1, h2⟩ := takeUp_ok T (m ++ [g]) (by simpa using hf)
      exact ⟨m', h1, fun r => by rw [h2]; simp⟩
    | some old =>
      obtain ⟨h3, h4⟩ := find_mem h
      have ho : old = g := hf old g (by simp [h3]) (by simp) h4
      subst ho
      obtain ⟨m', h1, h2⟩ := takeUp_ok T m (fun a b ha hb => hf a b (by
        rcases List.mem_append.1 ha with h | h
        · simp [h]
        · simp [h]) (by
        rcases List.mem_append.1 hb with h | h
        · simp [h]
        · simp [h]))
      refine ⟨m', by simpa using h1, fun r => ?_⟩
      rw [h2]
      simp only [List.mem_append, List.mem_cons]
      constructor
      · rintro (h | h)
        · exact .inl h
        · exact .inr (.inr h)
      · rintro (h | rfl | h)
        · exact .inl h
        · exact .inl h3
        · exact .inr h
theorem Func.of_sub {L L' : List (List UInt8)} (h : Func L) (hs : ∀ r, r ∈ L' → r ∈ L) : Func L' := fun a b ha hb => h a b (hs a ha) (hs b hb)
end Go.Proofs.YtmdlmmfbcnkanaaR
namespace Go.Proofs.YtmdlmmfbcnkanaaR

/-- A reading as a number. -/
def rdN (s : Ser) (i : Nat) : Nat := (s.rd.getD i 0).toNat
def smN (s : Ser) (b : Nat) : Nat := (sumB s b).toNat
def hdR (s : Ser) : List UInt8 := made 72 s.rd.length (10 * s.width.toNat + s.step.toNat)
def hdH (s : Ser) : Head := ⟨s.rd.length, s.width.toNat, s.step.toNat⟩
theorem mem_recsTo {s : Ser} : ∀ {k : Nat} {r : List UInt8}, r ∈ recsTo s k ↔ r = hdR s ∨ (∃ i, i < k ∧ r = made 82 i (rdN s i)) ∨ (∃ i, i < k ∧ closesB s.rd.length s.width i = true ∧ r = made 80 (i / s.width.toNat) (smN s (i / s.width.toNat)))
  | 0, r => by simp [recsTo, hdR]
  | k + 1, r => by
    unfold recsTo
    rw [List.mem_append, List.mem_append, mem_recsTo (k := k)]
    constructor
    · rintro (((h | ⟨i, h1, h2⟩ | ⟨i, h1, h2, h3⟩) | h) | h)
      · exact .inl h
      · exact .inr (.inl ⟨i, by omega, h2⟩)
      · exact .inr (.inr ⟨i, by omega, h2, h3⟩)
      · simp at h
        exact .inr (.inl ⟨k, by omega, h⟩)
      · split at h
        · rename_i hc
          simp at h
          exact .inr (.inr ⟨k, by omega, hc, h⟩)
        · simp at h
    · rintro (h | ⟨i, h1, h2⟩ | ⟨i, h1, h2, h3⟩)
      · exact .inl (.inl (.inl h))
      · by_cases e : i = k
        · subst e
          exact .inl (.inr (List.mem_singleton.2 h2))
        · exact .inl (.inl (.inr (.inl ⟨i, by omega, h2⟩)))
      · by_cases e : i = k
        · subst e
          refine .inr ?_
          rw [if_pos h2]
          exact List.mem_singleton.2 h3
        · exact .inl (.inl (.inr (.inr ⟨i, by omega, h2, h3⟩)))
/-- What a valid series is like, in numbers. -/
structure SerN (s : Ser) : Prop where
  len : 1 ≤ s.rd.length ∧ s.rd.length ≤ 40
  wd : 2 ≤ s.width.toNat ∧ s.width.toNat ≤ 8 ∧ s.width = (s.width.toNat : Int)
  st : 1 ≤ s.step.toNat ∧ s.step.toNat ≤ 9 ∧ s.step = (s.step.toNat : Int)
  rd : ∀ i, i < s.rd.length → rdN s i ≤ 99 ∧ s.rd[i]? = some (rdN s i : Int)
  sm : ∀ b, smN s b ≤ 99 ∧ sumB s b = (smN s b : Int)
  near : ∀ i, i + 1 < s.rd.length → rdN s (i + 1) ≤ rdN s i + s.step.toNat ∧ rdN s i ≤ rdN s (i + 1) + s.step.toNat
theorem serN {s : Ser} (hf : faultS s = 0) : SerN s := by
  obtain ⟨h1, h2, h3, h4, h5⟩ := ser_valid hf
  have hrd : ∀ i, i < s.rd.length → rdN s i ≤ 99 ∧ s.rd[i]? = some (rdN s i : Int) := by
    intro i hi
    have e := List.getElem?_eq_getElem hi
    have := h4 i _ e
    have hg : rdN s i = s.rd[i].toNat := by simp [rdN, hi]
    refine ⟨by omega, ?_⟩
    rw [e, hg]
    congr 1
    omega
  refine ⟨h1, ⟨by omega, by omega, by omega⟩, ⟨by omega, by omega, by omega⟩, hrd, fun b => ?_, fun i hi => ?_⟩
  · have : 0 ≤ sumB s b ∧ sumB s b ≤ 99 := by unfold sumB; omega
    unfold smN
    omega
  · have := (nearL_iff _ _).1 h5 i _ _ hi (hrd i (by omega)).2 (hrd (i + 1) hi).2
    unfold nearB at this
    rw [inR_iff] at this
    omega
theorem div_le40 {s : Ser} (n : SerN s) {i : Nat} (hi : i < s.rd.length) : i / s.width.toNat ≤ 40 := by
  have := Nat.div_le_self i s.width.toNat
  have := n.len
  omega
theorem hdR_ok {s : Ser} (n : SerN s) : isGood (hdR s) = true ∧ nameOf (hdR s) = (72, 0) ∧ headOf (hdR s) = hdH s ∧ (10 : UInt8) ∉ hdR s := by
  have h1 := n.len
  have h2 := n.wd
  have h3 := n.st
  have hb : 10 * s.width.toNat + s.step.toNat ≤ 99 := by omega
  refine ⟨made_good (.inl rfl) (by omega) hb (fun _ => headOk_iff.2 ⟨by omega, by omega, by omega⟩), ?_, made_head (by omega) (by omega) (by omega), made_no10 (by decide) (by omega) hb⟩
  unfold hdR
  rw [made_name (by omega), if_pos rfl]
theorem recR_ok {s : Ser} (n : SerN s) {i : Nat} (hi : i < s.rd.length) : isGood (made 82 i (rdN s i)) = true ∧ nameOf (made 82 i (rdN s i)) = (82, i) ∧ valOf (made 82 i (rdN s i)) = rdN s i ∧ (10 : UInt8) ∉ made 82 i (rdN s i) := by
  have h1 := n.len
  have h2 := (n.rd i hi).1
  refine ⟨made_good (.inr (.inl rfl)) (by omega) h2 (fun h => by cases h), ?_, made_val h2, made_no10 (by decide) (by omega) h2⟩
  rw [made_name (by omega), if_neg (by decide)]
theorem recP_ok {s : Ser} (n : SerN s) {b : Nat} (hb : b ≤ 40) : isGood (made 80 b (smN s b)) = true ∧ nameOf (made 80 b (smN s b)) = (80, b) ∧ valOf (made 80 b (smN s b)) = smN s b ∧ (10 : UInt8) ∉ made 80 b (smN s b) := by
  have h2 := (n.sm b).1
  refine ⟨made_good (.inr (.inr rfl)) (by omega) h2 (fun h => by cases h), ?_, made_val h2, made_no10 (by decide) (by omega) h2⟩
  rw [made_name (by omega), if_neg (by decide)]
theorem file_ok {s : Ser} (n : SerN s) {r : List UInt8} (hr : r ∈ fileL s) : isGood r = true ∧ (10 : UInt8) ∉ r := by
  rcases mem_recsTo.1 hr with rfl | ⟨i, h1, rfl⟩ | ⟨i, h1, _, rfl⟩
  · exact ⟨(hdR_ok n).1, (hdR_ok n).2.2.2⟩
  · exact ⟨(recR_ok n h1).1, (recR_ok n h1).2.2.2⟩
  · exact ⟨(recP_ok n (div_le40 n h1)).1, (recP_ok n (div_le40 n h1)).2.2.2⟩
theorem file_func {s : Ser} (n : SerN s) : Func (fileL s) := by
  intro a b ha hb he
  rcases mem_recsTo.1 ha with rfl | ⟨i, h1, rfl⟩ | ⟨i, h1, _, rfl⟩ <;> rcases mem_recsTo.1 hb with rfl | ⟨j, h2, rfl⟩ | ⟨j, h2, _, rfl⟩
  · rfl
  · rw [(hdR_ok n).2.1, (recR_ok n h2).2.1] at he
    cases he
  · rw [(hdR_ok n).2.1, (recP_ok n (div_le40 n h2)).2.1] at he
    cases he
  · rw [(hdR_ok n).2.1, (recR_ok n h1).2.1] at he
    cases he
  · rw [(recR_ok n h1).2.1, (recR_ok n h2).2.1] at he
    simp at he
    rw [he]
  · rw [(recR_ok n h1).2.1, (recP_ok n (div_le40 n h2)).2.1] at he
    cases he
  · rw [(hdR_ok n).2.1, (recP_ok n (div_le40 n h1)).2.1] at he
    cases he
  · rw [(recP_ok n (div_le40 n h1)).2.1, (recR_ok n h2).2.1] at he
    cases he
  · rw [(recP_ok n (div_le40 n h1)).2.1, (recP_ok n (div_le40 n h2)).2.1] at he
    simp at he
    rw [he]
theorem goods_lines {T : List (List UInt8)} (h : ∀ r, r ∈ T → isGood r = true ∧ (10 : UInt8) ∉ r) : goods (linesL T) = T := by
  have h1 := pieces_lines T [] (fun r hr => (h r hr).2)
  rw [List.append_nil] at h1
  unfold goods
  rw [h1]
  simp only [pieces, List.append_nil]
  exact List.filter_eq_self.2 (fun r hr => (h r hr).1)
/-- What is read of some records of a file. -/
structure RdM (s : Ser) (m : List (List UInt8)) : Prop where
  sub : ∀ r, r ∈ m → r ∈ fileL s
  hd : hdR s ∈ m
theorem RdM.func {s : Ser} {m : List (List UInt8)} (h : RdM s m) (n : SerN s) : Func m := (file_func n).of_sub h.sub
theorem RdM.find {s : Ser} {m : List (List UInt8)} (h : RdM s m) (n : SerN s) : find m (72, 0) = some (hdR s) := (find_iff (h.func n)).2 ⟨h.hd, (hdR_ok n).2.1⟩
theorem RdM.out {s : Ser} {m : List (List UInt8)} (h : RdM s m) (n : SerN s) : m.any (outOf (hdH s)) = false := by
  rw [List.any_eq_false]
  intro r hr
  have hw := n.wd
  rcases mem_recsTo.1 (h.sub r hr) with rfl | ⟨i, h1, rfl⟩ | ⟨i, h1, _, rfl⟩
  · simp [outOf, (hdR_ok n).2.1]
  · simp [outOf, (recR_ok n h1).2.1, hdH, h1]
  · have hd : i / s.width.toNat < (s.rd.length + s.width.toNat - 1) / s.width.toNat := by
      have h2 : i / s.width.toNat + 1 ≤ (s.rd.length + s.width.toNat - 1) / s.width.toNat := by
        rw [Nat.le_div_iff_mul_le (by omega), Nat.add_mul, Nat.one_mul]
        have := Nat.div_mul_le_self i s.width.toNat
        omega
      omega
    simp [outOf, (recP_ok n (div_le40 n h1)).2.1, hdH, Head.blocks, hd]
theorem read_torn {s : Ser} (n : SerN s) {T : List (List UInt8)} (hT : ∀ r, r ∈ T → r ∈ fileL s) (hh : hdR s ∈ T) (hl : (linesL T).length ≤ 4000) :
    ∃ m, takeUp [] T = some m ∧ (∀ r, r ∈ m ↔ r ∈ T) ∧ RdM s m ∧ readC [linesL T] = 0 ∧ readM (linesL T) = some (hdH s, m) := by
  obtain ⟨m, h1, h2⟩ := takeUp_ok T [] (by rw [List.nil_append]; exact (file_func n).of_sub hT)
  simp only [List.nil_append] at h2
  have hm : RdM s m := ⟨fun r hr => hT r ((h2 r).1 hr), (h2 _).2 hh⟩
  have hg := goods_lines (T := T) (fun r hr => file_ok n (hT r hr))
  have hfl : [linesL T].flatMap goods = T := by simp [hg]
  have hc : readC [linesL T] = 0 := by
    have h4 : [linesL T].any (fun l => decide (4000 < l.length)) = false := by simp; omega
    rw [readC_of h4 (by rw [hfl]; exact h1) (hm.find n), (hdR_ok n).2.2.1, hm.out n]
    simp
  refine ⟨m, h1, h2, hm, hc, ?_⟩
  simp only [readM, hc, hg, h1]
  simp [hm.find n, (hdR_ok n).2.2.1]
end Go.Proofs.YtmdlmmfbcnkanaaR
namespace Go.Proofs.YtmdlmmfbcnkanaaR

theorem told_R {s : Ser} (n : SerN s) {m : List (List UInt8)} (h : RdM s m) {k x : Nat} (ht : told m 82 k = some x) : x = rdN s k := by
  unfold told at ht
  rw [Option.map_eq_some_iff] at ht
  obtain ⟨r, hf, rfl⟩ := ht
  obtain ⟨h1, h2⟩ := find_mem hf
  rcases mem_recsTo.1 (h.sub r h1) with rfl | ⟨i, h3, rfl⟩ | ⟨i, h3, _, rfl⟩
  · rw [(hdR_ok n).2.1] at h2
    cases h2
  · rw [(recR_ok n h3).2.1] at h2
    simp at h2
    subst h2
    exact (recR_ok n h3).2.2.1
  · rw [(recP_ok n (div_le40 n h3)).2.1] at h2
    cases h2
theorem told_P {s : Ser} (n : SerN s) {m : List (List UInt8)} (h : RdM s m) {b x : Nat} (ht : told m 80 b = some x) : x = smN s b := by
  unfold told at ht
  rw [Option.map_eq_some_iff] at ht
  obtain ⟨r, hf, rfl⟩ := ht
  obtain ⟨h1, h2⟩ := find_mem hf
  rcases mem_recsTo.1 (h.sub r h1) with rfl | ⟨i, h3, rfl⟩ | ⟨i, h3, _, rfl⟩
  · rw [(hdR_ok n).2.1] at h2
    cases h2
  · rw [(recR_ok n h3).2.1] at h2
    cases h2
  · rw [(recP_ok n (div_le40 n h3)).2.1] at h2
    simp at h2
    subst h2
    exact (recP_ok n (div_le40 n h3)).2.2.1
/-- The sum of a block up to a place. -/
def rs (s : Ser) : Nat → Nat
  | 0 => 0
  | k + 1 => if k % s.width.toNat = 0 then rdN s k else (rs s k + rdN s k) % 100
def pv (s : Ser) : Nat → Nat
  | 0 => 0
  | k + 1 => rdN s k
theorem rs_sum {s : Ser} (n : SerN s) : ∀ k, k < s.rd.length → (rs s (k + 1) : Int) = sumR s.rd (k / s.width.toNat * s.width.toNat) (k % s.width.toNat + 1) % 100
  | k, hk => by
    have hw := n.wd
    have hdm := Nat.div_add_mod' k s.width.toNat
    have hr := n.rd k hk
    have hlt := Nat.mod_lt k (show 0 < s.width.toNat by omega)
    generalize hb : k / s.width.toNat * s.width.toNat = c at *
    have hx : s.rd[c + k % s.width.toNat]? = some (rdN s k : Int) := by rw [hdm]; exact hr.2
    have hsucc := sumR_succ (l := s.rd) (i := c) (n := k % s.width.toNat) (by omega)
    rw [(List.getElem?_eq_some_iff.1 hx).2] at hsucc
    rw [hsucc]
    simp only [rs]
    by_cases h0 : k % s.width.toNat = 0
    · rw [if_pos h0, h0, sumR_zero]
      omega
    · rw [if_neg h0]
      obtain ⟨j, rfl⟩ : ∃ j, k = j + 1 := ⟨k - 1, by
        have : k ≠ 0 := fun e => h0 (by rw [e]; exact Nat.zero_mod _)
        omega⟩
      have hj := rs_sum n j (by omega)
      have hjm : j % s.width.toNat + 1 = (j + 1) % s.width.toNat ∧ j / s.width.toNat * s.width.toNat = c := by
        have h1 : (j + 1) / s.width.toNat = j / s.width.toNat := by
          rw [Nat.succ_div]
          rw [if_neg (fun hd => h0 (Nat.mod_eq_zero_of_dvd hd))]
          rfl
        have h2 := Nat.div_add_mod' j s.width.toNat
        rw [h1] at hb
        exact ⟨by omega, hb⟩
      rw [hjm.1, hjm.2] at hj
      push_cast
      rw [hj]
      omega
theorem rs_le {s : Ser} (n : SerN s) : ∀ k, k ≤ s.rd.length → rs s k ≤ 99
  | 0, _ => by simp [rs]
  | k + 1, hk => by
    have := n.rd k hk
    simp only [rs]
    split <;> omega
theorem rs_close {s : Ser} (n : SerN s) {k : Nat} (hk : k < s.rd.length) (hc : (hdH s).closes k = true) : rs s (k + 1) = smN s (k / s.width.toNat) := by
  have hw := n.wd
  have h1 := rs_sum n k hk
  have h2 := (n.sm (k / s.width.toNat)).2
  have hdm := Nat.div_add_mod' k s.width.toNat
  have hlt := Nat.mod_lt k (show 0 < s.width.toNat by omega)
  have h3 : sumR s.rd (k / s.width.toNat * s.width.toNat) s.width.toNat = sumR s.rd (k / s.width.toNat * s.width.toNat) (k % s.width.toNat + 1) := by
    simp only [Head.closes, hdH, Bool.or_eq_true, beq_iff_eq] at hc
    rcases hc with hc | hc
    · exact sumR_all (by omega) (by omega)
    · rw [show k % s.width.toNat + 1 = s.width.toNat by omega]
  unfold sumB at h2
  rw [h3] at h2
  omega
theorem after_ser {s : Ser} (n : SerN s) {m : List (List UInt8)} (h : RdM s m) {k : Nat} (hk : k < s.rd.length) : after (hdH s) m k (rs s k) (rdN s k) = some (rs s (k + 1)) := by
  rw [after_eq (s' := rs s (k + 1)) rfl]
  have h1 : (told m 82 k).all (· == rdN s k) = true := by
    cases ht : told m 82 k with
    | none => rfl
    | some x => simp [told_R n h ht]
  have h2 : (!(hdH s).closes k || (told m 80 (k / (hdH s).width)).all (· == rs s (k + 1))) = true := by
    cases hc : (hdH s).closes k with
    | false => rfl
    | true =>
      cases ht : told m 80 (k / (hdH s).width) with
      | none => rfl
      | some x =>
        rw [rs_close n hk hc]
        simp [told_P n h ht, hdH]
  rw [h1, h2]
  rfl
theorem reads_ser {s : Ser} (n : SerN s) {k : Nat} (hk : k < s.rd.length) : rdN s k ∈ readsR (hdH s) k (pv s k) := by
  have h1 := n.rd k hk
  rw [mem_reads]
  unfold lowR highR
  cases k with
  | zero => simp; omega
  | succ k =>
    have h2 := n.near k hk
    have h3 : (hdH s).step = s.step.toNat := rfl
    rw [if_neg (by omega), if_neg (by omega), h3]
    simp only [pv]
    omega
theorem reach_ser {s : Ser} (n : SerN s) {m : List (List UInt8)} (h : RdM s m) : ∀ k, k ≤ s.rd.length → (pv s k, rs s k) ∈ reach (hdH s) m k
  | 0, _ => by simp [reach, pv, rs]
  | k + 1, hk => mem_reach.2 ⟨pv s k, rs s k, reach_ser n h k (by omega), reads_ser n hk, after_ser n h hk⟩
theorem go_ser {s : Ser} (n : SerN s) {m : List (List UInt8)} (h : RdM s m) : ∀ f k, k + f = s.rd.length → goB (hdH s) m f k (pv s k) (rs s k) = true
  | 0, _, _ => rfl
  | f + 1, k, hk => goB_succ.2 ⟨rdN s k, rs s (k + 1), reads_ser n (by omega), after_ser n h (by omega), go_ser n h f (k + 1) (by omega)⟩
theorem goes_ser {s : Ser} (n : SerN s) {m : List (List UInt8)} (h : RdM s m) {k : Nat} (hk : k < s.rd.length) : rdN s k ∈ goesAt (hdH s) m k :=
  mem_goes.2 ⟨rs s (k + 1), reach_ser n h (k + 1) hk, go_ser n h _ _ (by show k + 1 + (s.rd.length - (k + 1)) = _; omega)⟩
theorem mend_torn {s : Ser} (n : SerN s) {T : List (List UInt8)} (hT : ∀ r, r ∈ T → r ∈ fileL s) (hh : hdR s ∈ T) (hl : (linesL T).length ≤ 4000) : mendC (linesL T) = 0 := by
  obtain ⟨m, _, _, hm, _, hr⟩ := read_torn n hT hh hl
  have := go_ser n hm s.rd.length 0 (by omega)
  simp only [mendC, hr]
  rw [show (hdH s).many = s.rd.length from rfl]
  simp only [pv, rs] at this
  rw [this]
  rfl
end Go.Proofs.YtmdlmmfbcnkanaaR
namespace Go.Proofs.YtmdlmmfbcnkanaaR

theorem recsTo_zero (s : Ser) : ∀ k, (recsTo s k)[0]? = some (hdR s)
  | 0 => rfl
  | k + 1 => by
    have h := recsTo_zero s k
    have hp : 0 < (recsTo s k).length := by
      rcases Nat.eq_zero_or_pos (recsTo s k).length with h0 | h0
      · rw [List.eq_nil_of_length_eq_zero h0] at h
        cases h
      · exact h0
    unfold recsTo
    rw [List.getElem?_append_left (by simp), List.getElem?_append_left hp]
    exact h
/-- What is left of a file. -/
structure TornF (s : Ser) (T : List (List UInt8)) : Prop where
  sub : ∀ r, r ∈ T → r ∈ fileL s
  hd : hdR s ∈ T
  len : T.length ≤ 162
  bytes : (linesL T).length = 8 * T.length
theorem file_len {s : Ser} (n : SerN s) : (fileL s).length ≤ 81 ∧ 0 < (fileL s).length := by
  have h1 := recsTo_len s s.rd.length
  have h2 := n.len
  have h3 := recsTo_zero s s.rd.length
  refine ⟨by unfold fileL; omega, ?_⟩
  rcases Nat.eq_zero_or_pos (fileL s).length with h0 | h0
  · unfold fileL at h0
    rw [List.eq_nil_of_length_eq_zero h0] at h3
    cases h3
  · exact h0
theorem tornF {s : Ser} (n : SerN s) {T : List (List UInt8)} (t : Tn (fileL s) (fileL s).length T) : TornF s T := by
  have h := file_len n
  have hl := t.len
  exact ⟨t.sub, t.hd h.2 _ (recsTo_zero s s.rd.length), by omega, linesL_len (fun r hr => recsTo_seven s _ r (t.sub r hr))⟩
end Go.Proofs.YtmdlmmfbcnkanaaR
namespace Go.Proofs.YtmdlmmfbcnkanaaR

/-- Two lots of records that say the same but for a reading. -/
structure SameBut (h : Head) (m m' : List (List UInt8)) (k n : Nat) : Prop where
  other : ∀ j s x, j ≠ k → after h m' j s x = after h m j s x
  at_ : ∀ s, after h m' k s n = after h m k s n
theorem SameBut.reach {h : Head} {m m' : List (List UInt8)} {k n : Nat} (b : SameBut h m m' k n) : ∀ j, j ≤ k → ∀ x s, (x, s) ∈ reach h m j → (x, s) ∈ reach h m' j
  | 0, _, _, _, hx => hx
  | j + 1, hj, x, s, hx => by
    obtain ⟨r, q, h1, h2, h3⟩ := mem_reach.1 hx
    exact mem_reach.2 ⟨r, q, SameBut.reach b j (by omega) r q h1, h2, by rw [b.other j q x (by omega)]; exact h3⟩
theorem lo_goes {h : Head} {m : List (List UInt8)} {k : Nat} (hne : ∃ n, n ∈ goesAt h m k) : ∃ a b : Nat, a ∈ goesAt h m k ∧ b ∈ goesAt h m k ∧ loAt h m k = a ∧ hiAt h m k = b ∧ ∀ x, x ∈ goesAt h m k → a ≤ x ∧ x ≤ b := by
  obtain ⟨h1, h2⟩ := rg_goes h m k
  rcases h2 with ⟨_, _, h5⟩ | ⟨a, b, ha, hb, e1, e2⟩
  · obtain ⟨n, hn⟩ := hne
    exact (h5 n hn).elim
  · refine ⟨a, b, ha, hb, e1, e2, fun x hx => ?_⟩
    have := h1 x hx
    omega
end Go.Proofs.YtmdlmmfbcnkanaaR
namespace Go.Proofs.YtmdlmmfbcnkanaaR

theorem ct_good : ∀ (T : List (List UInt8)) (x : Ct), (∀ r, r ∈ T → isGood r = true) → (T.foldl ctStep x).ng = x.ng + T.length ∧ (T.foldl ctStep x).nb = x.nb
  | [], x, _ => ⟨rfl, rfl⟩
  | r :: T, x, h => by
    have hs : (ctStep x r).ng = x.ng + 1 ∧ (ctStep x r).nb = x.nb := by
      unfold ctStep
      rw [if_pos (h r List.mem_cons_self)]
      split <;> exact ⟨rfl, rfl⟩
    have := ct_good T (ctStep x r) (fun y hy => h y (List.mem_cons_of_mem _ hy))
    simp only [List.foldl_cons, List.length_cons]
    omega
theorem pieces_all {T : List (List UInt8)} (h : ∀ l, l ∈ T → (10 : UInt8) ∉ l) : pieces [] (linesL T) = T := by
  have := pieces_lines T [] h
  simpa [pieces] using this
theorem count_torn {s : Ser} (n : SerN s) {T : List (List UInt8)} (t : TornF s T) : (countR (linesL T)).2 = 0 ∧ (countR (linesL T)).1.ng = T.length ∧ (countR (linesL T)).1.nb = 0 := by
  have hl := t.len
  have hb := t.bytes
  have hok := fun r hr => file_ok n (t.sub r hr)
  unfold countR
  rw [if_neg (by omega), pieces_all (fun r hr => (hok r hr).2)]
  have := ct_good T ⟨0, 0, 0, []⟩ (fun r hr => (hok r hr).1)
  refine ⟨rfl, ?_, this.2⟩
  have h1 := this.1
  show (T.foldl ctStep ⟨0, 0, 0, []⟩).ng = _
  simpa using h1
theorem ok_file {s : Ser} (n : SerN s) {r : List UInt8} (hr : r ∈ fileL s) : okRec s r = true := by
  unfold okRec
  rcases mem_recsTo.1 hr with rfl | ⟨i, h3, rfl⟩ | ⟨i, h3, _, rfl⟩
  · rw [(hdR_ok n).2.1]
    rfl
  · obtain ⟨_, h1, h2, _⟩ := recR_ok n h3
    rw [h1, h2, (n.rd i h3).2]
    simp
  · obtain ⟨_, h1, h2, _⟩ := recP_ok n (div_le40 n h3)
    rw [h1, h2]
    have := (n.sm (i / s.width.toNat)).2
    simp [this]
theorem fits_torn {s : Ser} (hf : faultS s = 0) {T : List (List UInt8)} (t : TornF s T) : fitsC (linesL T) s = true := by
  have n := serN hf
  obtain ⟨m, _, _, hm, _, hr⟩ := read_torn n t.sub t.hd (by have := t.bytes; have := t.len; omega)
  have hw := n.wd
  have hst := n.st
  unfold fitsC
  rw [hr]
  simp only
  rw [Bool.and_eq_true, Bool.and_eq_true]
  refine ⟨by simpa using hf, ?_, List.all_eq_true.2 (fun r h => ok_file n (hm.sub r h))⟩
  unfold headEqB hdH
  simp
  omega
theorem range_torn {s : Ser} (n : SerN s) {m : List (List UInt8)} (h : RdM s m) {k : Nat} (hk : k < s.rd.length) : 0 ≤ loAt (hdH s) m k ∧ loAt (hdH s) m k ≤ s.rd[k] ∧ s.rd[k] ≤ hiAt (hdH s) m k ∧ hiAt (hdH s) m k ≤ 99 := by
  obtain ⟨a, b, ha, hb, e1, e2, hall⟩ := lo_goes ⟨_, goes_ser n h hk⟩
  have h1 := hall _ (goes_ser n h hk)
  have h2 := goes_le hb
  have h3 := (List.getElem?_eq_some_iff.1 (n.rd k hk).2).2
  rw [e1, e2, h3]
  omega
end Go.Proofs.YtmdlmmfbcnkanaaR
namespace Go.Proofs.YtmdlmmfbcnkanaaR
open Go.RowKit Go.Shelf
noncomputable def opsRy0 : Array Oper := (Try.f23.body.bind (regionOf 0)).getD #[]
noncomputable def opsRy1 : Array Oper := (Try.f23.body.bind (regionOf 1)).getD #[]
noncomputable def code23 : Code := (.seq (.region 0 opsRy0 false) (.seq (.region 1 opsRy1 false) .ret))
theorem body23 : Try.f23.body = some code23 := by kernel_rfl
/-- May a law play a series? -/
def readyB (s : Ser) : Bool := decide (s.rd.length ≤ 45) && decide (faultS s = 0)
theorem ready_any (s : Ser) (A : Option Addr) (c : Nat) (W : World) (hs : IntsAt W W.heap.size A s.rd) : Calls Try.prog 23 #[serV s A c] W (EvP W (.bool (readyB s))) := by
  refine (callsIn_wide (n := 5)).1 (callsIn_of_wp Try.func23 body23 trivial ?_ rfl)
  obtain ⟨a, ha⟩ : ∃ a : Act, a = { tmps := #[serV s A c] ++ Array.replicate (Try.f23.ntmps - (#[serV s A c] : Array Value).size) undef, defers := [] } := ⟨_, rfl⟩
  have hsz : a.tmps.size = 10 := by rw [ha]; simp [Try.ntmps23]
  have t0 : a.eval (.tmp 0) = serV s A c := by rw [ha]; simp [Act.eval]
  have hd_a : a.defers = [] := by rw [ha]
  rw [← ha]
  clear ha
  unfold code23
  refine wpIn_seq (region_p 2 ?_)
  intro K hK
  refine ListK.box (i := 0) (u := serV s A c) rfl (by simp [t0]) (bx24 W _ _ _ _ _) ?_
  refine ListK.assign (i := 1) (v := .bool false) rfl (by simp) ?_
  refine ListK.done (hK _ _ ?_)
  clear hK K
  replace hs : IntsAt (W.alloc (.cells #[.int .i64 s.width, .int .i64 s.step, .slice A s.rd.length c] 24)) W.heap.size A s.rd := hs.below ((Below.refl W.heap.size W).alloc (Nat.le_refl _) _) (Nat.le_refl _)
  have w1 := Whole.new W 24 #[.int .i64 s.width, .int .i64 s.step, .slice A s.rd.length c]
  have hb_b1 : Below W.heap.size W (W.alloc (.cells #[.int .i64 s.width, .int .i64 s.step, .slice A s.rd.length c] 24)) := (Below.refl _ W).alloc (Nat.le_refl _) _
  have hB := hb_b1
  generalize hq_b1 : W.heap.size = b1 at *
  generalize W.alloc (.cells #[.int .i64 s.width, .int .i64 s.step, .slice A s.rd.length c] 24) = W1 at *
  have hsz1 := hB.size
  replace hs := hs.more (show b1 ≤ W1.heap.size by omega)
  generalize hA : Act.put _ _ _ = a1
  have hz_a1 : a1.tmps.size = 10 := by rw [← hA]; simp only [size_put, hsz]
  have u1 : a1.eval (.tmp 1) = .pointer (some ⟨b1, 0, none⟩) := by rw [← hA]; exact (by simp [hsz])
  have hd_a1 : a1.defers = [] := by rw [← hA]; simp only [defers_put, hd_a]
  clear hA
  have hsh := short_any s A c W1
  by_cases h45 : s.rd.length ≤ 45
  · have hd : decide ((s.rd.length : Int) ≤ 45) = true := by simp; omega
    rw [hd] at hsh
    have hfa := fun (W2 : World) (hb : Below W1.heap.size W1 W2) => fault_any s A c W2 (by omega) ((hs.below hb (Nat.le_refl _)).more hb.size)
    have hwb := fun (W2 : World) (hb : Below W1.heap.size W1 W2) => w1.below hb w1.lt
    by_cases hf : faultS s = 0
    · skip
      refine wpIn_seq (region_p 8 ?_)
      intro K hK
      refine ListK.load (i := 0) (p := ⟨b1, 0, none⟩) (v := serV s A c) rfl (by simp [u1]) (ld24 ⟨w1.cell 0, w1.cell 1, w1.cell 2⟩) ?_
      refine ListK.call (i := 1) (vs := #[serV s A c]) rfl (enters_of Try.func15 (by kernel_rfl) rfl) (by simp [hz_a1]) ((hsh).mono ?_)
      rintro _ W2 ⟨rfl, hb2⟩
      replace w1 := hwb W2 hb2
      refine ⟨_, rfl, ?_⟩
      refine ListK.move (i := 2) (v := .bool true) rfl (by simp [hz_a1]) ?_
      refine ListK.load (i := 3) (p := ⟨b1, 0, none⟩) (v := serV s A c) rfl (by simp [u1]) (ld24 ⟨w1.cell 0, w1.cell 1, w1.cell 2⟩) ?_ (hw := wanted_g (e := 5) (b' := true) rfl (by simp [hz_a1]) rfl)
      refine ListK.call (i := 4) (vs := #[serV s A c]) rfl (enters_of Try.func20 (by kernel_rfl) rfl) (by simp [hz_a1]) ((hfa W2 hb2).mono ?_) (hw := wanted_g (e := 5) (b' := true) rfl (by simp [hz_a1]) rfl)
      rintro _ W3 ⟨rfl, hb3⟩
      refine ⟨_, rfl, ?_⟩
      refine ListK.bin (i := 5) (u := .int .i64 (faultS s)) (u' := .int .i64 0) (v := .bool true) rfl (by simp [hz_a1]) (by simp) (eql27T hf _) ?_ (hw := wanted_g (e := 5) (b' := true) rfl (by simp [hz_a1]) rfl)
      refine ListK.pick (i := 6) (b := true) (v := .bool true) rfl (by simp [hz_a1]) (by simp [hz_a1]) ?_
      refine ListK.assign (i := 7) (v := .bool true) rfl (by simp [hz_a1]) ?_
      refine ListK.done (hK _ _ (wpIn_ret ?_))
      refine bodyPost_ret (v := .bool true) (res1 Try.results23 (by simp [hz_a1])) (by simp only [defers_put, hd_a1]) ⟨by simp [readyB, h45, hf], ?_⟩
      rw [hq_b1]
      exact hB.trans ((hb2.trans (hb3.mono hb2.size)).mono (by omega))
    · skip
      refine wpIn_seq (region_p 8 ?_)
      intro K hK
      refine ListK.load (i := 0) (p := ⟨b1, 0, none⟩) (v := serV s A c) rfl (by simp [u1]) (ld24 ⟨w1.cell 0, w1.cell 1, w1.cell 2⟩) ?_
      refine ListK.call (i := 1) (vs := #[serV s A c]) rfl (enters_of Try.func15 (by kernel_rfl) rfl) (by simp [hz_a1]) ((hsh).mono ?_)
      rintro _ W2 ⟨rfl, hb2⟩
      replace w1 := hwb W2 hb2
      refine ⟨_, rfl, ?_⟩
      refine ListK.move (i := 2) (v := .bool true) rfl (by simp [hz_a1]) ?_
      refine ListK.load (i := 3) (p := ⟨b1, 0, none⟩) (v := serV s A c) rfl (by simp [u1]) (ld24 ⟨w1.cell 0, w1.cell 1, w1.cell 2⟩) ?_ (hw := wanted_g (e := 5) (b' := true) rfl (by simp [hz_a1]) rfl)
      refine ListK.call (i := 4) (vs := #[serV s A c]) rfl (enters_of Try.func20 (by kernel_rfl) rfl) (by simp [hz_a1]) ((hfa W2 hb2).mono ?_) (hw := wanted_g (e := 5) (b' := true) rfl (by simp [hz_a1]) rfl)
      rintro _ W3 ⟨rfl, hb3⟩
      refine ⟨_, rfl, ?_⟩
      refine ListK.bin (i := 5) (u := .int .i64 (faultS s)) (u' := .int .i64 0) (v := .bool false) rfl (by simp [hz_a1]) (by simp) (eql27F hf _) ?_ (hw := wanted_g (e := 5) (b' := true) rfl (by simp [hz_a1]) rfl)
      refine ListK.pick (i := 6) (b := true) (v := .bool false) rfl (by simp [hz_a1]) (by simp [hz_a1]) ?_
      refine ListK.assign (i := 7) (v := .bool false) rfl (by simp [hz_a1]) ?_
      refine ListK.done (hK _ _ (wpIn_ret ?_))
      refine bodyPost_ret (v := .bool false) (res1 Try.results23 (by simp [hz_a1])) (by simp only [defers_put, hd_a1]) ⟨by simp [readyB, hf], ?_⟩
      rw [hq_b1]
      exact hB.trans ((hb2.trans (hb3.mono hb2.size)).mono (by omega))
  · have hd : decide ((s.rd.length : Int) ≤ 45) = false := by simp; omega
    rw [hd] at hsh
    refine wpIn_seq (region_p 8 ?_)
    intro K hK
    refine ListK.load (i := 0) (p := ⟨b1, 0, none⟩) (v := serV s A c) rfl (by simp [u1]) (ld24 ⟨w1.cell 0, w1.cell 1, w1.cell 2⟩) ?_
    refine ListK.call (i := 1) (vs := #[serV s A c]) rfl (enters_of Try.func15 (by kernel_rfl) rfl) (by simp [hz_a1]) ((hsh).mono ?_)
    rintro _ W2 ⟨rfl, hb2⟩
    refine ⟨_, rfl, ?_⟩
    refine ListK.move (i := 2) (v := .bool false) rfl (by simp [hz_a1]) ?_
    refine ListK.passG (i := 3) (e := 5) (b' := false) rfl rfl (by simp [hz_a1]) rfl ?_
    refine ListK.passG (i := 4) (e := 5) (b' := false) rfl rfl (by simp [hz_a1]) rfl ?_
    refine ListK.passG (i := 5) (e := 5) (b' := false) rfl rfl (by simp [hz_a1]) rfl ?_
    refine ListK.pick (i := 6) (b := false) (v := .bool false) rfl (by simp [hz_a1]) (by simp) ?_
    refine ListK.assign (i := 7) (v := .bool false) rfl (by simp [hz_a1]) ?_
    refine ListK.done (hK _ _ (wpIn_ret ?_))
    refine bodyPost_ret (v := .bool false) (res1 Try.results23 (by simp [hz_a1])) (by simp only [defers_put, hd_a1]) ⟨by simp [readyB, h45], ?_⟩
    rw [hq_b1]
    exact hB.trans (hb2.mono (by omega))
section
attribute [local irreducible] AnyK StepK
variable {s : Ser} {T : List (List UInt8)} {r : List UInt8} {W : World}
end
end Go.Proofs.YtmdlmmfbcnkanaaR
namespace Go.Proofs.YtmdlmmfbcnkanaaR
open Go.RowKit Go.Shelf
section
attribute [local irreducible] AnyK StepK
variable {s : Ser} {T : List (List UInt8)} {W : World}
end
end Go.Proofs.YtmdlmmfbcnkanaaR
namespace Go.Proofs.YtmdlmmfbcnkanaaR
open Go.RowKit Go.Shelf
section
attribute [local irreducible] AnyK StepK
variable {s : Ser} {T : List (List UInt8)} {W : World}
end
end Go.Proofs.YtmdlmmfbcnkanaaR
namespace Go.Proofs.YtmdlmmfbcnkanaaR
open Go.RowKit Go.Shelf
noncomputable def opsTt0 : Array Oper := (Try.f10.body.bind (regionOf 0)).getD #[]
noncomputable def opsTt1 : Array Oper := (Try.f10.body.bind (regionOf 1)).getD #[]
noncomputable def opsTt2 : Array Oper := (Try.f10.body.bind (regionOf 2)).getD #[]
noncomputable def opsTt3 : Array Oper := (Try.f10.body.bind (regionOf 3)).getD #[]
noncomputable def opsTt4 : Array Oper := (Try.f10.body.bind (regionOf 4)).getD #[]
noncomputable def opsTt5 : Array Oper := (Try.f10.body.bind (regionOf 5)).getD #[]
noncomputable def opsTt6 : Array Oper := (Try.f10.body.bind (regionOf 6)).getD #[]
noncomputable def opsTt7 : Array Oper := (Try.f10.body.bind (regionOf 7)).getD #[]
noncomputable def opsTt8 : Array Oper := (Try.f10.body.bind (regionOf 8)).getD #[]
noncomputable def opsTt9 : Array Oper := (Try.f10.body.bind (regionOf 9)).getD #[]
noncomputable def opsTt10 : Array Oper := (Try.f10.body.bind (regionOf 10)).getD #[]
noncomputable def opsTt11 : Array Oper := (Try.f10.body.bind (regionOf 11)).getD #[]
noncomputable def opsTt12 : Array Oper := (Try.f10.body.bind (regionOf 12)).getD #[]
noncomputable def opsTt13 : Array Oper := (Try.f10.body.bind (regionOf 13)).getD #[]
noncomputable def tt_l : Code := (.seq (.seq (.region 9 opsTt9 false) (.cond (.tmp 73) .skip (.exit 0))) (.seq (.block 1 (.seq (.region 11 opsTt11 true) (.cond (.tmp 115) (.seq (.region 12 opsTt12 false) .ret) .skip))) (.region 10 opsTt10 false)))
noncomputable def tt_e : Code := (.seq (.region 13 opsTt13 false) .ret)
noncomputable def tt_c : Code := (.seq (.seq (.region 8 opsTt8 false) (.block 0 (.loop tt_l))) tt_e)
noncomputable def tt_b : Code := (.seq (.seq (.region 6 opsTt6 true) (.cond (.tmp 69) (.seq (.region 7 opsTt7 false) .ret) .skip)) tt_c)
noncomputable def code10 : Code := (.seq (.region 0 opsTt0 false) (.seq (.seq (.region 1 opsTt1 false) (.cond (.tmp 15) (.seq (.region 2 opsTt2 false) .ret) .skip)) (.seq (.region 3 opsTt3 false) (.seq (.region 4 opsTt4 false) (.seq (.region 5 opsTt5 false) tt_b)))))
theorem body10 : Try.f10.body = some code10 := by kernel_rfl
theorem ln9b (l : List UInt8) (t : TypeId) (w : World) : (builtin .len #[9] t #[false] #[strV l]).run Try.prog w = .ok (.value (.int .i64 (l.length : Int))) w := by go_simp
theorem mul8 {x y : Operand} {n : Nat} (h : n ≤ 100000) (w : World) : (do eqGuard .mul 3 x y (.int .i64 8) (.int .i64 (n : Int)); binOp .mul 3 (.int .i64 8) (.int .i64 (n : Int)) : Sem Value).run Try.prog w = .ok (.int .i64 ((8 * n : Nat) : Int)) w := by
  have h2 := IntWalk.i64_in (8 * (n : Int)) (by omega)
  go_simp
section
attribute [local irreducible] AnyK StepK
variable {s : Ser} {T : List (List UInt8)} {W : World}
set_option maxHeartbeats 400000 in
theorem tt_c_any {b1 c : Nat} {A : Option Addr} {g1 : Nat} {f1 : Nat → Int} {m : List (List UInt8)} {a : Act} {W6 : World} (n : SerN s) (hmR : RdM s m)
    (row1 : Row W6 g1 ((hdH s).many * 2) f1) (hf1 : ∀ i, i < (hdH s).many → f1 (i * 2) = loAt (hdH s) m i ∧ f1 (i * 2 + 1) = hiAt (hdH s) m i) (w6 : Whole W6 b1 24 #[.int .i64 s.width, .int .i64 s.step, .slice A s.rd.length c]) (hs : IntsAt W6 W6.heap.size A s.rd)
    (hz : a.tmps.size = 117) (hd_a : a.defers = []) (t3 : a.eval (.tmp 3) = ptr b1) (t8 : a.eval (.tmp 8) = .slice (some ⟨g1, 0, none⟩) (hdH s).many (hdH s).many) (hB : Below W.heap.size W W6) :
    tt_c.wpIn Fence.wide 5 Try.prog (bodyPost Try.prog Try.f10 (TP W true)) a W6 := by
  have hlen := n.len
  have hM : (hdH s).many = s.rd.length := rfl
  unfold tt_c
  refine wpIn_seq (wpIn_seq (region_p 1 ?_))
  intro K hK
  refine ListK.assign (i := 0) (v := .int .i64 0) rfl (by simp) ?_
  refine ListK.done (hK _ _ ?_)
  clear hK K
  generalize hA : Act.put _ _ _ = a3
  have hz_a3 : a3.tmps.size = 117 := by rw [← hA]; simp only [size_put, hz]
  have q3 : a3.eval (.tmp 3) = .pointer (some ⟨b1, 0, none⟩) := by rw [← hA]; exact (by simp [t3])
  have q8 : a3.eval (.tmp 8) = .slice (some ⟨g1, 0, none⟩) (hdH s).many (hdH s).many := by rw [← hA]; exact (by simp [t8])
  have q12 : a3.eval (.tmp 12) = .int .i64 0 := by rw [← hA]; exact (by simp [hz])
  have hd_a3 : a3.defers = [] := by rw [← hA]; simp only [defers_put, hd_a]
  clear hA
  refine wpIn_block (wpIn_loop (fun a W' => ∃ k : Nat, Below W6.heap.size W6 W' ∧ k ≤ (hdH s).many ∧ a.tmps.size = 117 ∧ a.defers = [] ∧ a.eval (.tmp 3) = ptr b1 ∧ a.eval (.tmp 8) = .slice (some ⟨g1, 0, none⟩) (hdH s).many (hdH s).many ∧ a.eval (.tmp 12) = .int .i64 (k : Int)) (fun a _ => (hdH s).many - (intOf (a.eval (.tmp 12))).toNat)
    ⟨0, Below.refl _ _, by omega, hz_a3, hd_a3, q3, q8, q12⟩ ?_)
  rintro b2 W9 ⟨k, hb9, hkm, hz_b1, hd_b2, s3, s8, s12⟩
  unfold tt_l
  by_cases hlt : k < (hdH s).many
  · skip
    refine wpIn_seq (wpIn_seq (region_p 4 ?_))
    intro K hK
    refine ListK.move (i := 0) (v := .int .i64 (k : Int)) rfl (by simp [s12]) ?_
    refine ListK.move (i := 1) (v := .slice (some ⟨g1, 0, none⟩) (hdH s).many (hdH s).many) rfl (by simp [s8]) ?_
    refine ListK.len (i := 2) (u := .slice (some ⟨g1, 0, none⟩) (hdH s).many (hdH s).many) (v := .int .i64 (hdH s).many) rfl (by simp [hz_b1]) (ln40 _ _ _ _ _) rfl ?_
    refine ListK.bin (i := 3) (u := .int .i64 (k : Int)) (u' := .int .i64 (hdH s).many) (v := .bool true) rfl (by simp [hz_b1]) (by simp [hz_b1]) (lssT3 (by omega) _) ?_
    refine ListK.done (hK _ _ ?_)
    clear hK K
    refine wpIn_cond (t := true) (by simp [hz_b1]) (wpIn_skip ?_)
    generalize hA : Act.put _ _ _ = b3
    have hz_b3 : b3.tmps.size = 117 := by rw [← hA]; simp only [size_put, hz_b1]
    have o3 : b3.eval (.tmp 3) = .pointer (some ⟨b1, 0, none⟩) := by rw [← hA]; exact (by simp [s3])
    have o8 : b3.eval (.tmp 8) = .slice (some ⟨g1, 0, none⟩) (hdH s).many (hdH s).many := by rw [← hA]; exact (by simp [s8])
    have o12 : b3.eval (.tmp 12) = .int .i64 (k : Int) := by rw [← hA]; exact (by simp [s12])
    have hd_b3 : b3.defers = [] := by rw [← hA]; simp only [defers_put, hd_b2]
    clear hA
    refine wpIn_seq (wpIn_block ?_)
    have w9 := w6.below hb9 w6.lt
    have r9 := row1.below hb9
    have hs9 := hs.below hb9 (Nat.le_refl _)
    have hks : k < s.rd.length := hlt
    have hx := List.getElem?_eq_getElem hks
    obtain ⟨v1, v2, v3, v4⟩ := range_torn n hmR hks
    have c1 := (r9 (k * 2) (by omega)).1
    have c2 := (r9 (k * 2 + 1) (by omega)).1
    rw [(hf1 k hlt).1] at c1
    rw [(hf1 k hlt).2] at c2
    obtain ⟨gb, off, hA, hgb, c3⟩ := hs9 k _ hx
    have hbd := (Below.refl W9.heap.size W9).drew
    refine wpIn_seq (region_K (KpR (fun w : World => (Whole w b1 24 #[.int .i64 s.width, .int .i64 s.step, .slice A s.rd.length c] ∧ w.cell? ⟨gb, off + k, none⟩ = some (.int .i64 s.rd[k])) ∧ (w.cell? ⟨g1, k * 2, none⟩ = some (.int .i64 (loAt (hdH s) m k)) ∧ w.cell? ⟨g1, k * 2 + 1, none⟩ = some (.int .i64 (hiAt (hdH s) m k)))) (fun _ => false)) (wideF_plain _) (by kernel_rfl) Try.mixed ?_)
    change AnyK _ _ _ _ 40 (Array.replicate 40 false) _ _
    have hR : (fun w : World => (Whole w b1 24 #[.int .i64 s.width, .int .i64 s.step, .slice A s.rd.length c] ∧ w.cell? ⟨gb, off + k, none⟩ = some (.int .i64 s.rd[k])) ∧ (w.cell? ⟨g1, k * 2, none⟩ = some (.int .i64 (loAt (hdH s) m k)) ∧ w.cell? ⟨g1, k * 2 + 1, none⟩ = some (.int .i64 (hiAt (hdH s) m k)))) W9.drew := ⟨⟨w9.below hbd w9.lt, c3⟩, ⟨c1, c2⟩⟩
    refine AnyK.field (i := 0) may_o (u := .pointer (some ⟨b1, 0, none⟩)) (v := .pointer (some ⟨b1, 2, none⟩)) (by simp [o3]) (fun w => fa24_2 w) hR ?_
    refine AnyK.load (i := 1) may_o (p := ⟨b1, 2, none⟩) (v := .slice (some ⟨gb, off, none⟩) s.rd.length c) (by simp [hz_b3]) (fun w hw => ld22 ((hw.1.1.cell 2).trans (by rw [hA]; rfl))) hR ?_
    refine AnyK.move (i := 2) may_o (v := .int .i64 (k : Int)) (by simp [o12]) hR ?_
    refine AnyK.index (i := 3) may_o (u := .slice (some ⟨gb, off, none⟩) s.rd.length c) (u' := .int .i64 (k : Int)) (v := .pointer (some ⟨gb, off + k, none⟩)) (by simp [hz_b3]) (by simp [hz_b3]) (fun w => ix22 hks w) hR ?_
    refine AnyK.load (i := 4) may_o (p := ⟨gb, off + k, none⟩) (v := .int .i64 (s.rd[k])) (by simp [hz_b3]) (fun w hw => ld3 hw.1.2) hR ?_
    refine AnyK.move (i := 5) may_o (v := .slice (some ⟨g1, 0, none⟩) (hdH s).many (hdH s).many) (by simp [o8]) hR ?_
    refine AnyK.move (i := 6) may_o (v := .int .i64 (k : Int)) (by simp [o12]) hR ?_
    refine AnyK.index (i := 7) may_o (u := .slice (some ⟨g1, 0, none⟩) (hdH s).many (hdH s).many) (u' := .int .i64 (k : Int)) (v := .pointer (some ⟨g1, k * 2, none⟩)) (by simp [hz_b3]) (by simp [hz_b3]) (fun w => by have := ix40 (b := g1) (o := 0) (c := (hdH s).many) hlt w; rwa [Nat.zero_add] at this) hR ?_
    refine AnyK.field (i := 8) may_o (u := .pointer (some ⟨g1, k * 2, none⟩)) (v := .pointer (some ⟨g1, k * 2, none⟩)) (by simp [hz_b3]) (fun w => fa45_0 w) hR ?_
    refine AnyK.load (i := 9) may_o (p := ⟨g1, k * 2, none⟩) (v := .int .i64 (loAt (hdH s) m k)) (by simp [hz_b3]) (fun w hw => ld3 hw.2.1) hR ?_
    refine AnyK.bin (i := 10) may_o (u := .int .i64 (s.rd[k])) (u' := .int .i64 (loAt (hdH s) m k)) (v := .bool false) (by simp [hz_b3]) (by simp [hz_b3]) (fun w => lssF3 (by omega) w) hR ?_
    refine AnyK.move (i := 11) may_o (v := .bool false) (by simp [hz_b3]) hR ?_
    refine AnyK.field (i := 12) may_o (u := .pointer (some ⟨b1, 0, none⟩)) (v := .pointer (some ⟨b1, 2, none⟩)) (by simp [o3]) (fun w => fa24_2 w) hR (hw := (by exact wanted_g (e := 87) (b' := false) rfl (by simp [hz_b3]) rfl)) ?_
    refine AnyK.load (i := 13) may_o (p := ⟨b1, 2, none⟩) (v := .slice (some ⟨gb, off, none⟩) s.rd.length c) (by simp [hz_b3]) (fun w hw => ld22 ((hw.1.1.cell 2).trans (by rw [hA]; rfl))) hR (hw := (by exact wanted_g (e := 87) (b' := false) rfl (by simp [hz_b3]) rfl)) ?_
    refine AnyK.move (i := 14) may_o (v := .int .i64 (k : Int)) (by simp [o12]) hR (hw := (by exact wanted_g (e := 87) (b' := false) rfl (by simp [hz_b3]) rfl)) ?_
    refine AnyK.index (i := 15) may_o (u := .slice (some ⟨gb, off, none⟩) s.rd.length c) (u' := .int .i64 (k : Int)) (v := .pointer (some ⟨gb, off + k, none⟩)) (by simp [hz_b3]) (by simp [hz_b3]) (fun w => ix22 hks w) hR (hw := (by exact wanted_g (e := 87) (b' := false) rfl (by simp [hz_b3]) rfl)) ?_
    refine AnyK.load (i := 16) may_o (p := ⟨gb, off + k, none⟩) (v := .int .i64 (s.rd[k])) (by simp [hz_b3]) (fun w hw => ld3 hw.1.2) hR (hw := (by exact wanted_g (e := 87) (b' := false) rfl (by simp [hz_b3]) rfl)) ?_
    refine AnyK.move (i := 17) may_o (v := .slice (some ⟨g1, 0, none⟩) (hdH s).many (hdH s).many) (by simp [o8]) hR (hw := (by exact wanted_g (e := 87) (b' := false) rfl (by simp [hz_b3]) rfl)) ?_
    refine AnyK.move (i := 18) may_o (v := .int .i64 (k : Int)) (by simp [o12]) hR (hw := (by exact wanted_g (e := 87) (b' := false) rfl (by simp [hz_b3]) rfl)) ?_
    refine AnyK.index (i := 19) may_o (u := .slice (some ⟨g1, 0, none⟩) (hdH s).many (hdH s).many) (u' := .int .i64 (k : Int)) (v := .pointer (some ⟨g1, k * 2, none⟩)) (by simp [hz_b3]) (by simp [hz_b3]) (fun w => by have := ix40 (b := g1) (o := 0) (c := (hdH s).many) hlt w; rwa [Nat.zero_add] at this) hR (hw := (by exact wanted_g (e := 87) (b' := false) rfl (by simp [hz_b3]) rfl)) ?_
    refine AnyK.field (i := 20) may_o (u := .pointer (some ⟨g1, k * 2, none⟩)) (v := .pointer (some ⟨g1, k * 2 + 1, none⟩)) (by simp [hz_b3]) (fun w => fa45_1 w) hR (hw := (by exact wanted_g (e := 87) (b' := false) rfl (by simp [hz_b3]) rfl)) ?_
    refine AnyK.load (i := 21) may_o (p := ⟨g1, k * 2 + 1, none⟩) (v := .int .i64 (hiAt (hdH s) m k)) (by simp [hz_b3]) (fun w hw => ld3 hw.2.2) hR (hw := (by exact wanted_g (e := 87) (b' := false) rfl (by simp [hz_b3]) rfl)) ?_
    refine AnyK.bin (i := 22) may_o (u := .int .i64 (s.rd[k])) (u' := .int .i64 (hiAt (hdH s) m k)) (v := .bool false) (by simp [hz_b3]) (by simp [hz_b3]) (fun w => gtrF3 (by omega) w) hR (hw := (by exact wanted_g (e := 87) (b' := false) rfl (by simp [hz_b3]) rfl)) ?_
    refine AnyK.pick (i := 23) may_o (b := false) (v := .bool false) (by simp [hz_b3]) (by simp [hz_b3]) hR ?_
    refine AnyK.move (i := 24) may_o (v := .bool false) (by simp [hz_b3]) hR ?_
    refine AnyK.move (i := 25) may_o (v := .slice (some ⟨g1, 0, none⟩) (hdH s).many (hdH s).many) (by simp [o8]) hR (hw := (by exact wanted_g (e := 100) (b' := false) rfl (by simp [hz_b3]) rfl)) ?_
    refine AnyK.move (i := 26) may_o (v := .int .i64 (k : Int)) (by simp [o12]) hR (hw := (by exact wanted_g (e := 100) (b' := false) rfl (by simp [hz_b3]) rfl)) ?_
    refine AnyK.index (i := 27) may_o (u := .slice (some ⟨g1, 0, none⟩) (hdH s).many (hdH s).many) (u' := .int .i64 (k : Int)) (v := .pointer (some ⟨g1, k * 2, none⟩)) (by simp [hz_b3]) (by simp [hz_b3]) (fun w => by have := ix40 (b := g1) (o := 0) (c := (hdH s).many) hlt w; rwa [Nat.zero_add] at this) hR (hw := (by exact wanted_g (e := 100) (b' := false) rfl (by simp [hz_b3]) rfl)) ?_
    refine AnyK.field (i := 28) may_o (u := .pointer (some ⟨g1, k * 2, none⟩)) (v := .pointer (some ⟨g1, k * 2, none⟩)) (by simp [hz_b3]) (fun w => fa45_0 w) hR (hw := (by exact wanted_g (e := 100) (b' := false) rfl (by simp [hz_b3]) rfl)) ?_
    refine AnyK.load (i := 29) may_o (p := ⟨g1, k * 2, none⟩) (v := .int .i64 (loAt (hdH s) m k)) (by simp [hz_b3]) (fun w hw => ld3 hw.2.1) hR (hw := (by exact wanted_g (e := 100) (b' := false) rfl (by simp [hz_b3]) rfl)) ?_
    refine AnyK.bin (i := 30) may_o (u := .int .i64 (loAt (hdH s) m k)) (u' := .int .i64 (0)) (v := .bool false) (by simp [hz_b3]) (by simp) (fun w => lssF3 (by omega) w) hR (hw := (by exact wanted_g (e := 100) (b' := false) rfl (by simp [hz_b3]) rfl)) ?_
    refine AnyK.pick (i := 31) may_o (b := false) (v := .bool false) (by simp [hz_b3]) (by simp [hz_b3]) hR ?_
    refine AnyK.move (i := 32) may_o (v := .bool false) (by simp [hz_b3]) hR ?_
    refine AnyK.move (i := 33) may_o (v := .slice (some ⟨g1, 0, none⟩) (hdH s).many (hdH s).many) (by simp [o8]) hR (hw := (by exact wanted_g (e := 108) (b' := false) rfl (by simp [hz_b3]) rfl)) ?_
    refine AnyK.move (i := 34) may_o (v := .int .i64 (k : Int)) (by simp [o12]) hR (hw := (by exact wanted_g (e := 108) (b' := false) rfl (by simp [hz_b3]) rfl)) ?_
    refine AnyK.index (i := 35) may_o (u := .slice (some ⟨g1, 0, none⟩) (hdH s).many (hdH s).many) (u' := .int .i64 (k : Int)) (v := .pointer (some ⟨g1, k * 2, none⟩)) (by simp [hz_b3]) (by simp [hz_b3]) (fun w => by have := ix40 (b := g1) (o := 0) (c := (hdH s).many) hlt w; rwa [Nat.zero_add] at this) hR (hw := (by exact wanted_g (e := 108) (b' := false) rfl (by simp [hz_b3]) rfl)) ?_
    refine AnyK.field (i := 36) may_o (u := .pointer (some ⟨g1, k * 2, none⟩)) (v := .pointer (some ⟨g1, k * 2 + 1, none⟩)) (by simp [hz_b3]) (fun w => fa45_1 w) hR (hw := (by exact wanted_g (e := 108) (b' := false) rfl (by simp [hz_b3]) rfl)) ?_
    refine AnyK.load (i := 37) may_o (p := ⟨g1, k * 2 + 1, none⟩) (v := .int .i64 (hiAt (hdH s) m k)) (by simp [hz_b3]) (fun w hw => ld3 hw.2.2) hR (hw := (by exact wanted_g (e := 108) (b' := false) rfl (by simp [hz_b3]) rfl)) ?_
    refine AnyK.bin (i := 38) may_o (u := .int .i64 (hiAt (hdH s) m k)) (u' := .int .i64 (99)) (v := .bool false) (by simp [hz_b3]) (by simp) (fun w => gtrF3 (by omega) w) hR (hw := (by exact wanted_g (e := 108) (b' := false) rfl (by simp [hz_b3]) rfl)) ?_
    refine AnyK.pick (i := 39) may_o (b := false) (v := .bool false) (by simp [hz_b3]) (by simp [hz_b3]) hR ?_
    refine AnyK.done (by kernel_rfl) ?_
    refine wpIn_cond (t := false) (by simp [hz_b3]) (wpIn_skip ?_)
    generalize hA : Act.put _ _ _ = b4
    have hz_b4 : b4.tmps.size = 117 := by rw [← hA]; simp only [size_put, hz_b3]
    have x3 : b4.eval (.tmp 3) = .pointer (some ⟨b1, 0, none⟩) := by rw [← hA]; exact (by simp [o3])
    have x8 : b4.eval (.tmp 8) = .slice (some ⟨g1, 0, none⟩) (hdH s).many (hdH s).many := by rw [← hA]; exact (by simp [o8])
    have x12 : b4.eval (.tmp 12) = .int .i64 (k : Int) := by rw [← hA]; exact (by simp [o12])
    have hd_b4 : b4.defers = [] := by rw [← hA]; simp only [defers_put, hd_b3]
    clear hA
    refine region_p 3 ?_
    intro K hK
    refine ListK.move (i := 0) (v := .int .i64 (k : Int)) rfl (by simp [x12]) ?_
    refine ListK.bin (i := 1) (u := .int .i64 (k : Int)) (u' := .int .i64 1) (v := .int .i64 ((k + 1 : Nat) : Int)) rfl (by simp [hz_b4]) (by simp) (add3 (by omega) (by omega) _) ?_
    refine ListK.assign (i := 2) (v := .int .i64 ((k + 1 : Nat) : Int)) rfl (by simp [hz_b4]) ?_
    refine ListK.done (hK _ _ ?_)
    clear hK K
    refine ⟨⟨k + 1, hb9.trans (hbd.mono hb9.size), by omega, (by simp only [size_put, hz_b4]), (by simp only [defers_put, hd_b4]), (by simp [x3]), (by simp [x8]), (by simp [hz_b4])⟩, ?_⟩
    rw [s12, show (Act.put _ _ _).eval (.tmp 12) = .int .i64 ((k + 1 : Nat) : Int) from (by simp [hz_b4])]
    simp only [intOf]
    omega
  · skip
    refine wpIn_seq (wpIn_seq (region_p 4 ?_))
    intro K hK
    refine ListK.move (i := 0) (v := .int .i64 (k : Int)) rfl (by simp [s12]) ?_
    refine ListK.move (i := 1) (v := .slice (some ⟨g1, 0, none⟩) (hdH s).many (hdH s).many) rfl (by simp [s8]) ?_
    refine ListK.len (i := 2) (u := .slice (some ⟨g1, 0, none⟩) (hdH s).many (hdH s).many) (v := .int .i64 (hdH s).many) rfl (by simp [hz_b1]) (ln40 _ _ _ _ _) rfl ?_
    refine ListK.bin (i := 3) (u := .int .i64 (k : Int)) (u' := .int .i64 (hdH s).many) (v := .bool false) rfl (by simp [hz_b1]) (by simp [hz_b1]) (lssF3 (by omega) _) ?_
    refine ListK.done (hK _ _ ?_)
    clear hK K
    refine wpIn_cond (t := false) (by simp [hz_b1]) (wpIn_exit ?_)
    show tt_e.wpIn _ _ _ _ _ _
    unfold tt_e
    refine wpIn_seq (region_p 2 ?_)
    intro K hK
    refine ListK.call (i := 0) (vs := #[]) rfl (enters_of Try.func16 (by kernel_rfl) rfl) (by simp) ((awake_any W9).mono ?_)
    rintro _ W10 ⟨rfl, hb10⟩
    refine ⟨_, rfl, ?_⟩
    refine ListK.assign (i := 1) (v := .bool true) rfl (by simp [hz_b1]) ?_
    refine ListK.done (hK _ _ (wpIn_ret ?_))
    exact bodyPost_ret (v := .bool true) (res1 Try.results10 (by simp [hz_b1])) (by simp only [defers_put, hd_b2]) ⟨rfl, hB.trans ((hb9.trans (hb10.mono hb9.size)).mono hB.size)⟩
set_option maxHeartbeats 400000 in
theorem tt_b_any {b1 b10 c : Nat} {A : Option Addr} {g1 : Nat} {f1 : Nat → Int} {m : List (List UInt8)} {a : Act} {W6 : World} (hf : faultS s = 0) (t : TornF s T) (hmR : RdM s m)
    (row1 : Row W6 g1 ((hdH s).many * 2) f1) (hf1 : ∀ i, i < (hdH s).many → f1 (i * 2) = loAt (hdH s) m i ∧ f1 (i * 2 + 1) = hiAt (hdH s) m i) (w6 : Whole W6 b1 24 #[.int .i64 s.width, .int .i64 s.step, .slice A s.rd.length c]) (hs : IntsAt W6 W6.heap.size A s.rd) {nd : Nat} (w10 : Whole W6 b10 62 (c62 T.length 0 nd))
    (hz : a.tmps.size = 117) (hd_a : a.defers = []) (t3 : a.eval (.tmp 3) = ptr b1) (t7 : a.eval (.tmp 7) = strV (linesL T)) (t8 : a.eval (.tmp 8) = .slice (some ⟨g1, 0, none⟩) (hdH s).many (hdH s).many) (t9 : a.eval (.tmp 9) = .int .i64 0) (t10 : a.eval (.tmp 10) = ptr b10) (t11 : a.eval (.tmp 11) = .int .i64 0) (hB : Below W.heap.size W W6) :
    tt_b.wpIn Fence.wide 5 Try.prog (bodyPost Try.prog Try.f10 (TP W true)) a W6 := by
  have n := serN hf
  have hlen := n.len
  have hTl := t.len
  have hTb := t.bytes
  have hfit := fits_torn hf t
  unfold tt_b
  have hbd := (Below.refl W6.heap.size W6).drew
  have hgr : ∀ w w', (fun w : World => (Whole w b1 24 #[.int .i64 s.width, .int .i64 s.step, .slice A s.rd.length c] ∧ IntsAt w W6.heap.size A s.rd) ∧ Whole w b10 62 (c62 T.length 0 nd) ∧ Below W6.heap.size W6 w) w → Below w.heap.size w w' → (fun w : World => (Whole w b1 24 #[.int .i64 s.width, .int .i64 s.step, .slice A s.rd.length c] ∧ IntsAt w W6.heap.size A s.rd) ∧ Whole w b10 62 (c62 T.length 0 nd) ∧ Below W6.heap.size W6 w) w' := fun w w' h hb => ⟨⟨h.1.1.below hb h.1.1.lt, h.1.2.below (hb.mono h.2.2.size) (Nat.le_refl _)⟩, h.2.1.below hb h.2.1.lt, h.2.2.trans (hb.mono h.2.2.size)⟩
  have hR0 : (fun w : World => (Whole w b1 24 #[.int .i64 s.width, .int .i64 s.step, .slice A s.rd.length c] ∧ IntsAt w W6.heap.size A s.rd) ∧ Whole w b10 62 (c62 T.length 0 nd) ∧ Below W6.heap.size W6 w) W6.drew := hgr W6 _ ⟨⟨w6, hs⟩, w10, Below.refl _ _⟩ hbd
  refine wpIn_seq (wpIn_seq (region_K (KpR (fun w : World => (Whole w b1 24 #[.int .i64 s.width, .int .i64 s.step, .slice A s.rd.length c] ∧ IntsAt w W6.heap.size A s.rd) ∧ Whole w b10 62 (c62 T.length 0 nd) ∧ Below W6.heap.size W6 w) (fun _ => false)) (wideF_plain _) (by kernel_rfl) Try.mixed ?_))
  change AnyK _ _ _ _ 35 (Array.replicate 35 false) _ _
  have hR : (fun w : World => (Whole w b1 24 #[.int .i64 s.width, .int .i64 s.step, .slice A s.rd.length c] ∧ IntsAt w W6.heap.size A s.rd) ∧ Whole w b10 62 (c62 T.length 0 nd) ∧ Below W6.heap.size W6 w) W6.drew := hR0
  refine AnyK.move (i := 0) may_o (v := .int .i64 0) (by simp [t9]) hR ?_
  refine AnyK.bin (i := 1) may_o (u := .int .i64 0) (u' := .int .i64 (0)) (v := .bool false) (by simp [hz]) (by simp) (fun w => neq27F rfl w) hR ?_
  refine AnyK.move (i := 2) may_o (v := .bool false) (by simp [hz]) hR ?_
  refine AnyK.move (i := 3) may_o (v := .slice (some ⟨g1, 0, none⟩) (hdH s).many (hdH s).many) (by simp [t8]) hR (hw := (by exact wanted_g (e := 37) (b' := false) rfl (by simp [hz]) rfl)) ?_
  refine AnyK.len (i := 4) may_o (u := .slice (some ⟨g1, 0, none⟩) (hdH s).many (hdH s).many) (v := .int .i64 (hdH s).many) (by simp [hz]) (fun w => ln40 _ _ _ _ w) rfl hR (hw := (by exact wanted_g (e := 37) (b' := false) rfl (by simp [hz]) rfl)) ?_
  refine AnyK.field (i := 5) may_o (u := .pointer (some ⟨b1, 0, none⟩)) (v := .pointer (some ⟨b1, 2, none⟩)) (by simp [t3]) (fun w => fa24_2 w) hR (hw := (by exact wanted_g (e := 37) (b' := false) rfl (by simp [hz]) rfl)) ?_
  refine AnyK.load (i := 6) may_o (p := ⟨b1, 2, none⟩) (v := .slice A s.rd.length c) (by simp [hz]) (fun w hw => ld22 (hw.1.1.cell 2)) hR (hw := (by exact wanted_g (e := 37) (b' := false) rfl (by simp [hz]) rfl)) ?_
  refine AnyK.len (i := 7) may_o (u := .slice A s.rd.length c) (v := .int .i64 s.rd.length) (by simp [hz]) (fun w => ln22 _ _ _ _ w) rfl hR (hw := (by exact wanted_g (e := 37) (b' := false) rfl (by simp [hz]) rfl)) ?_
  refine AnyK.bin (i := 8) may_o (u := .int .i64 (hdH s).many) (u' := .int .i64 s.rd.length) (v := .bool false) (by simp [hz]) (by simp [hz]) (fun w => neqF rfl w) hR (hw := (by exact wanted_g (e := 37) (b' := false) rfl (by simp [hz]) rfl)) ?_
  refine AnyK.pick (i := 9) may_o (b := false) (v := .bool false) (by simp [hz]) (by simp [hz]) hR ?_
  refine AnyK.move (i := 10) may_o (v := .bool false) (by simp [hz]) hR ?_
  refine AnyK.move (i := 11) may_o (v := .int .i64 0) (by simp [t11]) hR (hw := (by exact wanted_g (e := 45) (b' := false) rfl (by simp [hz]) rfl)) ?_
  refine AnyK.bin (i := 12) may_o (u := .int .i64 0) (u' := .int .i64 (0)) (v := .bool false) (by simp [hz]) (by simp) (fun w => neq27F rfl w) hR (hw := (by exact wanted_g (e := 45) (b' := false) rfl (by simp [hz]) rfl)) ?_
  refine AnyK.pick (i := 13) may_o (b := false) (v := .bool false) (by simp [hz]) (by simp [hz]) hR ?_
  refine AnyK.move (i := 14) may_o (v := .bool false) (by simp [hz]) hR ?_
  refine AnyK.field (i := 15) may_o (u := .pointer (some ⟨b10, 0, none⟩)) (v := .pointer (some ⟨b10, 1, none⟩)) (by simp [t10]) (fun w => fa62_1 w) hR (hw := (by exact wanted_g (e := 49) (b' := false) rfl (by simp [hz]) rfl)) ?_
  refine AnyK.load (i := 16) may_o (p := ⟨b10, 1, none⟩) (v := .int .i64 0) (by simp [hz]) (fun w hw => ld3 (hw.2.1.cell 1)) hR (hw := (by exact wanted_g (e := 49) (b' := false) rfl (by simp [hz]) rfl)) ?_
  refine AnyK.bin (i := 17) may_o (u := .int .i64 0) (u' := .int .i64 (0)) (v := .bool false) (by simp [hz]) (by simp) (fun w => neqF rfl w) hR (hw := (by exact wanted_g (e := 49) (b' := false) rfl (by simp [hz]) rfl)) ?_
  refine AnyK.pick (i := 18) may_o (b := false) (v := .bool false) (by simp [hz]) (by simp [hz]) hR ?_
  refine AnyK.move (i := 19) may_o (v := .bool false) (by simp [hz]) hR ?_
  refine AnyK.field (i := 20) may_o (u := .pointer (some ⟨b10, 0, none⟩)) (v := .pointer (some ⟨b10, 0, none⟩)) (by simp [t10]) (fun w => fa62_0 w) hR (hw := (by exact wanted_g (e := 54) (b' := false) rfl (by simp [hz]) rfl)) ?_
  refine AnyK.load (i := 21) may_o (p := ⟨b10, 0, none⟩) (v := .int .i64 (T.length : Int)) (by simp [hz]) (fun w hw => ld3 (hw.2.1.cell 0)) hR (hw := (by exact wanted_g (e := 54) (b' := false) rfl (by simp [hz]) rfl)) ?_
  refine AnyK.bin (i := 22) may_o (u := .int .i64 (8)) (u' := .int .i64 (T.length : Int)) (v := .int .i64 ((8 * T.length : Nat) : Int)) (by simp) (by simp [hz]) (fun w => mul8 (by omega) w) hR (hw := (by exact wanted_g (e := 54) (b' := false) rfl (by simp [hz]) rfl)) ?_
  refine AnyK.move (i := 23) may_o (v := strV (linesL T)) (by simp [t7]) hR (hw := (by exact wanted_g (e := 54) (b' := false) rfl (by simp [hz]) rfl)) ?_
  refine AnyK.len (i := 24) may_o (u := strV (linesL T)) (v := .int .i64 ((linesL T).length : Int)) (by simp [hz]) (fun w => ln9b _ _ w) rfl hR (hw := (by exact wanted_g (e := 54) (b' := false) rfl (by simp [hz]) rfl)) ?_
  refine AnyK.bin (i := 25) may_o (u := .int .i64 ((8 * T.length : Nat) : Int)) (u' := .int .i64 ((linesL T).length : Int)) (v := .bool false) (by simp [hz]) (by simp [hz]) (fun w => neqF (by rw [hTb]) w) hR (hw := (by exact wanted_g (e := 54) (b' := false) rfl (by simp [hz]) rfl)) ?_
  refine AnyK.pick (i := 26) may_o (b := false) (v := .bool false) (by simp [hz]) (by simp [hz]) hR ?_
  refine AnyK.move (i := 27) may_o (v := .bool false) (by simp [hz]) hR ?_
  refine AnyK.move (i := 28) may_o (v := strV (linesL T)) (by simp [t7]) hR (hw := (by exact wanted_g (e := 62) (b' := false) rfl (by simp [hz]) rfl)) ?_
  refine AnyK.load (i := 30) may_o (p := ⟨b1, 0, none⟩) (v := serV s A c) (by simp [t3]) (fun w hw => ld24 ⟨hw.1.1.cell 0, hw.1.1.cell 1, hw.1.1.cell 2⟩) hR (hw := (by exact wanted_g (e := 62) (b' := false) rfl (by simp [hz]) rfl)) ?_
  refine AnyK.pick1 (i := 29) (by kernel_rfl) ?_
  refine StepK.call (i := 29) (f := 26) (vs := #[strV (linesL T)]) rfl (enters_of Try.func26 (by kernel_rfl) rfl) rfl (by simp [hz]) ((bytes_any (linesL T) (by omega) _).mono ?_) (hw := (by exact wanted_g (e := 62) (b' := false) rfl (by simp [hz]) rfl))
  rintro _ V29 ⟨v29, rfl, ob29⟩
  obtain ⟨A29, c29, rfl, hc29, hy29⟩ := ob29.bytes
  replace hR : (fun w : World => (Whole w b1 24 #[.int .i64 s.width, .int .i64 s.step, .slice A s.rd.length c] ∧ IntsAt w W6.heap.size A s.rd) ∧ Whole w b10 62 (c62 T.length 0 nd) ∧ Below W6.heap.size W6 w) V29 := hgr _ _ hR ob29.low
  refine ⟨_, rfl, fun _ _ => hR, ?_⟩
  refine AnyK.pick1 (i := 31) (by kernel_rfl) ?_
  refine StepK.call (i := 31) (f := 18) (vs := #[serV s A c]) rfl (enters_of Try.func18 (by kernel_rfl) rfl) rfl (by simp [hz]) ((series_any s A c _ (by omega) (hR.1.2.more hR.2.2.size)).mono ?_) (hw := (by exact wanted_g (e := 62) (b' := false) rfl (by simp [hz]) rfl))
  rintro _ V31 ⟨A31, c31, rfl, hs31, hb31⟩
  have hy31 := (hy29.below hb31 (Nat.le_refl _)).more hb31.size
  replace hR : (fun w : World => (Whole w b1 24 #[.int .i64 s.width, .int .i64 s.step, .slice A s.rd.length c] ∧ IntsAt w W6.heap.size A s.rd) ∧ Whole w b10 62 (c62 T.length 0 nd) ∧ Below W6.heap.size W6 w) V31 := hgr _ _ hR hb31
  refine ⟨_, rfl, fun _ _ => hR, ?_⟩
  refine AnyK.pick1 (i := 32) (by kernel_rfl) ?_
  refine StepK.call (i := 32) (f := 31) (vs := #[.slice A29 (linesL T).length c29, serV s A31 c31]) rfl (enters_of Try.func31 (by kernel_rfl) rfl) rfl (by simp [hz]) ((fits_any s A31 A29 c31 c29 (linesL T) V31 (by omega) hs31 hc29 (by omega) hy31).mono ?_) (hw := (by exact wanted_g (e := 62) (b' := false) rfl (by simp [hz]) rfl))
  rintro _ V32 ⟨rfl, hb32⟩
  rw [hfit]
  replace hR : (fun w : World => (Whole w b1 24 #[.int .i64 s.width, .int .i64 s.step, .slice A s.rd.length c] ∧ IntsAt w W6.heap.size A s.rd) ∧ Whole w b10 62 (c62 T.length 0 nd) ∧ Below W6.heap.size W6 w) V32 := hgr _ _ hR hb32
  refine ⟨_, rfl, fun _ _ => hR, ?_⟩
  refine AnyK.un (i := 33) may_o (u := .bool true) (v := .bool false) (by simp [hz]) (fun w => not4 _ w) hR (hw := (by exact wanted_g (e := 62) (b' := false) rfl (by simp [hz]) rfl)) ?_
  refine AnyK.pick (i := 34) may_o (b := false) (v := .bool false) (by simp [hz]) (by simp [hz]) hR ?_
  refine AnyK.done (by kernel_rfl) ?_
  refine wpIn_cond (t := false) (by simp [hz]) (wpIn_skip ?_)
  show tt_c.wpIn _ _ _ _ _ _
  exact tt_c_any n hmR (row1.below hR.2.2) hf1 hR.1.1 (hR.1.2.more hR.2.2.size) (by simp only [size_put, hz]) (by simp only [defers_put, hd_a]) (by simp [t3]) (by simp [t8]) (hB.trans (hR.2.2.mono hB.size))
end
set_option maxHeartbeats 400000 in
theorem truth_wp (s : Ser) (A Aw : Option Addr) (c cw by_ : Nat) (lw : List Nat) (W : World) (hby : by_ < 256) (hs : IntsAt W W.heap.size A s.rd) (hw : WordsAt W W.heap.size Aw lw) :
    Calls Try.prog 10 #[serV s A c, .slice Aw lw.length cw, .int .u8 (by_ : Int)] W (TP W true) := by
  refine (callsIn_wide (n := 5)).1 (callsIn_of_wp Try.func10 body10 trivial ?_ rfl)
  obtain ⟨a, ha⟩ : ∃ a : Act, a = { tmps := #[serV s A c, .slice Aw lw.length cw, .int .u8 (by_ : Int)] ++ Array.replicate (Try.f10.ntmps - (#[serV s A c, .slice Aw lw.length cw, .int .u8 (by_ : Int)] : Array Value).size) undef, defers := [] } := ⟨_, rfl⟩
  have hsz : a.tmps.size = 117 := by rw [ha]; simp [Try.ntmps10]
  have t0 : a.eval (.tmp 0) = serV s A c := by rw [ha]; simp [Act.eval]
  have t1 : a.eval (.tmp 1) = .slice Aw lw.length cw := by rw [ha]; simp [Act.eval]
  have t2 : a.eval (.tmp 2) = .int .u8 (by_ : Int) := by rw [ha]; simp [Act.eval]
  have hd_a : a.defers = [] := by rw [ha]
  rw [← ha]
  clear ha
  unfold code10
  refine wpIn_seq (region_p 2 ?_)
  intro K hK
  refine ListK.box (i := 0) (u := serV s A c) rfl (by simp [t0]) (bx24 W _ _ _ _ _) ?_
  refine ListK.assign (i := 1) (v := .bool false) rfl (by simp) ?_
  refine ListK.done (hK _ _ ?_)
  clear hK K
  replace hs : IntsAt (W.alloc (.cells #[.int .i64 s.width, .int .i64 s.step, .slice A s.rd.length c] 24)) W.heap.size A s.rd := hs.below ((Below.refl W.heap.size W).alloc (Nat.le_refl _) _) (Nat.le_refl _)
  replace hw : WordsAt (W.alloc (.cells #[.int .i64 s.width, .int .i64 s.step, .slice A s.rd.length c] 24)) W.heap.size Aw lw := hw.below ((Below.refl W.heap.size W).alloc (Nat.le_refl _) _)
  have w1 := Whole.new W 24 #[.int .i64 s.width, .int .i64 s.step, .slice A s.rd.length c]
  have hb_b1 : Below W.heap.size W (W.alloc (.cells #[.int .i64 s.width, .int .i64 s.step, .slice A s.rd.length c] 24)) := (Below.refl _ W).alloc (Nat.le_refl _) _
  have hB := hb_b1
  generalize hq_b1 : W.heap.size = b1 at *
  generalize W.alloc (.cells #[.int .i64 s.width, .int .i64 s.step, .slice A s.rd.length c] 24) = W1 at *
  have hsz1 := hB.size
  replace hs := hs.more (show b1 ≤ W1.heap.size by omega)
  replace hw := hw.more (show b1 ≤ W1.heap.size by omega)
  generalize hA : Act.put _ _ _ = a1
  have hz_a1 : a1.tmps.size = 117 := by rw [← hA]; simp only [size_put, hsz]
  have u1 : a1.eval (.tmp 1) = .slice Aw lw.length cw := by rw [← hA]; exact (by simp [t1])
  have u2 : a1.eval (.tmp 2) = .int .u8 (by_ : Int) := by rw [← hA]; exact (by simp [t2])
  have u3 : a1.eval (.tmp 3) = .pointer (some ⟨b1, 0, none⟩) := by rw [← hA]; exact (by simp [hsz])
  have hd_a1 : a1.defers = [] := by rw [← hA]; simp only [defers_put, hd_a]
  clear hA
  have hrd := ready_any s A c W1 hs
  cases hrb : readyB s
  · rw [hrb] at hrd
    refine wpIn_seq (wpIn_seq (region_p 3 ?_))
    intro K hK
    refine ListK.load (i := 0) (p := ⟨b1, 0, none⟩) (v := serV s A c) rfl (by simp [u3]) (ld24 ⟨w1.cell 0, w1.cell 1, w1.cell 2⟩) ?_
    refine ListK.call (i := 1) (vs := #[serV s A c]) rfl (enters_of Try.func23 (by kernel_rfl) rfl) (by simp [hz_a1]) ((hrd).mono ?_)
    rintro _ W2 ⟨rfl, hb2⟩
    refine ⟨_, rfl, ?_⟩
    refine ListK.un (i := 2) (u := .bool false) (v := .bool true) rfl (by simp [hz_a1]) (not4 _ _) ?_
    refine ListK.done (hK _ _ ?_)
    clear hK K
    refine wpIn_cond (t := true) (by simp [hz_a1]) ?_
    refine wpIn_seq (region_p 2 ?_)
    intro K hK
    refine ListK.call (i := 0) (vs := #[]) rfl (enters_of Try.func16 (by kernel_rfl) rfl) (by simp) ((awake_any W2).mono ?_)
    rintro _ W3 ⟨rfl, hb3⟩
    refine ⟨_, rfl, ?_⟩
    refine ListK.assign (i := 1) (v := .bool true) rfl (by simp [hz_a1]) ?_
    refine ListK.done (hK _ _ (wpIn_ret ?_))
    refine bodyPost_ret (v := .bool true) (res1 Try.results10 (by simp [hz_a1])) (by simp only [defers_put, hd_a1]) ⟨rfl, ?_⟩
    rw [hq_b1]
    exact (hB.trans (hb2.mono (by omega))).trans (hb3.mono (by have := hb2.size; omega))
  rw [hrb] at hrd
  have hrb2 : s.rd.length ≤ 45 ∧ faultS s = 0 := by simpa [readyB] using hrb
  have n := serN hrb2.2
  have hfl := file_len n
  refine wpIn_seq (wpIn_seq (region_p 3 ?_))
  intro K hK
  refine ListK.load (i := 0) (p := ⟨b1, 0, none⟩) (v := serV s A c) rfl (by simp [u3]) (ld24 ⟨w1.cell 0, w1.cell 1, w1.cell 2⟩) ?_
  refine ListK.call (i := 1) (vs := #[serV s A c]) rfl (enters_of Try.func23 (by kernel_rfl) rfl) (by simp [hz_a1]) ((hrd).mono ?_)
  rintro _ W2 ⟨rfl, hb2⟩
  refine ⟨_, rfl, ?_⟩
  refine ListK.un (i := 2) (u := .bool true) (v := .bool false) rfl (by simp [hz_a1]) (not4 _ _) ?_
  refine ListK.done (hK _ _ ?_)
  clear hK K
  refine wpIn_cond (t := false) (by simp [hz_a1]) (wpIn_skip ?_)
  generalize hA : Act.put _ _ _ = a2
  have hz_a2 : a2.tmps.size = 117 := by rw [← hA]; simp only [size_put, hz_a1]
  have v1 : a2.eval (.tmp 1) = .slice Aw lw.length cw := by rw [← hA]; exact (by simp [u1])
  have v2 : a2.eval (.tmp 2) = .int .u8 (by_ : Int) := by rw [← hA]; exact (by simp [u2])
  have v3 : a2.eval (.tmp 3) = .pointer (some ⟨b1, 0, none⟩) := by rw [← hA]; exact (by simp [u3])
  have hd_a2 : a2.defers = [] := by rw [← hA]; simp only [defers_put, hd_a1]
  clear hA
  have w2 := w1.below hb2 w1.lt
  have hs2 := (hs.below hb2 (Nat.le_refl _)).more hb2.size
  have hw2 := (hw.below hb2).more hb2.size
  have hB2 := hB.trans (hb2.mono (by omega))
  have hz2 := hB2.size
  rw [← hq_b1] at hB2
  refine wpIn_seq (region_p 7 ?_)
  intro K hK
  refine ListK.load (i := 0) (p := ⟨b1, 0, none⟩) (v := serV s A c) rfl (by simp [v3]) (ld24 ⟨w2.cell 0, w2.cell 1, w2.cell 2⟩) ?_
  refine ListK.call (i := 1) (vs := #[serV s A c]) rfl (enters_of Try.func22 (by kernel_rfl) rfl) (by simp [hz_a2]) ((refRecords_any s A c W2 hrb2.2 hs2).mono ?_)
  rintro _ W3 ⟨v3, rfl, os3⟩
  obtain ⟨A3, c3, rfl, hst3⟩ := os3.strs
  refine ⟨_, rfl, ?_⟩
  refine ListK.move (i := 2) (v := .slice Aw lw.length cw) rfl (by simp [v1]) ?_
  refine ListK.move (i := 3) (v := .int .u8 (by_ : Int)) rfl (by simp [v2]) ?_
  refine ListK.call (i := 4) (vs := #[.slice A3 (fileL s).length c3, .slice Aw lw.length cw, .int .u8 (by_ : Int)]) rfl (enters_of Try.func24 (by kernel_rfl) rfl) (by simp [hz_a2]) ((torn_any A3 Aw c3 cw by_ (fileL s) lw W3 (by omega) hfl.2 hby hst3 ((hw2.below os3.low).more os3.low.size)).mono ?_)
  rintro _ W4 ⟨v4, T, rfl, os4, tn⟩
  obtain ⟨A4, c4, rfl, hst4⟩ := os4.strs
  have t := tornF n tn
  have hTl := t.len
  have hTb := t.bytes
  refine ⟨_, rfl, ?_⟩
  refine ListK.call (i := 5) (vs := #[.slice A4 T.length c4]) rfl (enters_of Try.func21 (by kernel_rfl) rfl) (by simp [hz_a2]) ((refLines_any A4 c4 T (by omega) (by omega) W4 hst4).mono ?_)
  rintro _ W4x ⟨rfl, hWe⟩
  have hWf := hWe.symm
  subst hWf
  refine ⟨_, rfl, ?_⟩
  refine ListK.assign (i := 6) (v := strV (linesL T)) rfl (by simp [hz_a2]) ?_
  refine ListK.done (hK _ _ ?_)
  clear hK K
  have hb24 := os3.low.trans (os4.low.mono os3.low.size)
  have w4 := w2.below hb24 w2.lt
  have hs4 := (hs2.below hb24 (Nat.le_refl _)).more hb24.size
  have hB4 := hB2.trans (hb24.mono hB2.size)
  generalize hA : Act.put _ _ _ = a3
  have hz_a3 : a3.tmps.size = 117 := by rw [← hA]; simp only [size_put, hz_a2]
  have q3 : a3.eval (.tmp 3) = .pointer (some ⟨b1, 0, none⟩) := by rw [← hA]; exact (by simp [v3])
  have q7 : a3.eval (.tmp 7) = strV (linesL T) := by rw [← hA]; exact (by simp [hz_a2])
  have hd_a3 : a3.defers = [] := by rw [← hA]; simp only [defers_put, hd_a2]
  clear hA
  have h0 := mend_torn n t.sub t.hd (by omega)
  obtain ⟨m, _, _, hmR, _, hrm⟩ := read_torn n t.sub t.hd (by omega)
  refine wpIn_seq (region_p 8 ?_)
  intro K hK
  refine ListK.move (i := 0) (v := strV (linesL T)) rfl (by simp [q7]) ?_
  refine ListK.call (i := 1) (vs := #[strV (linesL T)]) rfl (enters_of Try.func26 (by kernel_rfl) rfl) (by simp [hz_a3]) ((bytes_any (linesL T) (by omega) W4).mono ?_)
  rintro _ V6 ⟨v6, rfl, ob6⟩
  obtain ⟨A6, c6, rfl, hc6, hy6⟩ := ob6.bytes
  refine ⟨_, rfl, ?_⟩
  refine ListK.call (i := 2) (vs := #[.slice A6 (linesL T).length c6]) rfl (enters_of Try.func25 (by kernel_rfl) rfl) (by simp [hz_a3]) ((mendX_any A6 (linesL T) c6 V6 hc6 (by omega) hy6).mono ?_)
  rintro e W6 hmp
  obtain ⟨hb6, B6, n6, d6, rfl, hx6, hm6⟩ := hmp
  refine ⟨_, rfl, ?_⟩
  refine ListK.move (i := 3) (v := .tuple #[.slice B6 n6 d6, .int .i64 (mendC (linesL T))]) rfl (by simp [hz_a3]) ?_
  refine ListK.extract (i := 4) (u := .tuple #[.slice B6 n6 d6, .int .i64 (mendC (linesL T))]) (v := .slice B6 n6 d6) rfl (by simp [hz_a3]) (ex0 _ _ _) ?_
  refine ListK.extract (i := 5) (u := .tuple #[.slice B6 n6 d6, .int .i64 (mendC (linesL T))]) (v := .int .i64 (mendC (linesL T))) rfl (by simp [hz_a3]) (ex1 _ _ _) ?_
  refine ListK.assign (i := 6) (v := .slice B6 n6 d6) rfl (by simp [hz_a3]) ?_
  refine ListK.assign (i := 7) (v := .int .i64 (mendC (linesL T))) rfl (by simp [hz_a3]) ?_
  refine ListK.done (hK _ _ ?_)
  clear hK K
  have hb46 := ob6.low.trans (hb6.mono ob6.low.size)
  have hB6 := hB4.trans (hb46.mono hB4.size)
  obtain ⟨hd1, m1, g1, f1, hr1, _, hh1, rfl, rfl, rfl, row1, hf1⟩ := hm6 h0
  rw [hrm] at hr1
  cases hr1
  rw [h0]
  generalize hA : Act.put _ _ _ = a4
  have hz_a4 : a4.tmps.size = 117 := by rw [← hA]; simp only [size_put, hz_a3]
  have r3 : a4.eval (.tmp 3) = .pointer (some ⟨b1, 0, none⟩) := by rw [← hA]; exact (by simp [q3])
  have r7 : a4.eval (.tmp 7) = strV (linesL T) := by rw [← hA]; exact (by simp [q7])
  have r8 : a4.eval (.tmp 8) = .slice (some ⟨g1, 0, none⟩) (hdH s).many (hdH s).many := by rw [← hA]; exact (by simp [hz_a3])
  have r9 : a4.eval (.tmp 9) = .int .i64 0 := by rw [← hA]; exact (by simp [hz_a3])
  have hd_a4 : a4.defers = [] := by rw [← hA]; simp only [defers_put, hd_a3]
  clear hA
  obtain ⟨k1, k2, k3⟩ := count_torn n t
  refine wpIn_seq (region_p 9 ?_)
  intro K hK
  refine ListK.move (i := 0) (v := strV (linesL T)) rfl (by simp [r7]) ?_
  refine ListK.call (i := 1) (vs := #[strV (linesL T)]) rfl (enters_of Try.func26 (by kernel_rfl) rfl) (by simp [hz_a4]) ((bytes_any (linesL T) (by omega) W6).mono ?_)
  rintro _ V7 ⟨v7, rfl, ob7⟩
  obtain ⟨A7, c7, rfl, hc7, hy7⟩ := ob7.bytes
  refine ⟨_, rfl, ?_⟩
  refine ListK.call (i := 2) (vs := #[.slice A7 (linesL T).length c7]) rfl (enters_of Try.func37 (by kernel_rfl) rfl) (by simp [hz_a4]) ((count_any A7 (linesL T) c7 V7 hc7 hy7).mono ?_)
  rintro _ W7 ⟨rfl, hb7⟩
  rw [k1, k2, k3]
  refine ⟨_, rfl, ?_⟩
  refine ListK.move (i := 3) (v := .tuple #[.agg (c62 T.length 0 (countR (linesL T)).1.nd), .int .i64 0]) rfl (by simp [hz_a4]) ?_
  refine ListK.extract (i := 4) (u := .tuple #[.agg (c62 T.length 0 (countR (linesL T)).1.nd), .int .i64 0]) (v := .agg (c62 T.length 0 (countR (linesL T)).1.nd)) rfl (by simp [hz_a4]) (ex0 _ _ _) ?_
  refine ListK.extract (i := 5) (u := .tuple #[.agg (c62 T.length 0 (countR (linesL T)).1.nd), .int .i64 0]) (v := .int .i64 0) rfl (by simp [hz_a4]) (ex1 _ _ _) ?_
  refine ListK.alloc (i := 6) rfl (al62 W7) ?_
  refine ListK.store (i := 7) (u := .pointer (some ⟨W7.heap.size, 0, none⟩)) (u' := .agg (c62 T.length 0 (countR (linesL T)).1.nd)) rfl (by simp [hz_a4]) (by simp [hz_a4]) (st62 (Whole.new W7 62 #[.int .i64 0, .int .i64 0, .int .i64 0])) ?_
  refine ListK.assign (i := 8) (v := .int .i64 0) rfl (by simp [hz_a4]) ?_
  refine ListK.done (hK _ _ ?_)
  clear hK K
  have hb67 := ob7.low.trans (hb7.mono ob7.low.size)
  generalize (countR (linesL T)).1.nd = nd at *
  have w10 := (((Whole.new W7 62 #[.int .i64 0, .int .i64 0, .int .i64 0]).set 0 (.int .i64 (T.length : Int))).set 1 (.int .i64 ((0 : Nat) : Int))).set 2 (.int .i64 (nd : Int))
  have hb8 : Below W7.heap.size W7 ((((W7.alloc (.cells #[.int .i64 0, .int .i64 0, .int .i64 0] 62)).setCell ⟨W7.heap.size, 0, none⟩ (.int .i64 (T.length : Int))).setCell ⟨W7.heap.size, 1, none⟩ (.int .i64 ((0 : Nat) : Int))).setCell ⟨W7.heap.size, 2, none⟩ (.int .i64 (nd : Int))) := ((((Below.refl _ W7).alloc (Nat.le_refl _) _).setCell (p := ⟨W7.heap.size, 0, none⟩) (Nat.le_refl _) _).setCell (p := ⟨W7.heap.size, 1, none⟩) (Nat.le_refl _) _).setCell (p := ⟨W7.heap.size, 2, none⟩) (Nat.le_refl _) _
  have hb68 := hb67.trans (hb8.mono hb67.size)
  have hb48 := hb46.trans (hb68.mono hb46.size)
  show tt_b.wpIn _ _ _ _ _ _
  exact tt_b_any hrb2.2 t hmR (row1.below hb68) hf1 (w4.below hb48 w4.lt) ((hs4.below hb48 (Nat.le_refl _)).more hb48.size) w10 (by simp only [size_put, hz_a4]) (by simp only [defers_put, hd_a4]) (by simp [r3]) (by simp [r7]) (by simp [r8]) (by simp [r9]) (by simp [hz_a4]) (by simp [hz_a4]) (hB6.trans (hb68.mono hB6.size))
end Go.Proofs.YtmdlmmfbcnkanaaR
