/- Texts for a law of package file, behind the shared ones, part 1: the law's own contracts and plain words. -/
import Derived.Test.YtmdlmmfbcnkanaaRA4

set_option linter.unusedVariables false
set_option maxRecDepth 10000

namespace Go.Proofs.YtmdlmmfbcnkanaaR
open Go.RowKit Go.Shelf
section
variable {P : Program} {ops : Array Oper} {K : Act → World → Prop} {k i d : Nat} {a : Act} {w w' : World} {ty : TypeId} {pos : String} {aft : Array Edge} {v : Value} {gd : Option (Nat × Bool)}
theorem ListK.look {t : TypeId} {x y : Operand} {u u' : Value} (hi : ops[i]? = some ⟨some d, .lookup t x y false, ty, pos, aft, gd⟩) (hx : a.eval x = u) (hy : a.eval y = u') (hv : (Instr.lookup t u u' false).run P w = .ok v w')
    (h : ListK P ops K k (i + 1) (a.put (some d) v) w') (hw : Region.wanted ⟨some d, .lookup t x y false, ty, pos, aft, gd⟩ (yielded ops a.tmps) = true := by rfl) : ListK P ops K (k + 1) i a w := ListK.valW hi hw (by simp [execOp, hx, hy, hv]) h
end
/-- A slice of words. -/
def WordsAt (w : World) (B : Nat) (A : Option Addr) (l : List Nat) : Prop := ∀ (k x : Nat), l[k]? = some x → x < 65536 ∧ ∃ b off, A = some ⟨b, off, none⟩ ∧ b < B ∧ w.cell? ⟨b, off + k, none⟩ = some (.int .u16 x)
theorem eql3 {x y : Operand} {m n : Int} (w : World) : (do eqGuard .eql 3 x y (.int .i64 m) (.int .i64 n); binOp .eql 3 (.int .i64 m) (.int .i64 n) : Sem Value).run Try.prog w = .ok (.bool (m == n)) w := by
  go_simp
theorem eqlT {x y : Operand} {m n : Int} (h : m = n) (w : World) : (do eqGuard .eql 3 x y (.int .i64 m) (.int .i64 n); binOp .eql 3 (.int .i64 m) (.int .i64 n) : Sem Value).run Try.prog w = .ok (.bool true) w := by
  rw [eql3 w]
  simp [h]
theorem geqF {x y : Operand} {m n : Int} (h : ¬ n ≤ m) (w : World) : (do eqGuard .geq 3 x y (.int .i64 m) (.int .i64 n); binOp .geq 3 (.int .i64 m) (.int .i64 n) : Sem Value).run Try.prog w = .ok (.bool false) w := by
  go_simp
theorem eql27F {x y : Operand} {m n : Int} (h : m ≠ n) (w : World) : (do eqGuard .eql 27 x y (.int .i64 m) (.int .i64 n); binOp .eql 27 (.int .i64 m) (.int .i64 n) : Sem Value).run Try.prog w = .ok (.bool false) w := by
  go_simp
section
variable {κ : Type} [DecidableEq κ]
theorem getK_mem {k : κ} {v : Value} : ∀ {l : List (κ × Value)}, getK l k = some v → (k, v) ∈ l
  | [], h => by simp [getK_nil] at h
  | p :: l, h => by
    rw [getK_cons] at h
    split at h
    · rename_i e
      cases h
      simp [e]
    · exact List.mem_cons_of_mem _ (getK_mem h)
end
section
variable {κ : Type} [DecidableEq κ]
variable {kv : κ → Value} {W : World} {M : Nat} {l : List (κ × Value)} {tm tk te : TypeId}
theorem MapAt.look (L : KeyLaw tm tk te kv) (h : MapAt kv W M l) (k : κ) {z : Value} (hz : ∀ w, (zeroValue te).run Try.prog w = .ok z w) :
    (Instr.lookup tm (.map (some M)) (kv k) false).run Try.prog W = .ok ((getK l k).getD z) W := by
  obtain ⟨es, ck, h1, h2, _⟩ := h.ex
  have hf := findK L k W es.toList l h2
  unfold getK
  cases hx : ixK k l 0 with
  | none =>
    rw [hx] at hf
    simp only [Instr.lookup, Sem.run_bind, L.und, Result.andThen, getObj_map h1, Sem.run_pure, L.chk, hf, hz]
    simp
  | some p =>
    rw [hx] at hf
    simp only [Instr.lookup, Sem.run_bind, L.und, Result.andThen, getObj_map h1, Sem.run_pure, L.chk, hf]
    simp
end
section
variable {W0 : World} {b2 b3 b4 ba M : Nat} {Ds : List Nat} {m : List (List UInt8)}
theorem dig_nat {b : UInt8} (h : isDig b = true) : (dig b : Nat) = b.toNat - 48 ∧ dig b ≤ 9 := by
  simp [isDig] at h
  have : dig b = b.toNat - 48 := by
    unfold dig
    rw [UInt8.toNat_sub_of_le _ _ (by rw [UInt8.le_iff_toNat_le]; exact h.1)]
    rfl
  omega
end
end Go.Proofs.YtmdlmmfbcnkanaaR
namespace Go.Proofs.YtmdlmmfbcnkanaaR
open Go.RowKit Go.Shelf
noncomputable def opsFa0 : Array Oper := (Try.f20.body.bind (regionOf 0)).getD #[]
noncomputable def opsFa1 : Array Oper := (Try.f20.body.bind (regionOf 1)).getD #[]
noncomputable def code20 : Code := (.seq (.region 0 opsFa0 false) (.seq (.region 1 opsFa1 false) .ret))
theorem body20 : Try.f20.body = some code20 := by kernel_rfl
theorem fault_any (s : Ser) (A : Option Addr) (c : Nat) (W : World) (hl : s.rd.length ≤ 1000000) (hs : IntsAt W W.heap.size A s.rd) : Calls Try.prog 20 #[serV s A c] W (EvP W (.int .i64 (faultS s))) := by
  refine (callsIn_wide (n := 5)).1 (callsIn_of_wp Try.func20 body20 trivial ?_ rfl)
  obtain ⟨a, ha⟩ : ∃ a : Act, a = { tmps := #[serV s A c] ++ Array.replicate (Try.f20.ntmps - (#[serV s A c] : Array Value).size) undef, defers := [] } := ⟨_, rfl⟩
  have hsz : a.tmps.size = 5 := by rw [ha]; simp [Try.ntmps20]
  have t0 : a.eval (.tmp 0) = serV s A c := by rw [ha]; simp [Act.eval]
  have hd_a : a.defers = [] := by rw [ha]
  rw [← ha]
  clear ha
  unfold code20
  refine wpIn_seq (region_p 2 ?_)
  intro K hK
  refine ListK.box (i := 0) (u := serV s A c) rfl (by simp [t0]) (bx24 W _ _ _ _ _) ?_
  refine ListK.assign (i := 1) (v := .int .i64 0) rfl (by simp) ?_
  refine ListK.done (hK _ _ ?_)
  clear hK K
  replace hs : IntsAt (W.alloc (.cells #[.int .i64 s.width, .int .i64 s.step, .slice A s.rd.length c] 24)) W.heap.size A s.rd := hs.below ((Below.refl W.heap.size W).alloc (Nat.le_refl _) _) (Nat.le_refl _)
  have w1 := Whole.new W 24 #[.int .i64 s.width, .int .i64 s.step, .slice A s.rd.length c]
  have hb_b1 : Below W.heap.size W (W.alloc (.cells #[.int .i64 s.width, .int .i64 s.step, .slice A s.rd.length c] 24)) := (Below.refl _ W).alloc (Nat.le_refl _) _
  have hB := hb_b1
  generalize hq_b1 : W.heap.size = b1 at *
  generalize W.alloc (.cells #[.int .i64 s.width, .int .i64 s.step, .slice A s.rd.length c] 24) = W1 at *
  have hsz1 := hB.size
  generalize hA : Act.put _ _ _ = a1
  have hz_a1 : a1.tmps.size = 5 := by rw [← hA]; simp only [size_put, hsz]
  have u1 : a1.eval (.tmp 1) = .pointer (some ⟨b1, 0, none⟩) := by rw [← hA]; exact (by simp [hsz])
  have hd_a1 : a1.defers = [] := by rw [← hA]; simp only [defers_put, hd_a]
  clear hA
  refine wpIn_seq (region_p 3 ?_)
  intro K hK
  refine ListK.load (i := 0) (p := ⟨b1, 0, none⟩) (v := serV s A c) rfl (by simp [u1]) (ld24 ⟨w1.cell 0, w1.cell 1, w1.cell 2⟩) ?_
  refine ListK.call (i := 1) (vs := #[serV s A c]) rfl (enters_of Try.func35 (by kernel_rfl) rfl) (by simp [hz_a1]) ((refFault_any s A c W1 hl (hs.more (by omega))).mono ?_)
  rintro _ W2 ⟨rfl, hb2⟩
  refine ⟨_, rfl, ?_⟩
  refine ListK.assign (i := 2) (v := .int .i64 (faultS s)) rfl (by simp [hz_a1]) ?_
  refine ListK.done (hK _ _ (wpIn_ret ?_))
  exact bodyPost_ret (v := .int .i64 (faultS s)) (res1 Try.results20 (by simp [hz_a1])) (by simp only [defers_put, hd_a1]) ⟨rfl, by rw [hq_b1]; exact hB.trans (hb2.mono (by omega))⟩
noncomputable def opsSh0 : Array Oper := (Try.f15.body.bind (regionOf 0)).getD #[]
noncomputable def opsSh1 : Array Oper := (Try.f15.body.bind (regionOf 1)).getD #[]
noncomputable def code15 : Code := (.seq (.region 0 opsSh0 false) (.seq (.region 1 opsSh1 false) .ret))
theorem body15 : Try.f15.body = some code15 := by kernel_rfl
theorem short_any (s : Ser) (A : Option Addr) (c : Nat) (W : World) : Calls Try.prog 15 #[serV s A c] W (EvP W (.bool (decide ((s.rd.length : Int) ≤ 45)))) := by
  refine (callsIn_wide (n := 5)).1 (callsIn_of_wp Try.func15 body15 trivial ?_ rfl)
  obtain ⟨a, ha⟩ : ∃ a : Act, a = { tmps := #[serV s A c] ++ Array.replicate (Try.f15.ntmps - (#[serV s A c] : Array Value).size) undef, defers := [] } := ⟨_, rfl⟩
  have hsz : a.tmps.size = 7 := by rw [ha]; simp [Try.ntmps15]
  have t0 : a.eval (.tmp 0) = serV s A c := by rw [ha]; simp [Act.eval]
  have hd_a : a.defers = [] := by rw [ha]
  rw [← ha]
  clear ha
  unfold code15
  refine wpIn_seq (region_p 2 ?_)
  intro K hK
  refine ListK.box (i := 0) (u := serV s A c) rfl (by simp [t0]) (bx24 W _ _ _ _ _) ?_
  refine ListK.assign (i := 1) (v := .bool false) rfl (by simp) ?_
  refine ListK.done (hK _ _ ?_)
  clear hK K
  have w1 := Whole.new W 24 #[.int .i64 s.width, .int .i64 s.step, .slice A s.rd.length c]
  have hb_b1 : Below W.heap.size W (W.alloc (.cells #[.int .i64 s.width, .int .i64 s.step, .slice A s.rd.length c] 24)) := (Below.refl _ W).alloc (Nat.le_refl _) _
  have hB := hb_b1
  generalize hq_b1 : W.heap.size = b1 at *
  generalize W.alloc (.cells #[.int .i64 s.width, .int .i64 s.step, .slice A s.rd.length c] 24) = W1 at *
  generalize hA : Act.put _ _ _ = a1
  have hz_a1 : a1.tmps.size = 7 := by rw [← hA]; simp only [size_put, hsz]
  have u1 : a1.eval (.tmp 1) = .pointer (some ⟨b1, 0, none⟩) := by rw [← hA]; exact (by simp [hsz])
  have hd_a1 : a1.defers = [] := by rw [← hA]; simp only [defers_put, hd_a]
  clear hA
  refine wpIn_seq (region_p 5 ?_)
  intro K hK
  refine ListK.field (i := 0) (u := .pointer (some ⟨b1, 0, none⟩)) (v := .pointer (some ⟨b1, 2, none⟩)) rfl (by simp [u1]) (fa24_2 _) ?_
  refine ListK.load (i := 1) (p := ⟨b1, 2, none⟩) (v := .slice A s.rd.length c) rfl (by simp [hz_a1]) (ld22 (w1.cell 2)) ?_
  refine ListK.len (i := 2) (u := .slice A s.rd.length c) (v := .int .i64 s.rd.length) rfl (by simp [hz_a1]) (ln22 _ _ _ _ _) rfl ?_
  refine ListK.bin (i := 3) (u := .int .i64 s.rd.length) (u' := .int .i64 45) (v := .bool (decide ((s.rd.length : Int) ≤ 45))) rfl (by simp [hz_a1]) (by simp) (leq3 _) ?_
  refine ListK.assign (i := 4) (v := .bool (decide ((s.rd.length : Int) ≤ 45))) rfl (by simp [hz_a1]) ?_
  refine ListK.done (hK _ _ (wpIn_ret ?_))
  exact bodyPost_ret (v := .bool (decide ((s.rd.length : Int) ≤ 45))) (res1 Try.results15 (by simp [hz_a1])) (by simp only [defers_put, hd_a1]) ⟨rfl, by rw [hq_b1]; exact hB⟩
section
attribute [local irreducible] AnyK StepK
end
end Go.Proofs.YtmdlmmfbcnkanaaR
namespace Go.Proofs.YtmdlmmfbcnkanaaR

theorem pieces_app : ∀ (l acc rest : List UInt8), (10 : UInt8) ∉ l → pieces acc (l ++ 10 :: rest) = (acc ++ l) :: pieces [] rest
  | [], acc, rest, _ => by
    show (if (10 : UInt8) = 10 then acc :: pieces [] rest else pieces (acc ++ [10]) rest) = _
    simp
  | b :: l, acc, rest, h => by
    have hb : b ≠ 10 := fun e => h (by simp [e])
    show (if b = 10 then acc :: pieces [] (l ++ 10 :: rest) else pieces (acc ++ [b]) (l ++ 10 :: rest)) = _
    rw [if_neg hb, pieces_app l _ rest (fun hm => h (List.mem_cons_of_mem _ hm))]
    simp
theorem pieces_lines : ∀ (L : List (List UInt8)) (rest : List UInt8), (∀ l, l ∈ L → (10 : UInt8) ∉ l) → pieces [] (linesL L ++ rest) = L ++ pieces [] rest
  | [], _, _ => rfl
  | l :: L, rest, h => by
    have h1 := pieces_app l [] (linesL L ++ rest) (h l List.mem_cons_self)
    have h2 : linesL (l :: L) ++ rest = l ++ 10 :: (linesL L ++ rest) := by simp [linesL]
    rw [h2, h1, pieces_lines L rest (fun x hx => h x (List.mem_cons_of_mem _ hx))]
    rfl
theorem isDig_hi {n : Nat} (h : n ≤ 99) : isDig (hi2 n) = true ∧ dig (hi2 n) = n / 10 := by
  have h1 : isDig (hi2 n) = true := by
    simp only [isDig, decide_eq_true_eq, hi2_nat h]
    omega
  have h2 := (dig_nat h1).1
  rw [hi2_nat h] at h2
  exact ⟨h1, by omega⟩
theorem isDig_lo {n : Nat} (h : n ≤ 99) : isDig (lo2 n) = true ∧ dig (lo2 n) = n % 10 := by
  have h1 : isDig (lo2 n) = true := by
    simp only [isDig, decide_eq_true_eq, lo2_nat h]
    omega
  have h2 := (dig_nat h1).1
  rw [lo2_nat h] at h2
  exact ⟨h1, by omega⟩
theorem num2_two {n : Nat} (h : n ≤ 99) : num2 (hi2 n) (lo2 n) = n := by
  rw [num2, (isDig_hi h).2, (isDig_lo h).2]
  omega
theorem not10 {b : UInt8} (h : isDig b = true) : b ≠ 10 := by
  rintro rfl
  simp [isDig] at h
theorem made_no10 {k : UInt8} {a b : Nat} (hk : k ≠ 10) (ha : a ≤ 99) (hb : b ≤ 99) : (10 : UInt8) ∉ made k a b := by
  have hc : chk5 k (hi2 a) (lo2 a) (hi2 b) (lo2 b) ≤ 99 := by have := chk5_lt k (hi2 a) (lo2 a) (hi2 b) (lo2 b); omega
  have h1 := not10 (isDig_hi ha).1
  have h2 := not10 (isDig_lo ha).1
  have h3 := not10 (isDig_hi hb).1
  have h4 := not10 (isDig_lo hb).1
  have h5 := not10 (isDig_hi hc).1
  have h6 := not10 (isDig_lo hc).1
  simp only [made, List.mem_cons, List.not_mem_nil, or_false, not_or]
  exact ⟨hk.symm, h1.symm, h2.symm, h3.symm, h4.symm, h5.symm, h6.symm⟩
theorem made_good {k : UInt8} {a b : Nat} (hk : k = 72 ∨ k = 82 ∨ k = 80) (ha : a ≤ 99) (hb : b ≤ 99) (hh : k = 72 → headOk (a : Int) ((b / 10 : Nat) : Int) ((b % 10 : Nat) : Int) = true) : isGood (made k a b) = true := by
  have hc : chk5 k (hi2 a) (lo2 a) (hi2 b) (lo2 b) ≤ 99 := by have := chk5_lt k (hi2 a) (lo2 a) (hi2 b) (lo2 b); omega
  have e1 : (k == 72 || k == 82 || k == 80) = true := by rcases hk with rfl | rfl | rfl <;> rfl
  simp only [made, isGood, good7, e1, (isDig_hi ha).1, (isDig_lo ha).1, (isDig_hi hb).1, (isDig_lo hb).1, (isDig_hi hc).1, (isDig_lo hc).1, num2_two hc, num2_two ha, (isDig_hi hb).2, (isDig_lo hb).2, Bool.and_self, BEq.rfl, Bool.true_and]
  by_cases h72 : k = 72
  · rw [hh h72]
    simp
  · simp [h72]
theorem made_name {k : UInt8} {a b : Nat} (ha : a ≤ 99) : nameOf (made k a b) = if k = 72 then (72, 0) else (k, a) := by
  simp only [made, nameOf, num2_two ha]
theorem made_val {k : UInt8} {a b : Nat} (hb : b ≤ 99) : valOf (made k a b) = b := by
  simp only [made, valOf, num2_two hb]
theorem made_head {m w st : Nat} (hm : m ≤ 99) (hw : w ≤ 9) (hs : st ≤ 9) : headOf (made 72 m (10 * w + st)) = ⟨m, w, st⟩ := by
  have hb : 10 * w + st ≤ 99 := by omega
  simp only [made, headOf, num2_two hm, (isDig_hi hb).2, (isDig_lo hb).2, Head.mk.injEq, true_and]
  omega
/-- Records of which no two of one name differ. -/
def Func (L : List (List UInt8)) : Prop := ∀ a b, a ∈ L → b ∈ L → nameOf a = nameOf b → a = b
theorem Func.of_sub {L L' : List (List UInt8)} (h : Func L) (hs : ∀ r, r ∈ L' → r ∈ L) : Func L' := fun a b ha hb => h a b (hs a ha) (hs b hb)
end Go.Proofs.YtmdlmmfbcnkanaaR
namespace Go.Proofs.YtmdlmmfbcnkanaaR
open Go.RowKit Go.Shelf
theorem ba_extract (l : List UInt8) (a b : Nat) : (⟨l.toArray⟩ : ByteArray).extract a b = ⟨((l.drop a).take (b - a)).toArray⟩ := by
  apply ByteArray.ext
  simp
theorem sl9B {l : List UInt8} {a b : Nat} (h : a ≤ b) (h2 : b ≤ l.length) (w : World) : (Instr.sliceAt 9 (strV l) (some (.int .i64 (a : Int))) (some (.int .i64 (b : Int))) none).run Try.prog w = .ok (strV ((l.drop a).take (b - a))) w := by
  go_simp
  rw [ba_extract]
theorem ListK.sliceLH {P : Program} {ops : Array Oper} {K : Act → World → Prop} {k i d : Nat} {a : Act} {w : World} {ty : TypeId} {pos : String} {aft : Array Edge} {gd : Option (Nat × Bool)} {t : TypeId} {x y z : Operand} {u u' u'' v : Value} (hi : ops[i]? = some ⟨some d, .slice t x (some y) (some z) none, ty, pos, aft, gd⟩) (hx : a.eval x = u) (hy : a.eval y = u') (hz : a.eval z = u'') (hv : (Instr.sliceAt t u (some u') (some u'') none).run P w = .ok v w)
    (h : ListK P ops K k (i + 1) (a.put (some d) v) w) (hw : Region.wanted ⟨some d, .slice t x (some y) (some z) none, ty, pos, aft, gd⟩ (yielded ops a.tmps) = true := by rfl) : ListK P ops K (k + 1) i a w := ListK.valW hi hw (by simp [execOp, hx, hy, hz, hv]) h
theorem eql5n {x y : Operand} (a b : UInt8) (w : World) : (do eqGuard .eql 5 x y (u8V a) (u8V b); binOp .eql 5 (u8V a) (u8V b) : Sem Value).run Try.prog w = .ok (.bool (decide (a = b))) w := by
  go_simp
  by_cases h : a = b
  · simp [h]
  · have : ¬ (a.toNat : Int) = b.toNat := fun e => h (UInt8.toNat_inj.1 (by omega))
    simp [h, this]
theorem eql9n {x y : Operand} (l k : List UInt8) (w : World) : (do eqGuard .eql 9 x y (strV l) (strV k); binOp .eql 9 (strV l) (strV k) : Sem Value).run Try.prog w = .ok (.bool (decide (l = k))) w := by
  go_simp
  by_cases h : l = k
  · simp [h]
  · simp [h]
theorem pieces_cons (acc : List UInt8) (b : UInt8) (l : List UInt8) : pieces acc (b :: l) = if b = 10 then acc :: pieces [] l else pieces (acc ++ [b]) l := by rw [pieces]
noncomputable def opsPc0 : Array Oper := (Try.f33.body.bind (regionOf 0)).getD #[]
noncomputable def opsPc1 : Array Oper := (Try.f33.body.bind (regionOf 1)).getD #[]
noncomputable def opsPc2 : Array Oper := (Try.f33.body.bind (regionOf 2)).getD #[]
noncomputable def opsPc3 : Array Oper := (Try.f33.body.bind (regionOf 3)).getD #[]
noncomputable def opsPc4 : Array Oper := (Try.f33.body.bind (regionOf 4)).getD #[]
noncomputable def opsPc5 : Array Oper := (Try.f33.body.bind (regionOf 5)).getD #[]
noncomputable def opsPc6 : Array Oper := (Try.f33.body.bind (regionOf 6)).getD #[]
noncomputable def opsPc7 : Array Oper := (Try.f33.body.bind (regionOf 7)).getD #[]
noncomputable def opsPc8 : Array Oper := (Try.f33.body.bind (regionOf 8)).getD #[]
noncomputable def opsPc9 : Array Oper := (Try.f33.body.bind (regionOf 9)).getD #[]
noncomputable def pc_l : Code := (.seq (.seq (.region 4 opsPc4 false) (.cond (.tmp 9) .skip (.exit 0))) (.seq (.block 1 (.seq (.region 6 opsPc6 false) (.cond (.tmp 15) (.seq (.region 7 opsPc7 false) (.region 8 opsPc8 false)) .skip))) (.region 5 opsPc5 false)))
noncomputable def code33 : Code := (.seq (.region 0 opsPc0 false) (.seq (.region 1 opsPc1 false) (.seq (.region 2 opsPc2 false) (.seq (.seq (.region 3 opsPc3 false) (.block 0 (.loop pc_l))) (.seq (.region 9 opsPc9 false) .ret)))))
theorem body33 : Try.f33.body = some code33 := by kernel_rfl
set_option maxHeartbeats 400000 in
theorem refPieces_any (l : List UInt8) (hl : l.length ≤ 90000) (W : World) : Calls Try.prog 33 #[strV l] W (fun e w' => ∃ v, e = .returned v ∧ OS W v (pieces [] l) w') := by
  refine (callsIn_wide (n := 5)).1 (callsIn_of_wp Try.func33 body33 trivial ?_ rfl)
  obtain ⟨a, ha⟩ : ∃ a : Act, a = { tmps := #[strV l] ++ Array.replicate (Try.f33.ntmps - (#[strV l] : Array Value).size) undef, defers := [] } := ⟨_, rfl⟩
  have hsz : a.tmps.size = 26 := by rw [ha]; simp [Try.ntmps33]
  have t0 : a.eval (.tmp 0) = strV l := by rw [ha]; simp [Act.eval]
  have hd_a : a.defers = [] := by rw [ha]
  rw [← ha]
  clear ha
  unfold code33
  refine wpIn_seq (region_p 1 ?_)
  intro K hK
  refine ListK.assign (i := 0) (v := .slice none 0 0) rfl (by simp) ?_
  refine ListK.done (hK _ _ ?_)
  clear hK K
  refine wpIn_seq (region_p 1 ?_)
  intro K hK
  refine ListK.assign (i := 0) (v := .slice none 0 0) rfl (by simp) ?_
  refine ListK.done (hK _ _ ?_)
  clear hK K
  refine wpIn_seq (region_p 1 ?_)
  intro K hK
  refine ListK.assign (i := 0) (v := .int .i64 0) rfl (by simp) ?_
  refine ListK.done (hK _ _ ?_)
  clear hK K
  generalize hA : Act.put _ _ _ = a1
  have hz_a1 : a1.tmps.size = 26 := by rw [← hA]; simp only [size_put, hsz]
  have u0 : a1.eval (.tmp 0) = strV l := by rw [← hA]; exact (by simp [t0])
  have u3 : a1.eval (.tmp 3) = .slice none 0 0 := by rw [← hA]; exact (by simp [hsz])
  have u4 : a1.eval (.tmp 4) = .int .i64 0 := by rw [← hA]; exact (by simp [hsz])
  have hd_a1 : a1.defers = [] := by rw [← hA]; simp only [defers_put, hd_a]
  clear hA
  refine wpIn_seq (wpIn_seq (region_p 1 ?_))
  intro K hK
  refine ListK.assign (i := 0) (v := .int .i64 0) rfl (by simp) ?_
  refine ListK.done (hK _ _ ?_)
  clear hK K
  generalize hA : Act.put _ _ _ = a2
  have hz_a2 : a2.tmps.size = 26 := by rw [← hA]; simp only [size_put, hz_a1]
  have v0 : a2.eval (.tmp 0) = strV l := by rw [← hA]; exact (by simp [u0])
  have v3 : a2.eval (.tmp 3) = .slice none 0 0 := by rw [← hA]; exact (by simp [u3])
  have v4 : a2.eval (.tmp 4) = .int .i64 0 := by rw [← hA]; exact (by simp [u4])
  have v5 : a2.eval (.tmp 5) = .int .i64 0 := by rw [← hA]; exact (by simp [hz_a1])
  have hd_a2 : a2.defers = [] := by rw [← hA]; simp only [defers_put, hd_a1]
  clear hA
  refine wpIn_block (wpIn_loop (fun a W' => ∃ (i fr : Nat) (v : Value) (O : List (List UInt8)), i ≤ l.length ∧ fr ≤ i ∧ O.length ≤ i ∧ O ++ pieces ((l.drop fr).take (i - fr)) (l.drop i) = pieces [] l ∧ OS W v O W' ∧ a.tmps.size = 26 ∧ a.defers = [] ∧ a.eval (.tmp 0) = strV l ∧ a.eval (.tmp 3) = v ∧ a.eval (.tmp 4) = .int .i64 (fr : Int) ∧ a.eval (.tmp 5) = .int .i64 (i : Int)) (fun a _ => l.length - (intOf (a.eval (.tmp 5))).toNat)
    ⟨0, 0, _, [], Nat.zero_le _, Nat.le_refl _, Nat.le_refl _, by simp, ⟨Below.refl _ _, rfl, .inl ⟨rfl, rfl⟩⟩, hz_a2, hd_a2, v0, v3, v4, v5⟩ ?_)
  rintro b1 W1 ⟨i, fr, v, O, hi, hfr, hO, hpc, os, hz_b1, hd_b1, s0, s3, s4, s5⟩
  unfold pc_l
  by_cases hlt : i < l.length
  · skip
    refine wpIn_seq (wpIn_seq (region_p 4 ?_))
    intro K hK
    refine ListK.move (i := 0) (v := .int .i64 (i : Int)) rfl (by simp [s5]) ?_
    refine ListK.move (i := 1) (v := strV l) rfl (by simp [s0]) ?_
    refine ListK.lenW (i := 2) (u := strV l) (v := .int .i64 (l.length : Int)) rfl (by simp [hz_b1]) (ln9 _ _ _) rfl ?_
    refine ListK.bin (i := 3) (u := .int .i64 (i : Int)) (u' := .int .i64 (l.length : Int)) (v := .bool true) rfl (by simp [hz_b1]) (by simp [hz_b1]) (lssT3 (by omega) _) ?_
    refine ListK.done (hK _ _ ?_)
    clear hK K
    refine wpIn_cond (t := true) (by simp [hz_b1]) (wpIn_skip ?_)
    generalize hA : Act.put _ _ _ = b2
    have hz_b2 : b2.tmps.size = 26 := by rw [← hA]; simp only [size_put, hz_b1]
    have o0 : b2.eval (.tmp 0) = strV l := by rw [← hA]; exact (by simp [s0])
    have o3 : b2.eval (.tmp 3) = v := by rw [← hA]; exact (by simp [s3])
    have o4 : b2.eval (.tmp 4) = .int .i64 (fr : Int) := by rw [← hA]; exact (by simp [s4])
    have o5 : b2.eval (.tmp 5) = .int .i64 (i : Int) := by rw [← hA]; exact (by simp [s5])
    have hd_b2 : b2.defers = [] := by rw [← hA]; simp only [defers_put, hd_b1]
    clear hA
    have hx := List.getElem?_eq_getElem hlt
    have hdr : l.drop i = l[i] :: l.drop (i + 1) := List.drop_eq_getElem_cons hlt
    have hgo : ∀ (fr' : Nat) (v' : Value) (O' : List (List UInt8)) (b : Act) (W' : World), fr' ≤ i + 1 → O'.length ≤ i + 1 → O' ++ pieces ((l.drop fr').take (i + 1 - fr')) (l.drop (i + 1)) = pieces [] l → OS W v' O' W' → b.tmps.size = 26 → b.defers = [] → b.eval (.tmp 0) = strV l → b.eval (.tmp 3) = v' → b.eval (.tmp 4) = .int .i64 (fr' : Int) → b.eval (.tmp 5) = .int .i64 (i : Int) →
        (Code.region 5 opsPc5 false).wpIn Fence.wide 5 Try.prog (fun e a' w' => (e = .normal ∧ (∃ (i fr : Nat) (v : Value) (O : List (List UInt8)), i ≤ l.length ∧ fr ≤ i ∧ O.length ≤ i ∧ O ++ pieces ((l.drop fr).take (i - fr)) (l.drop i) = pieces [] l ∧ OS W v O w' ∧ a'.tmps.size = 26 ∧ a'.defers = [] ∧ a'.eval (.tmp 0) = strV l ∧ a'.eval (.tmp 3) = v ∧ a'.eval (.tmp 4) = .int .i64 (fr : Int) ∧ a'.eval (.tmp 5) = .int .i64 (i : Int)) ∧ l.length - (intOf (a'.eval (.tmp 5))).toNat < l.length - (intOf (b1.eval (.tmp 5))).toNat)) b W' := by
      intro fr' v' O' b W' h1 h2 h3 os' hz_b hd_b p0 p3 p4 p5
      refine region_p 3 ?_
      intro K hK
      refine ListK.move (i := 0) (v := .int .i64 (i : Int)) rfl (by simp [p5]) ?_
      refine ListK.bin (i := 1) (u := .int .i64 (i : Int)) (u' := .int .i64 1) (v := .int .i64 ((i + 1 : Nat) : Int)) rfl (by simp [hz_b]) (by simp) (add3 (by omega) (by omega) _) ?_
      refine ListK.assign (i := 2) (v := .int .i64 ((i + 1 : Nat) : Int)) rfl (by simp [hz_b]) ?_
      refine ListK.done (hK _ _ ?_)
      clear hK K
      refine ⟨rfl, ⟨i + 1, fr', v', O', by omega, h1, h2, h3, os', (by simp only [size_put, hz_b]), (by simp only [defers_put, hd_b]), (by simp [p0]), (by simp [p3]), (by simp [p4]), (by simp [hz_b])⟩, ?_⟩
      rw [s5, show (Act.put _ _ _).eval (.tmp 5) = .int .i64 ((i + 1 : Nat) : Int) from (by simp [hz_b])]
      simp only [intOf]
      omega
    rw [hdr, pieces_cons] at hpc
    refine wpIn_seq (wpIn_block ?_)
    by_cases h10 : l[i] = 10
    · rw [if_pos h10] at hpc
      refine wpIn_seq (region_p 4 ?_)
      intro K hK
      refine ListK.move (i := 0) (v := strV l) rfl (by simp [o0]) ?_
      refine ListK.move (i := 1) (v := .int .i64 (i : Int)) rfl (by simp [o5]) ?_
      refine ListK.indexV (i := 2) (u := strV l) (u' := .int .i64 (i : Int)) (v := u8V l[i]) rfl (by simp [hz_b2]) (by simp [hz_b2]) (ix9 hx _) ?_
      refine ListK.bin (i := 3) (u := u8V l[i]) (u' := .int .u8 10) (v := .bool true) rfl (by simp [hz_b2]) (by simp) (by rw [← decide_eq_true h10]; exact eql5n _ 10 _) ?_
      refine ListK.done (hK _ _ ?_)
      clear hK K
      refine wpIn_cond (t := true) (by simp [hz_b2]) ?_
      generalize hA : Act.put _ _ _ = b3
      have hz_b3 : b3.tmps.size = 26 := by rw [← hA]; simp only [size_put, hz_b2]
      have x0 : b3.eval (.tmp 0) = strV l := by rw [← hA]; exact (by simp [o0])
      have x3 : b3.eval (.tmp 3) = v := by rw [← hA]; exact (by simp [o3])
      have x4 : b3.eval (.tmp 4) = .int .i64 (fr : Int) := by rw [← hA]; exact (by simp [o4])
      have x5 : b3.eval (.tmp 5) = .int .i64 (i : Int) := by rw [← hA]; exact (by simp [o5])
      have hd_b3 : b3.defers = [] := by rw [← hA]; simp only [defers_put, hd_b2]
      clear hA
      obtain ⟨v4, W4, hap4, os4⟩ := app36_run (l := (l.drop fr).take (i - fr)) (b := W1.heap.size) (c := 1) (ty := 36) (os.below ((Below.refl W1.heap.size W1).alloc (Nat.le_refl _) (.cells #[strV ((l.drop fr).take (i - fr))] 9))) ((Whole.new W1 9 #[strV ((l.drop fr).take (i - fr))]).cell 0) (by omega)
      refine wpIn_seq (region_p 8 ?_)
      intro K hK
      refine ListK.move (i := 0) (v := v) rfl (by simp [x3]) ?_
      refine ListK.move (i := 1) (v := strV l) rfl (by simp [x0]) ?_
      refine ListK.move (i := 2) (v := .int .i64 (fr : Int)) rfl (by simp [x4]) ?_
      refine ListK.move (i := 3) (v := .int .i64 (i : Int)) rfl (by simp [x5]) ?_
      refine ListK.sliceLH (i := 4) (u := strV l) (u' := .int .i64 (fr : Int)) (u'' := .int .i64 (i : Int)) (v := strV ((l.drop fr).take (i - fr))) rfl (by simp [hz_b3]) (by simp [hz_b3]) (by simp [hz_b3]) (sl9B hfr hi _) ?_
      refine ListK.bsl (i := 5) (ps := #[(0, strV ((l.drop fr).take (i - fr)))]) (v := .slice (some ⟨W1.heap.size, 0, none⟩) 1 1) rfl (by simp [hz_b3]) (bs36_1 _ W1) ?_
      refine ListK.app36 (i := 6) rfl (by simp [hz_b3]) (by simp [hz_b3]) hap4 ?_
      refine ListK.assign (i := 7) (v := v4) rfl (by simp [hz_b3]) ?_
      refine ListK.done (hK _ _ ?_)
      clear hK K
      generalize hA : Act.put _ _ _ = b4
      have hz_b4 : b4.tmps.size = 26 := by rw [← hA]; simp only [size_put, hz_b3]
      have y0 : b4.eval (.tmp 0) = strV l := by rw [← hA]; exact (by simp [x0])
      have y3 : b4.eval (.tmp 3) = v4 := by rw [← hA]; exact (by simp [hz_b3])
      have y5 : b4.eval (.tmp 5) = .int .i64 (i : Int) := by rw [← hA]; exact (by simp [x5])
      have hd_b4 : b4.defers = [] := by rw [← hA]; simp only [defers_put, hd_b3]
      clear hA
      refine region_p 3 ?_
      intro K hK
      refine ListK.move (i := 0) (v := .int .i64 (i : Int)) rfl (by simp [y5]) ?_
      refine ListK.bin (i := 1) (u := .int .i64 (i : Int)) (u' := .int .i64 1) (v := .int .i64 ((i + 1 : Nat) : Int)) rfl (by simp [hz_b4]) (by simp) (add3 (by omega) (by omega) _) ?_
      refine ListK.assign (i := 2) (v := .int .i64 ((i + 1 : Nat) : Int)) rfl (by simp [hz_b4]) ?_
      refine ListK.done (hK _ _ ?_)
      clear hK K
      refine Go.Code.wpIn_mono (fun e a'' w'' hq => ?_) (hgo (i + 1) v4 (O ++ [(l.drop fr).take (i - fr)]) _ W4 (Nat.le_refl _) (by simp; omega) (by rw [List.append_assoc]; simpa using hpc) os4 (by simp only [size_put, hz_b4]) (by simp only [defers_put, hd_b4]) (by simp [y0]) (by simp [y3]) (by simp [hz_b4]) (by simp [y5]))
      obtain ⟨rfl, h1, h2⟩ := hq
      exact ⟨h1, h2⟩
    · rw [if_neg h10] at hpc
      refine wpIn_seq (region_p 4 ?_)
      intro K hK
      refine ListK.move (i := 0) (v := strV l) rfl (by simp [o0]) ?_
      refine ListK.move (i := 1) (v := .int .i64 (i : Int)) rfl (by simp [o5]) ?_
      refine ListK.indexV (i := 2) (u := strV l) (u' := .int .i64 (i : Int)) (v := u8V l[i]) rfl (by simp [hz_b2]) (by simp [hz_b2]) (ix9 hx _) ?_
      refine ListK.bin (i := 3) (u := u8V l[i]) (u' := .int .u8 10) (v := .bool false) rfl (by simp [hz_b2]) (by simp) (by rw [← decide_eq_false h10]; exact eql5n _ 10 _) ?_
      refine ListK.done (hK _ _ ?_)
      clear hK K
      refine wpIn_cond (t := false) (by simp [hz_b2]) (wpIn_skip ?_)
      have hacc : (l.drop fr).take (i + 1 - fr) = (l.drop fr).take (i - fr) ++ [l[i]] := by
        rw [show i + 1 - fr = (i - fr) + 1 by omega, List.take_add_one, List.getElem?_drop, show fr + (i - fr) = i by omega, hx]
        rfl
      refine Go.Code.wpIn_mono (fun e a'' w'' hq => ?_) (hgo fr v O _ W1 (by omega) (by omega) (by rw [hacc]; exact hpc) os (by simp only [size_put, hz_b2]) (by simp only [defers_put, hd_b2]) (by simp [o0]) (by simp [o3]) (by simp [o4]) (by simp [o5]))
      obtain ⟨rfl, h1, h2⟩ := hq
      exact ⟨h1, h2⟩
  · have hie : i = l.length := by omega
    refine wpIn_seq (wpIn_seq (region_p 4 ?_))
    intro K hK
    refine ListK.move (i := 0) (v := .int .i64 (i : Int)) rfl (by simp [s5]) ?_
    refine ListK.move (i := 1) (v := strV l) rfl (by simp [s0]) ?_
    refine ListK.lenW (i := 2) (u := strV l) (v := .int .i64 (l.length : Int)) rfl (by simp [hz_b1]) (ln9 _ _ _) rfl ?_
    refine ListK.bin (i := 3) (u := .int .i64 (i : Int)) (u' := .int .i64 (l.length : Int)) (v := .bool false) rfl (by simp [hz_b1]) (by simp [hz_b1]) (lssF3 (by omega) _) ?_
    refine ListK.done (hK _ _ ?_)
    clear hK K
    refine wpIn_cond (t := false) (by simp [hz_b1]) (wpIn_exit ?_)
    show (Code.wpIn _ _ _ (Code.seq _ _) _ _ _)
    rw [hie, List.drop_length] at hpc
    simp [pieces] at hpc
    rw [← hpc]
    refine wpIn_seq (region_p 2 ?_)
    intro K hK
    refine ListK.move (i := 0) (v := v) rfl (by simp [s3]) ?_
    refine ListK.assign (i := 1) (v := v) rfl (by simp [hz_b1]) ?_
    refine ListK.done (hK _ _ (wpIn_ret ?_))
    exact bodyPost_ret (v := v) (res1 Try.results33 (by simp [hz_b1])) (by simp only [defers_put, hd_b1]) ⟨v, rfl, os⟩
end Go.Proofs.YtmdlmmfbcnkanaaR
namespace Go.Proofs.YtmdlmmfbcnkanaaR
open Go.RowKit Go.Shelf
/-- Records as keys. -/
abbrev K7 := UInt8 × UInt8 × UInt8 × UInt8 × UInt8 × UInt8 × UInt8
noncomputable instance k7dec : DecidableEq K7 := fun a b => Classical.propDecidable (a = b)
abbrev kv7 (k : K7) : Value := rV k.1 k.2.1 k.2.2.1 k.2.2.2.1 k.2.2.2.2.1 k.2.2.2.2.2.1 k.2.2.2.2.2.2
def k7 : List UInt8 → K7
  | [a, b, c, d, e, f, g] => (a, b, c, d, e, f, g)
  | _ => (0, 0, 0, 0, 0, 0, 0)
theorem kl102 : KeyLaw (κ := K7) 102 83 4 kv7 where
  und := fun w => by kernel_rfl
  chk := fun b k w => by kernel_rfl
  slow := ⟨_, und83, fun k k' => sameNow_agg _ _ _⟩
  eq := fun k k' w => by
    obtain ⟨a, b, c, d, e, f, g⟩ := k
    obtain ⟨a', b', c', d', e', f', g'⟩ := k'
    show (Op.equalIn 10000 83 (rV a b c d e f g) (rV a' b' c' d' e' f' g')).run Try.prog w = _
    rw [eq83]
    congr 1
    refine decide_eq_decide.2 ?_
    simp
  stays := fun k w => stays_agg _ w (by simp)
theorem k7_inj {r r' : List UInt8} (h : r.length = 7) (h' : r'.length = 7) (e : k7 r = k7 r') : r = r' := by
  obtain ⟨a, b, c, d, e1, f, g, rfl⟩ := len7 h
  obtain ⟨a', b', c', d', e', f', g', rfl⟩ := len7 h'
  simpa [k7] using e
/-- What has been counted: good pieces, bad ones, doubles; and the good ones, without doubles. -/
structure Ct where
  ng : Nat
  nb : Nat
  nd : Nat
  sn : List (List UInt8)
def ctStep (x : Ct) (p : List UInt8) : Ct := if isGood p then (if p ∈ x.sn then ⟨x.ng + 1, x.nb, x.nd + 1, x.sn⟩ else ⟨x.ng + 1, x.nb, x.nd, x.sn ++ [p]⟩) else ⟨x.ng, x.nb + 1, x.nd, x.sn⟩
def ctAll (ps : List (List UInt8)) : Ct := ps.foldl ctStep ⟨0, 0, 0, []⟩
def seenM (l : List (List UInt8)) : List (K7 × Value) := l.map fun r => (k7 r, .bool true)
theorem getK_seen {l : List (List UInt8)} (h7 : ∀ r, r ∈ l → r.length = 7) {p : List UInt8} (hp : p.length = 7) : (getK (seenM l) (k7 p)).getD (.bool false) = .bool (decide (p ∈ l)) := by
  induction l with
  | nil => rfl
  | cons r l ih =>
    have h1 := ih (fun x hx => h7 x (List.mem_cons_of_mem _ hx))
    show (getK ((k7 r, .bool true) :: seenM l) (k7 p)).getD (.bool false) = _
    rw [getK_cons]
    by_cases e : p = r
    · subst e
      simp
    · have e2 : k7 p ≠ k7 r := fun h => e (k7_inj hp (h7 r List.mem_cons_self) h)
      rw [if_neg e2, h1]
      simp [e]
theorem putK_seen {l : List (List UInt8)} (h7 : ∀ r, r ∈ l → r.length = 7) {p : List UInt8} (hp : p.length = 7) : putK (seenM l) (k7 p) (.bool true) = seenM (if p ∈ l then l else l ++ [p]) := by
  have h := getK_seen h7 hp
  by_cases e : p ∈ l
  · rw [if_pos e]
    refine putK_same ?_
    rw [decide_eq_true e] at h
    cases hg : getK (seenM l) (k7 p) with
    | none => rw [hg] at h; cases h
    | some v => rw [hg] at h; exact congrArg some h
  · rw [if_neg e]
    have hn : getK (seenM l) (k7 p) = none := by
      cases hg : getK (seenM l) (k7 p) with
      | none => rfl
      | some v =>
        rw [hg, decide_eq_false e] at h
        have hm := getK_mem hg
        unfold seenM at hm
        obtain ⟨r, _, hr⟩ := List.mem_map.1 hm
        have hv := congrArg Prod.snd hr
        simp only at hv
        subst hv
        cases h
    rw [putK_new hn]
    simp [seenM]
theorem ct_le : ∀ (ps : List (List UInt8)) (x : Ct), x.nd ≤ x.ng → (ps.foldl ctStep x).nd ≤ (ps.foldl ctStep x).ng ∧ (ps.foldl ctStep x).ng + (ps.foldl ctStep x).nb = x.ng + x.nb + ps.length
  | [], x, h => ⟨h, by simp⟩
  | p :: ps, x, h => by
    have hs : (ctStep x p).nd ≤ (ctStep x p).ng ∧ (ctStep x p).ng + (ctStep x p).nb = x.ng + x.nb + 1 := by
      unfold ctStep
      split
      · split <;> simp <;> omega
      · simp; omega
    have := ct_le ps (ctStep x p) hs.1
    simp only [List.foldl_cons, List.length_cons]
    omega
theorem al62 (w : World) : (Instr.alloc 62 true (.tuple #[])).run Try.prog w = .ok (.pointer (some ⟨w.heap.size, 0, none⟩)) (w.alloc (.cells #[.int .i64 0, .int .i64 0, .int .i64 0] 62)) := by go_simp
theorem al102 (w : World) : (Instr.alloc 102 true (.tuple #[])).run Try.prog w = .ok (.pointer (some ⟨w.heap.size, 0, none⟩)) (w.alloc (.cells #[.map none] 102)) := by go_simp
theorem bd62_0 (w : World) : (Instr.build 62 #[]).run Try.prog w = .ok (.agg #[.int .i64 0, .int .i64 0, .int .i64 0]) w := by go_simp
theorem mm102 (w : World) : (Instr.makeMap 102 none).run Try.prog w = .ok (.map (some w.heap.size)) (w.alloc (.map #[] 0)) := by kernel_rfl
theorem st102 {w : World} {p : Addr} {u : Value} {M : Option Nat} (h : w.cell? p = some u) (hf : w.frozen? p = false) : (Instr.storeAt 102 (.pointer (some p)) (.map M)).run Try.prog w = .ok () (w.setCell p (.map M)) := by go_simp
theorem ld102 {w : World} {p : Addr} {v : Value} (h : w.cell? p = some v) : (Instr.loadAt 102 (.pointer (some p))).run Try.prog w = .ok v w := by go_simp
theorem ld62 {w : World} {b : Nat} {u v x : Value} (h : w.cell? ⟨b, 0, none⟩ = some u ∧ w.cell? ⟨b, 1, none⟩ = some v ∧ w.cell? ⟨b, 2, none⟩ = some x) : (Instr.loadAt 62 (.pointer (some ⟨b, 0, none⟩))).run Try.prog w = .ok (.agg #[u, v, x]) w := by
  obtain ⟨h0, h1, h2⟩ := h
  go_simp
theorem st62 {w : World} {b : Nat} {u0 u1 u2 : Value} {x y z : Int} (h : Whole w b 62 #[u0, u1, u2]) : (Instr.storeAt 62 (.pointer (some ⟨b, 0, none⟩)) (.agg #[.int .i64 x, .int .i64 y, .int .i64 z])).run Try.prog w = .ok () (((w.setCell ⟨b, 0, none⟩ (.int .i64 x)).setCell ⟨b, 1, none⟩ (.int .i64 y)).setCell ⟨b, 2, none⟩ (.int .i64 z)) := by
  have h0 : w.cell? ⟨b, 0, none⟩ = some u0 := h.cell 0
  have h1 : w.cell? ⟨b, 1, none⟩ = some u1 := h.cell 1
  have h2 : w.cell? ⟨b, 2, none⟩ = some u2 := h.cell 2
  have f0 := h.frozen 0
  have f1 := h.frozen 1
  have f2 := h.frozen 2
  go_simp
theorem fa62_0 {b o : Nat} (w : World) : (Instr.fieldAt 62 (.pointer (some ⟨b, o, none⟩)) 0).run Try.prog w = .ok (.pointer (some ⟨b, o, none⟩)) w := by go_simp
theorem fa62_1 {b o : Nat} (w : World) : (Instr.fieldAt 62 (.pointer (some ⟨b, o, none⟩)) 1).run Try.prog w = .ok (.pointer (some ⟨b, o + 1, none⟩)) w := by go_simp
theorem fa62_2 {b o : Nat} (w : World) : (Instr.fieldAt 62 (.pointer (some ⟨b, o, none⟩)) 2).run Try.prog w = .ok (.pointer (some ⟨b, o + 2, none⟩)) w := by go_simp
theorem res62b {fn : Go.Func} {k j b : Nat} {W : World} {a : Act} {v0 v1 v2 u : Value} (h : fn.results = #[.cell k 62, .tmp j]) (he : a.eval (.tmp k) = .pointer (some ⟨b, 0, none⟩)) (hj : a.eval (.tmp j) = u) (hw : Whole W b 62 #[v0, v1, v2]) :
    (results fn a.tmps).run Try.prog W = .ok (.tuple #[.agg #[v0, v1, v2], u]) W := by
  have he' : a.tmps[k]?.getD undef = .pointer (some ⟨b, 0, none⟩) := by simpa [Act.eval] using he
  have hj' : a.tmps[j]?.getD undef = u := by simpa [Act.eval] using hj
  have h0 : W.cell? ⟨b, 0, none⟩ = some v0 := hw.cell 0
  have h1 : W.cell? ⟨b, 1, none⟩ = some v1 := hw.cell 1
  have h2 : W.cell? ⟨b, 2, none⟩ = some v2 := hw.cell 2
  simp only [results, h]
  simp [he', hj']
  go_simp
abbrev c62 (x y z : Nat) : Array Value := #[.int .i64 (x : Int), .int .i64 (y : Int), .int .i64 (z : Int)]
/-- What holds between two pieces. -/
structure CtI (W0 : World) (b2 b4 M b5 : Nat) (x : Ct) (W : World) : Prop where
  low : Below W0.heap.size W0 W
  ord : W0.heap.size ≤ b2 ∧ b2 < b4 ∧ b4 < M ∧ M < b5
  w2 : Whole W b2 62 #[.int .i64 0, .int .i64 0, .int .i64 0]
  w4 : Whole W b4 62 (c62 x.ng x.nb x.nd)
  w5 : Whole W b5 102 #[.map (some M)]
  mp : MapAt kv7 W M (seenM x.sn)
  gd : ∀ r, r ∈ x.sn → isGood r = true
section
variable {W0 W W' : World} {b2 b4 M b5 : Nat} {x : Ct}
theorem CtI.else {X : Nat → Prop} (i : CtI W0 b2 b4 M b5 x W) (he : Else X W W') (hX : ∀ k, k ≤ b5 → ¬ X k) : CtI W0 b2 b4 M b5 x W' := by
  obtain ⟨o1, o2, o3, o4⟩ := i.ord
  exact ⟨i.low.trans (he.below i.low.size (fun k hk => hX k (by omega))), i.ord, he.whole (hX _ (by omega)) i.w2, he.whole (hX _ (by omega)) i.w4, he.whole (hX _ (by omega)) i.w5, i.mp.keep (he.block M i.mp.lt (hX _ (by omega))), i.gd⟩
theorem CtI.below (i : CtI W0 b2 b4 M b5 x W) (hb : Below W.heap.size W W') : CtI W0 b2 b4 M b5 x W' := i.else (Else.of_below (fun _ => False) hb) (fun _ _ h => h)
theorem CtI.lt (i : CtI W0 b2 b4 M b5 x W) : b5 < W.heap.size := i.w5.lt
/-- A number is changed. -/
theorem CtI.set (i : CtI W0 b2 b4 M b5 x W) {j : Nat} {v : Value} {y : Ct} (hw : ∀ W', Whole W' b4 62 ((c62 x.ng x.nb x.nd).setIfInBounds j v) → Whole W' b4 62 (c62 y.ng y.nb y.nd)) (hs : y.sn = x.sn) : CtI W0 b2 b4 M b5 y (W.setCell ⟨b4, j, none⟩ v) ∧ Else (fun k => k = b4) W (W.setCell ⟨b4, j, none⟩ v) := by
  obtain ⟨o1, o2, o3, o4⟩ := i.ord
  have he : Else (fun k => k = b4) W (W.setCell ⟨b4, j, none⟩ v) := (Else.refl (fun k => k = b4) W).setCell (p := ⟨b4, j, none⟩) (.inl rfl) _
  refine ⟨⟨i.low.trans (he.below i.low.size (fun k hk => by omega)), i.ord, he.whole (by omega) i.w2, hw _ (i.w4.set j v), he.whole (by omega) i.w5, ?_, fun r hr => i.gd r (hs ▸ hr)⟩, he⟩
  rw [hs]
  exact i.mp.keep (he.block M i.mp.lt (by omega))
/-- A record is seen. -/
theorem CtI.put (i : CtI W0 b2 b4 M b5 x W) {p : List UInt8} (hg : isGood p = true) :
    ∃ W', (Instr.mapUpdate 102 (.map (some M)) (kv7 (k7 p)) (.bool true)).run Try.prog W = .ok () W' ∧ CtI W0 b2 b4 M b5 ⟨x.ng, x.nb, x.nd, if p ∈ x.sn then x.sn else x.sn ++ [p]⟩ W' ∧ Else (fun k => k = M) W W' := by
  obtain ⟨o1, o2, o3, o4⟩ := i.ord
  obtain ⟨o, h3, h4⟩ := i.mp.put kl102 (k7 p) (.bool true)
  rw [putK_seen (fun r hr => good_seven (i.gd r hr)) (good_seven hg)] at h4
  have he : Else (fun k => k = M) W (W.putObj M o) := ⟨⟨rfl, rfl, rfl, by simp [World.putObj], fun k hk => by omega⟩, fun k _ hx => World.putObj_heap_other hx⟩
  refine ⟨_, h3, ⟨i.low.trans (he.below i.low.size (fun k hk => by omega)), i.ord, he.whole (by omega) i.w2, he.whole (by omega) i.w4, he.whole (by omega) i.w5, h4, ?_⟩, he⟩
  intro r hr
  split at hr
  · exact i.gd r hr
  · rcases List.mem_append.1 hr with hr | hr
    · exact i.gd r hr
    · simp at hr
      rw [hr]
      exact hg
end
noncomputable def opsCt0 : Array Oper := (Try.f37.body.bind (regionOf 0)).getD #[]
noncomputable def opsCt1 : Array Oper := (Try.f37.body.bind (regionOf 1)).getD #[]
noncomputable def opsCt2 : Array Oper := (Try.f37.body.bind (regionOf 2)).getD #[]
noncomputable def opsCt3 : Array Oper := (Try.f37.body.bind (regionOf 3)).getD #[]
noncomputable def opsCt4 : Array Oper := (Try.f37.body.bind (regionOf 4)).getD #[]
noncomputable def opsCt5 : Array Oper := (Try.f37.body.bind (regionOf 5)).getD #[]
noncomputable def opsCt6 : Array Oper := (Try.f37.body.bind (regionOf 6)).getD #[]
noncomputable def opsCt7 : Array Oper := (Try.f37.body.bind (regionOf 7)).getD #[]
noncomputable def opsCt8 : Array Oper := (Try.f37.body.bind (regionOf 8)).getD #[]
noncomputable def opsCt9 : Array Oper := (Try.f37.body.bind (regionOf 9)).getD #[]
noncomputable def opsCt10 : Array Oper := (Try.f37.body.bind (regionOf 10)).getD #[]
noncomputable def opsCt11 : Array Oper := (Try.f37.body.bind (regionOf 11)).getD #[]
noncomputable def opsCt12 : Array Oper := (Try.f37.body.bind (regionOf 12)).getD #[]
noncomputable def opsCt13 : Array Oper := (Try.f37.body.bind (regionOf 13)).getD #[]
noncomputable def opsCt14 : Array Oper := (Try.f37.body.bind (regionOf 14)).getD #[]
noncomputable def ct_as : Code := (.region 6 opsCt6 false)
noncomputable def ct_body : Code := (.block 1 (.seq (.region 7 opsCt7 false) (.seq (.block 2 (.seq (.region 8 opsCt8 false) (.cond (.tmp 22) (.seq (.region 9 opsCt9 false) (.exit 1)) (.seq (.region 10 opsCt10 false) (.cond (.tmp 29) (.region 11 opsCt11 false) .skip))))) (.seq (.region 12 opsCt12 false) (.region 13 opsCt13 false)))))
noncomputable def ct_range : Code := (.rangeFunc (.tmp 15) #[16] ct_as ct_body)
noncomputable def ct_e : Code := (.seq (.region 14 opsCt14 false) .ret)
noncomputable def code37 : Code := (.seq (.region 0 opsCt0 false) (.seq (.seq (.region 1 opsCt1 false) (.cond (.tmp 11) (.seq (.region 2 opsCt2 false) .ret) .skip)) (.seq (.region 3 opsCt3 false) (.seq (.region 4 opsCt4 false) (.seq (.seq (.region 5 opsCt5 false) (.block 0 ct_range)) ct_e)))))
theorem body37 : Try.f37.body = some code37 := by kernel_rfl
section
variable {W0 : World} {b2 b4 M b5 : Nat} {x : Ct}
set_option maxHeartbeats 1000000 in
theorem ct_body_any {l n c : Nat} {A : Option Addr} {p : List UInt8} {a : Act} {W1 : World} {Q : Exit → Act → World → Prop} (hl : p.length ≤ c) (hs : BytesAt W1 W1.heap.size A p) (hx : x.ng ≤ 90000 ∧ x.nb ≤ 90000 ∧ x.nd ≤ 90000)
    (hsz : a.tmps.size = 44) (hdf : a.defers = []) (t2 : a.eval (.tmp 2) = ptr b2) (t4 : a.eval (.tmp 4) = ptr b4) (t5 : a.eval (.tmp 5) = ptr b5) (t6 : a.eval (.tmp 6) = .slice A p.length c) (i : CtI W0 b2 b4 M b5 x W1)
    (hN : ∀ a' W', CtI W0 b2 b4 M b5 (ctStep x p) W' → Else (fun k => k = b4 ∨ k = M) W1 W' → Q .normal a' W') :
    ct_body.wpIn (Fence.wide.inRound l) n Try.prog Q a W1 := by
  obtain ⟨x1, x2, x3⟩ := hx
  obtain ⟨c0, c1, c2, c3, c4, c5, c6, hz, hp⟩ : ∃ c0 c1 c2 c3 c4 c5 c6, asRec p = r7 c0 c1 c2 c3 c4 c5 c6 ∧ (isGood p = true → p = [c0, c1, c2, c3, c4, c5, c6]) := by
    cases hg : isGood p with
    | false => exact ⟨0, 0, 0, 0, 0, 0, 0, by simp [asRec, hg], fun h => by cases h⟩
    | true =>
      obtain ⟨c0, c1, c2, c3, c4, c5, c6, rfl⟩ := len7 (good_seven hg)
      exact ⟨c0, c1, c2, c3, c4, c5, c6, by simp [asRec, hg, recC], fun _ => rfl⟩
  unfold ct_body
  refine wpIn_block ?_
  have hgd := good_any A p c W1 hl hs
  refine wpIn_seq (region_l 8 (wideF_round _ _) (by kernel_rfl) (by kernel_rfl) ?_)
  intro K hK
  refine ListK.move (i := 0) (v := .slice A p.length c) rfl (by simp [t6]) ?_
  refine ListK.call (i := 1) (vs := #[.slice A p.length c]) rfl (enters_of Try.func67 (by kernel_rfl) rfl) (by simp [hsz]) ((hgd).mono ?_)
  rintro _ W2 ⟨h67, hb2⟩
  rw [hz] at h67
  subst h67
  refine ⟨_, rfl, ?_⟩
  refine ListK.move (i := 2) (v := .tuple #[rV c0 c1 c2 c3 c4 c5 c6, .bool (isGood p)]) rfl (by simp [hsz]) ?_
  refine ListK.extract (i := 3) (u := .tuple #[rV c0 c1 c2 c3 c4 c5 c6, .bool (isGood p)]) (v := rV c0 c1 c2 c3 c4 c5 c6) rfl (by simp [hsz]) (ex0 _ _ _) ?_
  refine ListK.extract (i := 4) (u := .tuple #[rV c0 c1 c2 c3 c4 c5 c6, .bool (isGood p)]) (v := .bool (isGood p)) rfl (by simp [hsz]) (ex1 _ _ _) ?_
  refine ListK.alloc (i := 5) rfl (al83 W2) ?_
  refine ListK.store (i := 6) (u := .pointer (some ⟨W2.heap.size, 0, none⟩)) (u' := rV c0 c1 c2 c3 c4 c5 c6) rfl (by simp [hsz]) (by simp [hsz]) (st83 (Whole.new W2 83 z7)) ?_
  refine ListK.assign (i := 7) (v := .bool (isGood p)) rfl (by simp [hsz]) ?_
  refine ListK.done (hK _ _ ?_)
  clear hK K
  have w7 := put7_whole (Whole.new W2 83 z7) (u8V c0) (u8V c1) (u8V c2) (u8V c3) (u8V c4) (u8V c5) (u8V c6)
  have hb3 : Below W2.heap.size W2 (put7 (W2.alloc (.cells z7 83)) W2.heap.size (u8V c0) (u8V c1) (u8V c2) (u8V c3) (u8V c4) (u8V c5) (u8V c6)) := ((Below.refl _ W2).alloc (Nat.le_refl _) _).trans ((put7_else (w := W2.alloc (.cells z7 83)) (b := W2.heap.size) (u8V c0) (u8V c1) (u8V c2) (u8V c3) (u8V c4) (u8V c5) (u8V c6)).below (by simp) (fun k hk e => by omega))
  have hl5 := (i.below hb2).lt
  have i3 := (i.below hb2).below hb3
  have hB3 := hb2.trans (hb3.mono hb2.size)
  generalize hq7 : W2.heap.size = b7 at *
  generalize put7 (W2.alloc (.cells z7 83)) b7 (u8V c0) (u8V c1) (u8V c2) (u8V c3) (u8V c4) (u8V c5) (u8V c6) = W3 at *
  obtain ⟨o1, o2, o3, o4⟩ := i.ord
  generalize hA : Act.put _ _ _ = a1
  have hz_a1 : a1.tmps.size = 44 := by rw [← hA]; simp only [size_put, hsz]
  have u2 : a1.eval (.tmp 2) = .pointer (some ⟨b2, 0, none⟩) := by rw [← hA]; exact (by simp [t2])
  have u4 : a1.eval (.tmp 4) = .pointer (some ⟨b4, 0, none⟩) := by rw [← hA]; exact (by simp [t4])
  have u5 : a1.eval (.tmp 5) = .pointer (some ⟨b5, 0, none⟩) := by rw [← hA]; exact (by simp [t5])
  have u7 : a1.eval (.tmp 7) = .pointer (some ⟨b7, 0, none⟩) := by rw [← hA]; exact (by simp [hsz])
  have u8 : a1.eval (.tmp 8) = .bool (isGood p) := by rw [← hA]; exact (by simp [hsz])
  have hd_a1 : a1.defers = [] := by rw [← hA]; simp only [defers_put, hdf]
  clear hA
  cases hg : isGood p with
  | false =>
    rw [hg] at u8
    have hst : ctStep x p = ⟨x.ng, x.nb + 1, x.nd, x.sn⟩ := by unfold ctStep; rw [hg]; rfl
    refine wpIn_seq (wpIn_block ?_)
    refine wpIn_seq (region_l 3 (wideF_round _ _) (by kernel_rfl) (by kernel_rfl) ?_)
    intro K hK
    refine ListK.move (i := 0) (v := .bool false) rfl (by simp [u8]) ?_
    refine ListK.un (i := 1) (u := .bool false) (v := .bool true) rfl (by simp [hz_a1]) (not4 _ _) ?_
    refine ListK.assign (i := 2) (v := .bool true) rfl (by simp [hz_a1]) ?_
    refine ListK.done (hK _ _ ?_)
    clear hK K
    refine wpIn_cond (t := true) (by simp [hz_a1]) ?_
    obtain ⟨i4, he4⟩ := i3.set (j := 1) (v := .int .i64 ((x.nb + 1 : Nat) : Int)) (y := ⟨x.ng, x.nb + 1, x.nd, x.sn⟩) (fun _ h => h) rfl
    generalize hA : Act.put _ _ _ = a2
    have hz_a2 : a2.tmps.size = 44 := by rw [← hA]; simp only [size_put, hz_a1]
    have v2 : a2.eval (.tmp 2) = .pointer (some ⟨b2, 0, none⟩) := by rw [← hA]; exact (by simp [u2])
    have v4 : a2.eval (.tmp 4) = .pointer (some ⟨b4, 0, none⟩) := by rw [← hA]; exact (by simp [u4])
    have v5 : a2.eval (.tmp 5) = .pointer (some ⟨b5, 0, none⟩) := by rw [← hA]; exact (by simp [u5])
    have v7 : a2.eval (.tmp 7) = .pointer (some ⟨b7, 0, none⟩) := by rw [← hA]; exact (by simp [u7])
    have hd_a2 : a2.defers = [] := by rw [← hA]; simp only [defers_put, hd_a1]
    clear hA
    refine wpIn_seq (region_l 5 (wideF_round _ _) (by kernel_rfl) (by kernel_rfl) ?_)
    intro K hK
    refine ListK.field (i := 0) (u := .pointer (some ⟨b4, 0, none⟩)) (v := .pointer (some ⟨b4, 1, none⟩)) rfl (by simp [v4]) (fa62_1 _) ?_
    refine ListK.load (i := 1) (p := ⟨b4, 1, none⟩) (v := .int .i64 (x.nb : Int)) rfl (by simp [hz_a2]) (ld3 (i3.w4.cell 1)) ?_
    refine ListK.bin (i := 2) (u := .int .i64 (x.nb : Int)) (u' := .int .i64 1) (v := .int .i64 ((x.nb + 1 : Nat) : Int)) rfl (by simp [hz_a2]) (by simp) (add3 (by omega) (by omega) _) ?_
    refine ListK.field (i := 3) (u := .pointer (some ⟨b4, 0, none⟩)) (v := .pointer (some ⟨b4, 1, none⟩)) rfl (by simp [v4]) (fa62_1 _) ?_
    refine ListK.store (i := 4) (u := .pointer (some ⟨b4, 1, none⟩)) (u' := .int .i64 ((x.nb + 1 : Nat) : Int)) rfl (by simp [hz_a2]) (by simp [hz_a2]) (st3 (i3.w4.cell 1) (i3.w4.frozen 1)) ?_
    refine ListK.done (hK _ _ (wpIn_exit ?_))
    refine hN _ _ (hst ▸ i4) ((Else.of_below _ hB3).trans (he4.mono (fun k _ e => .inl e)))
  | true =>
    rw [hg] at u8
    obtain rfl := hp hg
    refine wpIn_seq (wpIn_block ?_)
    refine wpIn_seq (region_l 3 (wideF_round _ _) (by kernel_rfl) (by kernel_rfl) ?_)
    intro K hK
    refine ListK.move (i := 0) (v := .bool true) rfl (by simp [u8]) ?_
    refine ListK.un (i := 1) (u := .bool true) (v := .bool false) rfl (by simp [hz_a1]) (not4 _ _) ?_
    refine ListK.assign (i := 2) (v := .bool false) rfl (by simp [hz_a1]) ?_
    refine ListK.done (hK _ _ ?_)
    clear hK K
    refine wpIn_cond (t := false) (by simp [hz_a1]) ?_
    generalize hA : Act.put _ _ _ = a2
    have hz_a2 : a2.tmps.size = 44 := by rw [← hA]; simp only [size_put, hz_a1]
    have v2 : a2.eval (.tmp 2) = .pointer (some ⟨b2, 0, none⟩) := by rw [← hA]; exact (by simp [u2])
    have v4 : a2.eval (.tmp 4) = .pointer (some ⟨b4, 0, none⟩) := by rw [← hA]; exact (by simp [u4])
    have v5 : a2.eval (.tmp 5) = .pointer (some ⟨b5, 0, none⟩) := by rw [← hA]; exact (by simp [u5])
    have v7 : a2.eval (.tmp 7) = .pointer (some ⟨b7, 0, none⟩) := by rw [← hA]; exact (by simp [u7])
    have hd_a2 : a2.defers = [] := by rw [← hA]; simp only [defers_put, hd_a1]
    clear hA
    have hlk := i3.mp.look kl102 (k7 [c0, c1, c2, c3, c4, c5, c6]) zv4
    rw [getK_seen (fun r hr => good_seven (i3.gd r hr)) rfl] at hlk
    have h12 : ∀ (y : Ct) (a3 : Act) (W4 : World), a3.tmps.size = 44 → a3.defers = [] → a3.eval (.tmp 2) = ptr b2 → a3.eval (.tmp 4) = ptr b4 → a3.eval (.tmp 5) = ptr b5 → a3.eval (.tmp 7) = ptr b7 → CtI W0 b2 b4 M b5 y W4 → Whole W4 b7 83 (r7 c0 c1 c2 c3 c4 c5 c6) → Else (fun k => k = b4 ∨ k = M) W1 W4 → y.ng = x.ng → y.sn = x.sn → y.nb = x.nb → ctStep x [c0, c1, c2, c3, c4, c5, c6] = ⟨y.ng + 1, y.nb, y.nd, if [c0, c1, c2, c3, c4, c5, c6] ∈ x.sn then x.sn else x.sn ++ [[c0, c1, c2, c3, c4, c5, c6]]⟩ →
        (Code.seq (.region 12 opsCt12 false) (.region 13 opsCt13 false)).wpIn (Fence.wide.inRound l) n Try.prog (Exit.inBlock 1 Q) a3 W4 := by
      intro y a3 W4 hz_a3 hd_a3 q2 q4 q5 q7 i4 w74 he4 hy1 hy2 hy3 hst
      obtain ⟨i5, he5⟩ := i4.set (j := 0) (v := .int .i64 ((y.ng + 1 : Nat) : Int)) (y := ⟨y.ng + 1, y.nb, y.nd, y.sn⟩) (fun _ h => h) rfl
      have w75 := he5.whole (by omega) w74
      refine wpIn_seq (region_l 5 (wideF_round _ _) (by kernel_rfl) (by kernel_rfl) ?_)
      intro K hK
      refine ListK.field (i := 0) (u := .pointer (some ⟨b4, 0, none⟩)) (v := .pointer (some ⟨b4, 0, none⟩)) rfl (by simp [q4]) (fa62_0 _) ?_
      refine ListK.load (i := 1) (p := ⟨b4, 0, none⟩) (v := .int .i64 (y.ng : Int)) rfl (by simp [hz_a3]) (ld3 (i4.w4.cell 0)) ?_
      refine ListK.bin (i := 2) (u := .int .i64 (y.ng : Int)) (u' := .int .i64 1) (v := .int .i64 ((y.ng + 1 : Nat) : Int)) rfl (by simp [hz_a3]) (by simp) (add3 (by omega) (by omega) _) ?_
      refine ListK.field (i := 3) (u := .pointer (some ⟨b4, 0, none⟩)) (v := .pointer (some ⟨b4, 0, none⟩)) rfl (by simp [q4]) (fa62_0 _) ?_
      refine ListK.store (i := 4) (u := .pointer (some ⟨b4, 0, none⟩)) (u' := .int .i64 ((y.ng + 1 : Nat) : Int)) rfl (by simp [hz_a3]) (by simp [hz_a3]) (st3 (i4.w4.cell 0) (i4.w4.frozen 0)) ?_
      refine ListK.done (hK _ _ ?_)
      clear hK K
      obtain ⟨W6, hput, i6, he6⟩ := i5.put hg
      generalize hA : Act.put _ _ _ = a4
      have hz_a4 : a4.tmps.size = 44 := by rw [← hA]; simp only [size_put, hz_a3]
      have r5 : a4.eval (.tmp 5) = .pointer (some ⟨b5, 0, none⟩) := by rw [← hA]; exact (by simp [q5])
      have r7 : a4.eval (.tmp 7) = .pointer (some ⟨b7, 0, none⟩) := by rw [← hA]; exact (by simp [q7])
      have hd_a4 : a4.defers = [] := by rw [← hA]; simp only [defers_put, hd_a3]
      clear hA
      refine region_l 3 (wideF_round _ _) (by kernel_rfl) (by kernel_rfl) ?_
      intro K hK
      refine ListK.load (i := 0) (p := ⟨b5, 0, none⟩) (v := .map (some M)) rfl (by simp [r5]) (ld102 (i5.w5.cell 0)) ?_
      refine ListK.load (i := 1) (p := ⟨b7, 0, none⟩) (v := rV c0 c1 c2 c3 c4 c5 c6) rfl (by simp [r7]) (ld83 w75) ?_
      refine ListK.mapUp (i := 2) (u := .map (some M)) (u' := rV c0 c1 c2 c3 c4 c5 c6) (u'' := .bool true) rfl (by simp [hz_a4]) (by simp [hz_a4]) (by simp) hput ?_
      refine ListK.done (hK _ _ ?_)
      clear hK K
      refine hN _ _ ?_ ((he4.trans (he5.mono (fun k _ e => .inl e))).trans (he6.mono (fun k _ e => .inr e)))
      rw [hst]
      have h6 := i6
      rw [hy2] at h6
      exact h6
    refine wpIn_seq (region_l 4 (wideF_round _ _) (by kernel_rfl) (by kernel_rfl) ?_)
    intro K hK
    refine ListK.load (i := 0) (p := ⟨b5, 0, none⟩) (v := .map (some M)) rfl (by simp [v5]) (ld102 (i3.w5.cell 0)) ?_
    refine ListK.load (i := 1) (p := ⟨b7, 0, none⟩) (v := rV c0 c1 c2 c3 c4 c5 c6) rfl (by simp [v7]) (ld83 w7) ?_
    refine ListK.look (i := 2) (u := .map (some M)) (u' := rV c0 c1 c2 c3 c4 c5 c6) (v := .bool (decide ([c0, c1, c2, c3, c4, c5, c6] ∈ x.sn))) rfl (by simp [hz_a2]) (by simp [hz_a2]) hlk ?_
    refine ListK.assign (i := 3) (v := .bool (decide ([c0, c1, c2, c3, c4, c5, c6] ∈ x.sn))) rfl (by simp [hz_a2]) ?_
    refine ListK.done (hK _ _ ?_)
    clear hK K
    generalize hA : Act.put _ _ _ = a3
    have hz_a3 : a3.tmps.size = 44 := by rw [← hA]; simp only [size_put, hz_a2]
    have s2 : a3.eval (.tmp 2) = .pointer (some ⟨b2, 0, none⟩) := by rw [← hA]; exact (by simp [v2])
    have s4 : a3.eval (.tmp 4) = .pointer (some ⟨b4, 0, none⟩) := by rw [← hA]; exact (by simp [v4])
    have s5 : a3.eval (.tmp 5) = .pointer (some ⟨b5, 0, none⟩) := by rw [← hA]; exact (by simp [v5])
    have s7 : a3.eval (.tmp 7) = .pointer (some ⟨b7, 0, none⟩) := by rw [← hA]; exact (by simp [v7])
    have s29 : a3.eval (.tmp 29) = .bool (decide ([c0, c1, c2, c3, c4, c5, c6] ∈ x.sn)) := by rw [← hA]; exact (by simp [hz_a2])
    have hd_a3 : a3.defers = [] := by rw [← hA]; simp only [defers_put, hd_a2]
    clear hA
    by_cases hin : [c0, c1, c2, c3, c4, c5, c6] ∈ x.sn
    · have hst : ctStep x [c0, c1, c2, c3, c4, c5, c6] = ⟨x.ng + 1, x.nb, x.nd + 1, if [c0, c1, c2, c3, c4, c5, c6] ∈ x.sn then x.sn else x.sn ++ [[c0, c1, c2, c3, c4, c5, c6]]⟩ := by unfold ctStep; rw [if_pos hg, if_pos hin, if_pos hin]
      rw [decide_eq_true hin] at s29
      refine wpIn_cond (t := true) s29 ?_
      obtain ⟨i4, he4⟩ := i3.set (j := 2) (v := .int .i64 ((x.nd + 1 : Nat) : Int)) (y := ⟨x.ng, x.nb, x.nd + 1, x.sn⟩) (fun _ h => h) rfl
      refine region_l 5 (wideF_round _ _) (by kernel_rfl) (by kernel_rfl) ?_
      intro K hK
      refine ListK.field (i := 0) (u := .pointer (some ⟨b4, 0, none⟩)) (v := .pointer (some ⟨b4, 2, none⟩)) rfl (by simp [s4]) (fa62_2 _) ?_
      refine ListK.load (i := 1) (p := ⟨b4, 2, none⟩) (v := .int .i64 (x.nd : Int)) rfl (by simp [hz_a3]) (ld3 (i3.w4.cell 2)) ?_
      refine ListK.bin (i := 2) (u := .int .i64 (x.nd : Int)) (u' := .int .i64 1) (v := .int .i64 ((x.nd + 1 : Nat) : Int)) rfl (by simp [hz_a3]) (by simp) (add3 (by omega) (by omega) _) ?_
      refine ListK.field (i := 3) (u := .pointer (some ⟨b4, 0, none⟩)) (v := .pointer (some ⟨b4, 2, none⟩)) rfl (by simp [s4]) (fa62_2 _) ?_
      refine ListK.store (i := 4) (u := .pointer (some ⟨b4, 2, none⟩)) (u' := .int .i64 ((x.nd + 1 : Nat) : Int)) rfl (by simp [hz_a3]) (by simp [hz_a3]) (st3 (i3.w4.cell 2) (i3.w4.frozen 2)) ?_
      refine ListK.done (hK _ _ ?_)
      clear hK K
      exact h12 ⟨x.ng, x.nb, x.nd + 1, x.sn⟩ _ _ (by simp only [size_put, hz_a3]) (by simp only [defers_put, hd_a3]) (by simp [s2]) (by simp [s4]) (by simp [s5]) (by simp [s7]) i4 (he4.whole (by omega) w7) ((Else.of_below _ hB3).trans (he4.mono (fun k _ e => .inl e))) rfl rfl rfl hst
    · have hst : ctStep x [c0, c1, c2, c3, c4, c5, c6] = ⟨x.ng + 1, x.nb, x.nd, if [c0, c1, c2, c3, c4, c5, c6] ∈ x.sn then x.sn else x.sn ++ [[c0, c1, c2, c3, c4, c5, c6]]⟩ := by unfold ctStep; rw [if_pos hg, if_neg hin, if_neg hin]
      rw [decide_eq_false hin] at s29
      refine wpIn_cond (t := false) s29 (wpIn_skip ?_)
      exact h12 x _ _ hz_a3 hd_a3 s2 s4 s5 s7 i3 w7 (Else.of_below _ hB3) rfl rfl rfl hst
end
end Go.Proofs.YtmdlmmfbcnkanaaR
namespace Go.Proofs.YtmdlmmfbcnkanaaR
open Go.RowKit Go.Shelf
theorem pieces_len : ∀ (l acc : List UInt8), (pieces acc l).length ≤ l.length
  | [], acc => by simp [pieces]
  | b :: l, acc => by
    unfold pieces
    split
    · have := pieces_len l []
      simp only [List.length_cons]
      omega
    · have := pieces_len l (acc ++ [b])
      simp only [List.length_cons]
      omega
def countR (l : List UInt8) : Ct × Int := if 4000 < l.length then (⟨0, 0, 0, []⟩, 3) else (ctAll (pieces [] l), 0)
def CtP (W0 : World) (l : List UInt8) : Ending → World → Prop := fun e w' => e = .returned (.tuple #[.agg (c62 (countR l).1.ng (countR l).1.nb (countR l).1.nd), .int .i64 (countR l).2]) ∧ Below W0.heap.size W0 w'
section
variable {W0 : World} {b2 b4 M b5 : Nat}
set_option maxHeartbeats 400000 in
theorem ct_range_any {c bb : Nat} {A : Option Addr} {l : List UInt8} {a : Act} {W : World} {Q : Exit → Act → World → Prop} (hl : l.length ≤ 4000) (hc : l.length ≤ c) (hs : BytesAt W0 W0.heap.size A l)
    (hsz : a.tmps.size = 44) (t2 : a.eval (.tmp 2) = ptr b2) (t4 : a.eval (.tmp 4) = ptr b4) (t5 : a.eval (.tmp 5) = ptr b5) (t15 : a.eval (.tmp 15) = .func (.func 85) #[] #[ptr bb])
    (wb : Whole W bb 31 #[.slice A l.length c]) (hbb : b5 < bb) (i : CtI W0 b2 b4 M b5 ⟨0, 0, 0, []⟩ W)
    (hN : ∀ D W', W.heap.size ≤ D → CtI W0 b2 b4 M b5 (ctAll (pieces [] l)) W' → W'.heap[D]? = some (.deferred (some [])) → Q .normal { a with defers := mark D :: a.defers } W') :
    ct_range.wpIn Fence.wide 5 Try.prog Q a W := by
  obtain ⟨o1, o2, o3, o4⟩ := i.ord
  have hlt5 := i.lt
  have hltb := wb.lt
  have hpl := pieces_len l []
  obtain ⟨ps, hps⟩ : ∃ ps, ps = pieces [] l := ⟨_, rfl⟩
  rw [← hps] at hpl hN
  unfold ct_range
  refine range_ix (bb := bb) (N := ps.length) (Z := fun W => BytesAt W W0.heap.size A l) rfl (by omega) t15 trivial (enters_of Try.func85 (by kernel_rfl) rfl) (by rw [hps]; exact pieces_it 4 A c W0.heap.size bb l (by omega) hc W wb) (Below.refl _ _) wb.lt (fun i => rfl)
    (fun j W' => CtI W0 b2 b4 M b5 ((ps.take j).foldl ctStep ⟨0, 0, 0, []⟩) W' ∧ W.heap.size ≤ W'.heap.size) (fun _ _ _ => False) ?_ ?_ ?_ ⟨i, Nat.le_refl _⟩
    (fun j a' _ => (a'.tmps.size = 44 ∧ a'.eval (.tmp 2) = ptr b2 ∧ a'.eval (.tmp 4) = ptr b4 ∧ a'.eval (.tmp 5) = ptr b5) ∧ a'.defers = [] ∧ a'.eval (.tmp 6) = .slice (adr A (posP ps j)) (ps[j]?.getD []).length (c - posP ps j)) (fun j a' _ _ _ _ h _ _ => h) ?_ ?_ ?_ ?_
  · rintro j X Y row ⟨h1, h3⟩ hg hr
    refine ⟨h1.else (Else.of_grown hg) (fun k hk e => ?_), Nat.le_trans h3 hg.size⟩
    rcases hr k e.symm with h | ⟨h, _⟩ <;> omega
  · rintro c' j X Y row h
    exact h.elim
  · rintro j X ⟨h2, _⟩
    exact hs.below h2.low (Nat.le_refl _)
  · intro ly j W1 K hj hi hK
    unfold ct_as
    have hv : encP A c l j = #[.slice (adr A (posP ps j)) (ps[j]?.getD []).length (c - posP ps j)] := by rw [hps]; rfl
    rw [hv, fold1]
    refine region_l 1 (wideF_round _ _) (by kernel_rfl) (by kernel_rfl) ?_
    intro KK hKK
    refine ListK.assign (i := 0) (v := .slice (adr A (posP ps j)) (ps[j]?.getD []).length (c - posP ps j)) rfl (by simp [Act.eval, hsz]) ?_
    refine ListK.done (hKK _ _ ?_)
    have hput : ∀ v : Value, (Act.mk (a.tmps.setIfInBounds 16 v) []) = (Act.mk a.tmps []).put (some 16) v := fun _ => rfl
    refine hK _ _ (KeepsFrom.refl _ _) rfl hi ⟨⟨?_, ?_, ?_, ?_⟩, rfl, ?_⟩
    · simp [Act.put, hsz]
    · rw [hput]
      rw [ev_ne (by omega), ev_ne (by omega)]
      exact t2
    · rw [hput]
      rw [ev_ne (by omega), ev_ne (by omega)]
      exact t4
    · rw [hput]
      rw [ev_ne (by omega), ev_ne (by omega)]
      exact t5
    · rw [ev_same (by simp [hsz])]
  · rintro ly j a' W1 hj ⟨h2, h3⟩ ⟨⟨f0, f2, f4, f5⟩, hdf', t6⟩
    have hp := List.getElem?_eq_getElem hj
    rw [hp] at t6
    have hpf := (pieces_find l j).2 ps[j] (by rw [← hps]; exact hp)
    rw [← hps] at hpf
    obtain ⟨_, hp2, _, hp4⟩ := hpf
    have hb1 : BytesAt W1 W1.heap.size (adr A (posP ps j)) ps[j] := by
      rw [hp2]
      exact ((((hs.below h2.low (Nat.le_refl _)).drop (k := posP ps j) (fun _ => rfl)).take _).more h2.low.size)
    have hXk : ∀ k, W.heap.size ≤ k → ¬ (k = b4 ∨ k = M) := fun k hk e => by omega
    have hle := ct_le (ps.take j) ⟨0, 0, 0, []⟩ (Nat.le_refl _)
    have htl : (ps.take j).length ≤ 4000 := by rw [List.length_take]; omega
    refine ct_body_any (by omega) hb1 (by simp only [Nat.zero_add] at hle; omega) f0 hdf' f2 f4 f5 t6 h2 (fun a2 W2 i2 he => ?_)
    refine ⟨KeepsFrom.of_else he hXk, he.block bb (by omega) (fun e => by omega), ?_, Nat.le_trans h3 he.size⟩
    have h1 : ps.take (j + 1) = ps.take j ++ [ps[j]] := by
      rw [List.take_add_one, hp]
      rfl
    rw [h1, List.foldl_append]
    exact i2
  · rintro D W1 hD ⟨h2, _⟩ hh
    rw [List.take_length] at h2
    exact hN D W1 hD h2 hh
  · rintro D c' j W1 hD _ h hh
    exact h.elim
end
set_option maxHeartbeats 400000 in
theorem count_any (A : Option Addr) (l : List UInt8) (c : Nat) (W : World) (hc : l.length ≤ c) (hs : BytesAt W W.heap.size A l) : Calls Try.prog 37 #[.slice A l.length c] W (CtP W l) := by
  refine (callsIn_wide (n := 5)).1 (callsIn_of_wp_marks Try.func37 body37 trivial ?_ rfl)
  obtain ⟨a, ha⟩ : ∃ a : Act, a = { tmps := #[.slice A l.length c] ++ Array.replicate (Try.f37.ntmps - (#[.slice A l.length c] : Array Value).size) undef, defers := [] } := ⟨_, rfl⟩
  have hsz : a.tmps.size = 44 := by rw [ha]; simp [Try.ntmps37]
  have t0 : a.eval (.tmp 0) = .slice A l.length c := by rw [ha]; simp [Act.eval]
  have hd_a : a.defers = [] := by rw [ha]
  rw [← ha]
  clear ha
  unfold code37
  refine wpIn_seq (region_p 2 ?_)
  intro K hK
  refine ListK.alloc (i := 0) rfl (al62 W) ?_
  refine ListK.assign (i := 1) (v := .int .i64 0) rfl (by simp) ?_
  refine ListK.done (hK _ _ ?_)
  clear hK K
  have hb0 : Below W.heap.size W (W.alloc (.cells #[.int .i64 0, .int .i64 0, .int .i64 0] 62)) := (Below.refl _ W).alloc (Nat.le_refl _) _
  have w2 := Whole.new W 62 #[.int .i64 0, .int .i64 0, .int .i64 0]
  generalize hq2 : W.heap.size = b2 at *
  generalize W.alloc (.cells #[.int .i64 0, .int .i64 0, .int .i64 0] 62) = W1 at *
  generalize hA : Act.put _ _ _ = a1
  have hz_a1 : a1.tmps.size = 44 := by rw [← hA]; simp only [size_put, hsz]
  have u0 : a1.eval (.tmp 0) = .slice A l.length c := by rw [← hA]; exact (by simp [t0])
  have u2 : a1.eval (.tmp 2) = .pointer (some ⟨b2, 0, none⟩) := by rw [← hA]; exact (by simp [hsz])
  have hd_a1 : a1.defers = [] := by rw [← hA]; simp only [defers_put, hd_a]
  clear hA
  by_cases hbig : 4000 < l.length
  · have hcr : countR l = (⟨0, 0, 0, []⟩, 3) := by unfold countR; rw [if_pos hbig]
    refine wpIn_seq (wpIn_seq (region_p 3 ?_))
    intro K hK
    refine ListK.move (i := 0) (v := .slice A l.length c) rfl (by simp [u0]) ?_
    refine ListK.len (i := 1) (u := .slice A l.length c) (v := .int .i64 l.length) rfl (by simp [hz_a1]) (ln31 _ _ _ _ _) rfl ?_
    refine ListK.bin (i := 2) (u := .int .i64 l.length) (u' := .int .i64 4000) (v := .bool true) rfl (by simp [hz_a1]) (by simp) (gtrT3 (by omega) _) ?_
    refine ListK.done (hK _ _ ?_)
    clear hK K
    refine wpIn_cond (t := true) (by simp [hz_a1]) ?_
    have he : Else (fun k => k = b2) W1 (((W1.setCell ⟨b2, 0, none⟩ (.int .i64 0)).setCell ⟨b2, 1, none⟩ (.int .i64 0)).setCell ⟨b2, 2, none⟩ (.int .i64 0)) := (((Else.refl (fun k => k = b2) W1).setCell (p := ⟨b2, 0, none⟩) (.inl rfl) _).setCell (p := ⟨b2, 1, none⟩) (.inl rfl) _).setCell (p := ⟨b2, 2, none⟩) (.inl rfl) _
    have w2' := ((w2.set 0 (.int .i64 0)).set 1 (.int .i64 0)).set 2 (.int .i64 0)
    refine wpIn_seq (region_p 3 ?_)
    intro K hK
    refine ListK.bld (i := 0) (ps := #[]) (v := .agg #[.int .i64 0, .int .i64 0, .int .i64 0]) rfl (by simp) (bd62_0 _) ?_
    refine ListK.store (i := 1) (u := .pointer (some ⟨b2, 0, none⟩)) (u' := .agg #[.int .i64 0, .int .i64 0, .int .i64 0]) rfl (by simp [u2]) (by simp [hz_a1]) (st62 w2) ?_
    refine ListK.assign (i := 2) (v := .int .i64 3) rfl (by simp) ?_
    refine ListK.done (hK _ _ (wpIn_ret ?_))
    show LeavesInM _ _ _ _ _ _ (Act.defers _) _ _
    rw [show (Act.defers _) = [] from (by simp only [defers_put, hd_a1])]
    have hB : Below b2 W (((W1.setCell ⟨b2, 0, none⟩ (.int .i64 0)).setCell ⟨b2, 1, none⟩ (.int .i64 0)).setCell ⟨b2, 2, none⟩ (.int .i64 0)) := hb0.trans (he.below (by have := hb0.size; omega) (fun k hk e => by omega))
    refine ⟨.tuple #[.agg #[.int .i64 0, .int .i64 0, .int .i64 0], .int .i64 3], res62b Try.results37 (by simp [u2]) (by simp [hz_a1]) w2', by rw [hcr]; rfl, by rw [hq2]; exact hB⟩
  · have hcr : countR l = (ctAll (pieces [] l), 0) := by unfold countR; rw [if_neg hbig]
    refine wpIn_seq (wpIn_seq (region_p 3 ?_))
    intro K hK
    refine ListK.move (i := 0) (v := .slice A l.length c) rfl (by simp [u0]) ?_
    refine ListK.len (i := 1) (u := .slice A l.length c) (v := .int .i64 l.length) rfl (by simp [hz_a1]) (ln31 _ _ _ _ _) rfl ?_
    refine ListK.bin (i := 2) (u := .int .i64 l.length) (u' := .int .i64 4000) (v := .bool false) rfl (by simp [hz_a1]) (by simp) (gtrF3 (by omega) _) ?_
    refine ListK.done (hK _ _ ?_)
    clear hK K
    refine wpIn_cond (t := false) (by simp [hz_a1]) (wpIn_skip ?_)
    generalize hA : Act.put _ _ _ = a2
    have hz_a2 : a2.tmps.size = 44 := by rw [← hA]; simp only [size_put, hz_a1]
    have v0 : a2.eval (.tmp 0) = .slice A l.length c := by rw [← hA]; exact (by simp [u0])
    have v2 : a2.eval (.tmp 2) = .pointer (some ⟨b2, 0, none⟩) := by rw [← hA]; exact (by simp [u2])
    have hd_a2 : a2.defers = [] := by rw [← hA]; simp only [defers_put, hd_a1]
    clear hA
    refine wpIn_seq (region_p 1 ?_)
    intro K hK
    refine ListK.alloc (i := 0) rfl (al62 W1) ?_
    refine ListK.done (hK _ _ ?_)
    clear hK K
    have hs0 := hb0.size
    have hb1 : Below W1.heap.size W1 (W1.alloc (.cells #[.int .i64 0, .int .i64 0, .int .i64 0] 62)) := (Below.refl _ W1).alloc (Nat.le_refl _) _
    have hB1 := hb0.trans (hb1.mono (by omega))
    have hl2 := w2.lt
    replace w2 := w2.below hb1 w2.lt
    have w4 := Whole.new W1 62 #[.int .i64 0, .int .i64 0, .int .i64 0]
    generalize hq4 : W1.heap.size = b4 at *
    generalize W1.alloc (.cells #[.int .i64 0, .int .i64 0, .int .i64 0] 62) = W2 at *
    generalize hA : Act.put _ _ _ = a3
    have hz_a3 : a3.tmps.size = 44 := by rw [← hA]; simp only [size_put, hz_a2]
    have q0 : a3.eval (.tmp 0) = .slice A l.length c := by rw [← hA]; exact (by simp [v0])
    have q2 : a3.eval (.tmp 2) = .pointer (some ⟨b2, 0, none⟩) := by rw [← hA]; exact (by simp [v2])
    have q4 : a3.eval (.tmp 4) = .pointer (some ⟨b4, 0, none⟩) := by rw [← hA]; exact (by simp [hz_a2])
    have hd_a3 : a3.defers = [] := by rw [← hA]; simp only [defers_put, hd_a2]
    clear hA
    have hmp0 := MapAt.new (kv := kv7) W2
    refine wpIn_seq (region_p 3 ?_)
    intro K hK
    refine ListK.mkM (i := 0) rfl (mm102 W2) ?_
    refine ListK.alloc (i := 1) rfl (al102 (W2.alloc (.map #[] 0))) ?_
    refine ListK.store (i := 2) (u := .pointer (some ⟨(W2.alloc (.map #[] 0)).heap.size, 0, none⟩)) (u' := .map (some W2.heap.size)) rfl (by simp [hz_a3]) (by simp [hz_a3]) (st102 ((Whole.new (W2.alloc (.map #[] 0)) 102 #[.map none]).cell 0) ((Whole.new (W2.alloc (.map #[] 0)) 102 #[.map none]).frozen 0)) ?_
    refine ListK.done (hK _ _ ?_)
    clear hK K
    have hs1 := hB1.size
    have hl4 := w4.lt
    have hbm : Below W2.heap.size W2 (W2.alloc (.map #[] 0)) := (Below.refl _ W2).alloc (Nat.le_refl _) _
    have hB2 := hB1.trans (hbm.mono (by omega))
    replace w2 := w2.below hbm w2.lt
    replace w4 := w4.below hbm w4.lt
    have hlM := hmp0.lt
    generalize hqM : W2.heap.size = M at *
    generalize W2.alloc (.map #[] 0) = W3 at *
    have hb5 : Below W3.heap.size W3 ((W3.alloc (.cells #[.map none] 102)).setCell ⟨W3.heap.size, 0, none⟩ (.map (some M))) := ((Below.refl _ W3).alloc (Nat.le_refl _) _).setCell (p := ⟨W3.heap.size, 0, none⟩) (Nat.le_refl _) _
    have hs2 := hB2.size
    have hB3 := hB2.trans (hb5.mono (by omega))
    replace w2 := w2.below hb5 w2.lt
    replace w4 := w4.below hb5 w4.lt
    have hmp := hmp0.keep (hb5.block M hlM)
    have w5 := (Whole.new W3 102 #[.map none]).set 0 (.map (some M))
    generalize hq5 : W3.heap.size = b5 at *
    generalize (W3.alloc (.cells #[.map none] 102)).setCell ⟨b5, 0, none⟩ (.map (some M)) = W4 at *
    have hl5 := w5.lt
    have hs3 := hB3.size
    have i4 : CtI W b2 b4 M b5 ⟨0, 0, 0, []⟩ W4 := ⟨by rw [hq2]; exact hB3, ⟨by omega, by omega, by omega, by omega⟩, w2, w4, w5, hmp, fun r hr => (List.not_mem_nil hr).elim⟩
    generalize hA : Act.put _ _ _ = a4
    have hz_a4 : a4.tmps.size = 44 := by rw [← hA]; simp only [size_put, hz_a3]
    have r0 : a4.eval (.tmp 0) = .slice A l.length c := by rw [← hA]; exact (by simp [q0])
    have r2 : a4.eval (.tmp 2) = .pointer (some ⟨b2, 0, none⟩) := by rw [← hA]; exact (by simp [q2])
    have r4 : a4.eval (.tmp 4) = .pointer (some ⟨b4, 0, none⟩) := by rw [← hA]; exact (by simp [q4])
    have r5 : a4.eval (.tmp 5) = .pointer (some ⟨b5, 0, none⟩) := by rw [← hA]; exact (by simp [hz_a3])
    have hd_a4 : a4.defers = [] := by rw [← hA]; simp only [defers_put, hd_a3]
    clear hA
    refine wpIn_seq (wpIn_seq (region_p 2 ?_))
    intro K hK
    refine ListK.move (i := 0) (v := .slice A l.length c) rfl (by simp [r0]) ?_
    refine ListK.call (i := 1) (vs := #[.slice A l.length c]) rfl (enters_of Try.func66 (by kernel_rfl) rfl) (by simp [hz_a4]) ((pieces_any A l.length c W4).mono ?_)
    rintro _ W5 ⟨rfl, rfl⟩
    refine ⟨_, rfl, ?_⟩
    refine ListK.done (hK _ _ ?_)
    clear hK K
    have hb6 : Below W4.heap.size W4 (W4.alloc (.cells #[.slice A l.length c] 31)) := (Below.refl _ W4).alloc (Nat.le_refl _) _
    have i5 := i4.below hb6
    have wb := Whole.new W4 31 #[.slice A l.length c]
    generalize hA : Act.put _ _ _ = a5
    have hz_a5 : a5.tmps.size = 44 := by rw [← hA]; simp only [size_put, hz_a4]
    have p2 : a5.eval (.tmp 2) = .pointer (some ⟨b2, 0, none⟩) := by rw [← hA]; exact (by simp [r2])
    have p4 : a5.eval (.tmp 4) = .pointer (some ⟨b4, 0, none⟩) := by rw [← hA]; exact (by simp [r4])
    have p5 : a5.eval (.tmp 5) = .pointer (some ⟨b5, 0, none⟩) := by rw [← hA]; exact (by simp [r5])
    have p15 : a5.eval (.tmp 15) = .func (.func 85) #[] #[ptr W4.heap.size] := by rw [← hA]; exact (by simp [hz_a4])
    have hd_a5 : a5.defers = [] := by rw [← hA]; simp only [defers_put, hd_a4]
    clear hA
    refine wpIn_block (ct_range_any (by omega) hc (by rw [hq2]; exact hs) hz_a5 p2 p4 p5 p15 wb hl5 i5 (fun D W6 hD i6 hh => ?_))
    obtain ⟨o1, o2, o3, o4⟩ := i6.ord
    show (Code.wpIn _ _ _ ct_e _ _ _)
    have hd_a6 : ({ a5 with defers := mark D :: a5.defers } : Act).defers = [mark D] := by simp [hd_a5]
    have z5 : ({ a5 with defers := mark D :: a5.defers } : Act).tmps.size = 44 := hz_a5
    have y2 : ({ a5 with defers := mark D :: a5.defers } : Act).eval (.tmp 2) = ptr b2 := p2
    have y4 : ({ a5 with defers := mark D :: a5.defers } : Act).eval (.tmp 4) = ptr b4 := p4
    generalize ({ a5 with defers := mark D :: a5.defers } : Act) = a6 at *
    unfold ct_e
    generalize hx : ctAll (pieces [] l) = x at *
    have he : Else (fun k => k = b2) W6 (((W6.setCell ⟨b2, 0, none⟩ (.int .i64 (x.ng : Int))).setCell ⟨b2, 1, none⟩ (.int .i64 (x.nb : Int))).setCell ⟨b2, 2, none⟩ (.int .i64 (x.nd : Int))) := (((Else.refl (fun k => k = b2) W6).setCell (p := ⟨b2, 0, none⟩) (.inl rfl) _).setCell (p := ⟨b2, 1, none⟩) (.inl rfl) _).setCell (p := ⟨b2, 2, none⟩) (.inl rfl) _
    have w2' := ((i6.w2.set 0 (.int .i64 (x.ng : Int))).set 1 (.int .i64 (x.nb : Int))).set 2 (.int .i64 (x.nd : Int))
    refine wpIn_seq (region_p 3 ?_)
    intro K hK
    refine ListK.load (i := 0) (p := ⟨b4, 0, none⟩) (v := .agg (c62 x.ng x.nb x.nd)) rfl (by simp [y4]) (ld62 ⟨i6.w4.cell 0, i6.w4.cell 1, i6.w4.cell 2⟩) ?_
    refine ListK.store (i := 1) (u := .pointer (some ⟨b2, 0, none⟩)) (u' := .agg (c62 x.ng x.nb x.nd)) rfl (by simp [y2]) (by simp [z5]) (st62 i6.w2) ?_
    refine ListK.assign (i := 2) (v := .int .i64 0) rfl (by simp) ?_
    refine ListK.done (hK _ _ (wpIn_ret ?_))
    have hB7 := i6.low.trans (he.below i6.low.size (fun k hk e => by omega))
    generalize ((W6.setCell ⟨b2, 0, none⟩ (.int .i64 (x.ng : Int))).setCell ⟨b2, 1, none⟩ (.int .i64 (x.nb : Int))).setCell ⟨b2, 2, none⟩ (.int .i64 (x.nd : Int)) = W7 at *
    have hmk : Mk (b5 + 1) [D] W7 := (Mk.nil _ _).cons (by have := hb6.size; omega) ((he.block D (Array.getElem?_eq_some_iff.1 hh).1 (by have := hb6.size; omega)).trans hh) (fun _ h => (List.not_mem_nil h).elim)
    show LeavesInM _ _ _ _ _ _ (Act.defers _) _ _
    rw [show (Act.defers _) = [D].map mark from by simp only [defers_put, hd_a6, List.map_cons, List.map_nil]]
    refine leaves_marks2 (h := b5 + 1) (v := .tuple #[.agg (c62 x.ng x.nb x.nd), .int .i64 0]) (fun w => Below W.heap.size W w ∧ Whole w b2 62 (c62 x.ng x.nb x.nd)) ?_ ?_ ?_ [D] W7 hmk ⟨hB7, w2'⟩
    · rintro W' D' hD' _ ⟨h1, h2⟩
      exact ⟨below_put_mark h1 (by omega) _, (World.putObj_heap_other (by omega)).trans h2⟩
    · rintro W' ⟨_, h2⟩
      exact res62b Try.results37 (by simp [y2]) (by simp [z5]) h2
    · rintro W' ⟨h1, _⟩
      exact ⟨by rw [hcr], h1⟩
end Go.Proofs.YtmdlmmfbcnkanaaR
namespace Go.Proofs.YtmdlmmfbcnkanaaR

/-- A list without doubles, behind what there is. -/
def withoutL : List (List UInt8) → List (List UInt8) → List (List UInt8)
  | out, [] => out
  | out, p :: l => withoutL (if p ∈ out then out else out ++ [p]) l
theorem ct_all : ∀ (ps : List (List UInt8)) (x : Ct), x.nd + x.sn.length = x.ng →
    (ps.foldl ctStep x).ng = x.ng + (ps.filter isGood).length ∧ (ps.foldl ctStep x).nb + (ps.filter isGood).length = x.nb + ps.length ∧ (ps.foldl ctStep x).sn = withoutL x.sn (ps.filter isGood) ∧ (ps.foldl ctStep x).nd + (ps.foldl ctStep x).sn.length = (ps.foldl ctStep x).ng
  | [], x, h => ⟨by simp, by simp, by simp [withoutL], h⟩
  | p :: ps, x, h => by
    rw [List.foldl_cons]
    by_cases hg : isGood p = true
    · by_cases hi : p ∈ x.sn
      · have e : ctStep x p = ⟨x.ng + 1, x.nb, x.nd + 1, x.sn⟩ := by unfold ctStep; rw [if_pos hg, if_pos hi]
        have ih := ct_all ps (ctStep x p) (by rw [e]; simp only; omega)
        rw [e] at ih ⊢
        rw [List.filter_cons_of_pos hg, withoutL, if_pos hi]
        simp only [List.length_cons] at ih ⊢
        refine ⟨by omega, by omega, ih.2.2.1, ih.2.2.2⟩
      · have e : ctStep x p = ⟨x.ng + 1, x.nb, x.nd, x.sn ++ [p]⟩ := by unfold ctStep; rw [if_pos hg, if_neg hi]
        have ih := ct_all ps (ctStep x p) (by rw [e]; simp only [List.length_append, List.length_cons, List.length_nil]; omega)
        rw [e] at ih ⊢
        rw [List.filter_cons_of_pos hg, withoutL, if_neg hi]
        simp only [List.length_cons] at ih ⊢
        refine ⟨by omega, by omega, ih.2.2.1, ih.2.2.2⟩
    · have e : ctStep x p = ⟨x.ng, x.nb + 1, x.nd, x.sn⟩ := by unfold ctStep; rw [if_neg hg]
      have ih := ct_all ps (ctStep x p) (by rw [e]; exact h)
      rw [e] at ih ⊢
      rw [List.filter_cons_of_neg hg]
      simp only [List.length_cons] at ih ⊢
      refine ⟨by omega, by omega, ih.2.2.1, ih.2.2.2⟩
theorem counts_is {l : List UInt8} (h : l.length ≤ 4000) : (countR l).2 = 0 ∧ (countR l).1.ng = (goods l).length ∧ (countR l).1.nb + (goods l).length = (pieces [] l).length ∧ (countR l).1.nd + (withoutL [] (goods l)).length = (goods l).length := by
  have ht := ct_all (pieces [] l) ⟨0, 0, 0, []⟩ rfl
  unfold countR
  rw [if_neg (by omega)]
  simp only [ctAll] at ht ⊢
  obtain ⟨h1, h2, h3, h4⟩ := ht
  rw [h3] at h4
  refine ⟨trivial, ?_, ?_, ?_⟩
  · rw [h1]; simp [goods]
  · simpa [goods] using h2
  · rw [h1] at h4
    simpa [goods] using h4
end Go.Proofs.YtmdlmmfbcnkanaaR
namespace Go.Proofs.YtmdlmmfbcnkanaaR
open Go.RowKit Go.Shelf
section
attribute [local irreducible] AnyK StepK
end
section
attribute [local irreducible] AnyK StepK
variable {c0 c1 c2 c3 c4 c5 c6 : UInt8}
end
end Go.Proofs.YtmdlmmfbcnkanaaR
namespace Go.Proofs.YtmdlmmfbcnkanaaR
open Go.RowKit Go.Shelf
theorem cv66 {n : Nat} (h : n < 65536) (w : World) : (convert 66 3 (.int .u16 (n : Int))).run Try.prog w = .ok (.int .i64 (n : Int)) w := by
  have h2 := IntWalk.i64_in (n : Int) (by omega)
  go_simp
theorem StrsAt.drop {w : World} {B b off : Nat} {L : List (List UInt8)} (k : Nat) (h : StrsAt w B (some ⟨b, off, none⟩) L) : StrsAt w B (some ⟨b, off + k, none⟩) (L.drop k) := by
  intro i l hl
  rw [List.getElem?_drop] at hl
  obtain ⟨b', o', e, h1, h2⟩ := h (k + i) l hl
  cases e
  exact ⟨b, off + k, rfl, h1, by rw [Nat.add_assoc]; exact h2⟩
theorem StrsAt.take {w : World} {B : Nat} {A : Option Addr} {L : List (List UInt8)} (k : Nat) (h : StrsAt w B A L) : StrsAt w B A (L.take k) := by
  intro i l hl
  rw [List.getElem?_take] at hl
  split at hl
  · exact h i l hl
  · cases hl
end Go.Proofs.YtmdlmmfbcnkanaaR
namespace Go.Proofs.YtmdlmmfbcnkanaaR
open Go.RowKit Go.Shelf
section
variable {ops : Array Oper} {K : Act → World → Prop} {Kp : Nat → World → World → Prop} {fuel d i : Nat} {listed : Array Bool} {a : Act} {w w' : World} {ty : TypeId} {pos : String} {aft : Array Edge} {v v2 v' : Value}
theorem StepK.app36 {s z : Operand} (hi : ops[i]? = some ⟨some d, .call { callee := .builtin .append, args := #[s, z], argTypes := #[36, 36] }, ty, pos, aft, none⟩) (hs : a.eval s = v) (hx : a.eval z = v2)
    (hr : (Builtin.append_ #[36, 36] ty #[v, v2]).run Try.prog w = .ok v' w') (hk : Kp i w w') (h : AnyK Try.prog ops K Kp fuel (listed.setIfInBounds i true) (a.put (some d) v') w') : StepK Try.prog ops K Kp fuel listed a w i := by
  unfold StepK opG
  simp only [hi]
  rw [if_pos (show Region.wanted _ _ = true from rfl)]
  simp [Oper.wp, execOp, resolve, invoke, builtin, hs, hx, hr, Oper.upon]
  exact ⟨hk, h⟩
end
/-- What is left of some records. -/
structure Tn (L : List (List UInt8)) (i : Nat) (T : List (List UInt8)) : Prop where
  sub : ∀ r, r ∈ T → r ∈ L
  hd : 0 < i → ∀ h, L[0]? = some h → h ∈ T
  len : T.length ≤ 2 * i
theorem Tn.skip {L : List (List UInt8)} {i : Nat} {T : List (List UInt8)} (t : Tn L i T) (hi : 0 < i) : Tn L (i + 1) T := ⟨t.sub, fun _ => t.hd hi, by have := t.len; omega⟩
theorem Tn.one {L : List (List UInt8)} {i : Nat} {T : List (List UInt8)} {l : List UInt8} (t : Tn L i T) (hl : L[i]? = some l) : Tn L (i + 1) (T ++ [l]) := by
  refine ⟨fun r hr => ?_, fun _ h hh => ?_, by have := t.len; simp; omega⟩
  · rcases List.mem_append.1 hr with hr | hr
    · exact t.sub r hr
    · simp at hr
      rw [hr]
      exact List.mem_of_getElem? hl
  · by_cases h0 : i = 0
    · subst h0
      rw [hl] at hh
      cases hh
      simp
    · exact List.mem_append_left _ (t.hd (by omega) h hh)
theorem Tn.two {L : List (List UInt8)} {i : Nat} {T : List (List UInt8)} {l : List UInt8} (t : Tn L i T) (hl : L[i]? = some l) : Tn L (i + 1) (T ++ [l, l]) := by
  have h1 := t.one hl
  refine ⟨fun r hr => h1.sub r (by simpa using hr), fun h0 h hh => by simpa using h1.hd h0 h hh, by have := t.len; simp; omega⟩
theorem WordsAt.below {w w' : World} {B : Nat} {A : Option Addr} {l : List Nat} (h : WordsAt w B A l) (hb : Below B w w') : WordsAt w' B A l := by
  intro k x hx
  obtain ⟨h1, b, off, e, h2, h3⟩ := h k x hx
  exact ⟨h1, b, off, e, h2, by rw [hb.cell (show Addr.block ⟨b, off + k, none⟩ < B from h2)]; exact h3⟩
theorem WordsAt.more {w : World} {B B' : Nat} {A : Option Addr} {l : List Nat} (h : WordsAt w B A l) (hb : B ≤ B') : WordsAt w B' A l := by
  intro k x hx
  obtain ⟨h1, b, off, e, h2, h3⟩ := h k x hx
  exact ⟨h1, b, off, e, Nat.lt_of_lt_of_le h2 hb, h3⟩
theorem StrsAt.wide {w : World} {B B' : Nat} {A : Option Addr} {L : List (List UInt8)} (h : StrsAt w B A L) (hb : B ≤ B') : StrsAt w B' A L := by
  intro i l hl
  obtain ⟨b, o, e1, e2, e3⟩ := h i l hl
  exact ⟨b, o, e1, Nat.lt_of_lt_of_le e2 hb, e3⟩
section
attribute [local irreducible] AnyK StepK
variable {L : List (List UInt8)} {A Aw : Option Addr} {c cw by_ : Nat} {lw : List Nat} {W : World}
end
end Go.Proofs.YtmdlmmfbcnkanaaR
namespace Go.Proofs.YtmdlmmfbcnkanaaR
open Go.RowKit Go.Shelf
section
attribute [local irreducible] AnyK StepK
variable {L O : List (List UInt8)} {W : World} {x : List UInt8} {c gb off i : Nat} {v : Value}
end
end Go.Proofs.YtmdlmmfbcnkanaaR
namespace Go.Proofs.YtmdlmmfbcnkanaaR
open Go.RowKit Go.Shelf
section
variable {s : Ser} {A : Option Addr} {c : Nat} {h : Head}
attribute [local irreducible] AnyK StepK
end
end Go.Proofs.YtmdlmmfbcnkanaaR
namespace Go.Proofs.YtmdlmmfbcnkanaaR
open Go.RowKit Go.Shelf
section
variable {s : Ser} {A : Option Addr} {c b3 ba M : Nat} {h : Head} {m : List (List UInt8)} {W0 : World}
attribute [local irreducible] AnyK StepK
end
end Go.Proofs.YtmdlmmfbcnkanaaR
namespace Go.Proofs.YtmdlmmfbcnkanaaR
open Go.RowKit Go.Shelf
section
variable {s : Ser} {A : Option Addr} {c b3 ba M : Nat} {h : Head} {m : List (List UInt8)} {W0 : World}
attribute [local irreducible] AnyK StepK
end
section
attribute [local irreducible] AnyK StepK
end
end Go.Proofs.YtmdlmmfbcnkanaaR
namespace Go.Proofs.YtmdlmmfbcnkanaaR

/-- A reading as a number. -/
def rdN (s : Ser) (i : Nat) : Nat := (s.rd.getD i 0).toNat
def smN (s : Ser) (b : Nat) : Nat := (sumB s b).toNat
def hdR (s : Ser) : List UInt8 := made 72 s.rd.length (10 * s.width.toNat + s.step.toNat)
def hdH (s : Ser) : Head := ⟨s.rd.length, s.width.toNat, s.step.toNat⟩
theorem mem_recsTo {s : Ser} : ∀ {k : Nat} {r : List UInt8}, r ∈ recsTo s k ↔ r = hdR s ∨ (∃ i, i < k ∧ r = made 82 i (rdN s i)) ∨ (∃ i, i < k ∧ closesB s.rd.length s.width i = true ∧ r = made 80 (i / s.width.toNat) (smN s (i / s.width.toNat)))
  | 0, r => by simp [recsTo, hdR]
  | k + 1, r => by
    unfold recsTo
    rw [List.mem_append, List.mem_append, mem_recsTo (k := k)]
    constructor
    · rintro (((h | ⟨i, h1, h2⟩ | ⟨i, h1, h2, h3⟩) | h) | h)
      · exact .inl h
      · exact .inr (.inl ⟨i, by omega, h2⟩)
      · exact .inr (.inr ⟨i, by omega, h2, h3⟩)
      · simp at h
        exact .inr (.inl ⟨k, by omega, h⟩)
      · split at h
        · rename_i hc
          simp at h
          exact .inr (.inr ⟨k, by omega, hc, h⟩)
        · simp at h
    · rintro (h | ⟨i, h1, h2⟩ | ⟨i, h1, h2, h3⟩)
      · exact .inl (.inl (.inl h))
      · by_cases e : i = k
        · subst e
          exact .inl (.inr (List.mem_singleton.2 h2))
        · exact .inl (.inl (.inr (.inl ⟨i, by omega, h2⟩)))
      · by_cases e : i = k
        · subst e
          refine .inr ?_
          rw [if_pos h2]
          exact List.mem_singleton.2 h3
        · exact .inl (.inl (.inr (.inr ⟨i, by omega, h2, h3⟩)))
/-- What a valid series is like, in numbers. -/
structure SerN (s : Ser) : Prop where
  len : 1 ≤ s.rd.length ∧ s.rd.length ≤ 40
  wd : 2 ≤ s.width.toNat ∧ s.width.toNat ≤ 8 ∧ s.width = (s.width.toNat : Int)
  st : 1 ≤ s.step.toNat ∧ s.step.toNat ≤ 9 ∧ s.step = (s.step.toNat : Int)
  rd : ∀ i, i < s.rd.length → rdN s i ≤ 99 ∧ s.rd[i]? = some (rdN s i : Int)
  sm : ∀ b, smN s b ≤ 99 ∧ sumB s b = (smN s b : Int)
  near : ∀ i, i + 1 < s.rd.length → rdN s (i + 1) ≤ rdN s i + s.step.toNat ∧ rdN s i ≤ rdN s (i + 1) + s.step.toNat
theorem serN {s : Ser} (hf : faultS s = 0) : SerN s := by
  obtain ⟨h1, h2, h3, h4, h5⟩ := ser_valid hf
  have hrd : ∀ i, i < s.rd.length → rdN s i ≤ 99 ∧ s.rd[i]? = some (rdN s i : Int) := by
    intro i hi
    have e := List.getElem?_eq_getElem hi
    have := h4 i _ e
    have hg : rdN s i = s.rd[i].toNat := by simp [rdN, hi]
    refine ⟨by omega, ?_⟩
    rw [e, hg]
    congr 1
    omega
  refine ⟨h1, ⟨by omega, by omega, by omega⟩, ⟨by omega, by omega, by omega⟩, hrd, fun b => ?_, fun i hi => ?_⟩
  · have : 0 ≤ sumB s b ∧ sumB s b ≤ 99 := by unfold sumB; omega
    unfold smN
    omega
  · have := (nearL_iff _ _).1 h5 i _ _ hi (hrd i (by omega)).2 (hrd (i + 1) hi).2
    unfold nearB at this
    rw [inR_iff] at this
    omega
theorem div_le40 {s : Ser} (n : SerN s) {i : Nat} (hi : i < s.rd.length) : i / s.width.toNat ≤ 40 := by
  have := Nat.div_le_self i s.width.toNat
  have := n.len
  omega
theorem hdR_ok {s : Ser} (n : SerN s) : isGood (hdR s) = true ∧ nameOf (hdR s) = (72, 0) ∧ headOf (hdR s) = hdH s ∧ (10 : UInt8) ∉ hdR s := by
  have h1 := n.len
  have h2 := n.wd
  have h3 := n.st
  have hb : 10 * s.width.toNat + s.step.toNat ≤ 99 := by omega
  refine ⟨made_good (.inl rfl) (by omega) hb (fun _ => headOk_iff.2 ⟨by omega, by omega, by omega⟩), ?_, made_head (by omega) (by omega) (by omega), made_no10 (by decide) (by omega) hb⟩
  unfold hdR
  rw [made_name (by omega), if_pos rfl]
theorem recR_ok {s : Ser} (n : SerN s) {i : Nat} (hi : i < s.rd.length) : isGood (made 82 i (rdN s i)) = true ∧ nameOf (made 82 i (rdN s i)) = (82, i) ∧ valOf (made 82 i (rdN s i)) = rdN s i ∧ (10 : UInt8) ∉ made 82 i (rdN s i) := by
  have h1 := n.len
  have h2 := (n.rd i hi).1
  refine ⟨made_good (.inr (.inl rfl)) (by omega) h2 (fun h => by cases h), ?_, made_val h2, made_no10 (by decide) (by omega) h2⟩
  rw [made_name (by omega), if_neg (by decide)]
theorem recP_ok {s : Ser} (n : SerN s) {b : Nat} (hb : b ≤ 40) : isGood (made 80 b (smN s b)) = true ∧ nameOf (made 80 b (smN s b)) = (80, b) ∧ valOf (made 80 b (smN s b)) = smN s b ∧ (10 : UInt8) ∉ made 80 b (smN s b) := by
  have h2 := (n.sm b).1
  refine ⟨made_good (.inr (.inr rfl)) (by omega) h2 (fun h => by cases h), ?_, made_val h2, made_no10 (by decide) (by omega) h2⟩
  rw [made_name (by omega), if_neg (by decide)]
theorem file_ok {s : Ser} (n : SerN s) {r : List UInt8} (hr : r ∈ fileL s) : isGood r = true ∧ (10 : UInt8) ∉ r := by
  rcases mem_recsTo.1 hr with rfl | ⟨i, h1, rfl⟩ | ⟨i, h1, _, rfl⟩
  · exact ⟨(hdR_ok n).1, (hdR_ok n).2.2.2⟩
  · exact ⟨(recR_ok n h1).1, (recR_ok n h1).2.2.2⟩
  · exact ⟨(recP_ok n (div_le40 n h1)).1, (recP_ok n (div_le40 n h1)).2.2.2⟩
theorem file_func {s : Ser} (n : SerN s) : Func (fileL s) := by
  intro a b ha hb he
  rcases mem_recsTo.1 ha with rfl | ⟨i, h1, rfl⟩ | ⟨i, h1, _, rfl⟩ <;> rcases mem_recsTo.1 hb with rfl | ⟨j, h2, rfl⟩ | ⟨j, h2, _, rfl⟩
  · rfl
  · rw [(hdR_ok n).2.1, (recR_ok n h2).2.1] at he
    cases he
  · rw [(hdR_ok n).2.1, (recP_ok n (div_le40 n h2)).2.1] at he
    cases he
  · rw [(hdR_ok n).2.1, (recR_ok n h1).2.1] at he
    cases he
  · rw [(recR_ok n h1).2.1, (recR_ok n h2).2.1] at he
    simp at he
    rw [he]
  · rw [(recR_ok n h1).2.1, (recP_ok n (div_le40 n h2)).2.1] at he
    cases he
  · rw [(hdR_ok n).2.1, (recP_ok n (div_le40 n h1)).2.1] at he
    cases he
  · rw [(recP_ok n (div_le40 n h1)).2.1, (recR_ok n h2).2.1] at he
    cases he
  · rw [(recP_ok n (div_le40 n h1)).2.1, (recP_ok n (div_le40 n h2)).2.1] at he
    simp at he
    rw [he]
/-- What is read of some records of a file. -/
structure RdM (s : Ser) (m : List (List UInt8)) : Prop where
  sub : ∀ r, r ∈ m → r ∈ fileL s
  hd : hdR s ∈ m
theorem RdM.func {s : Ser} {m : List (List UInt8)} (h : RdM s m) (n : SerN s) : Func m := (file_func n).of_sub h.sub
theorem RdM.out {s : Ser} {m : List (List UInt8)} (h : RdM s m) (n : SerN s) : m.any (outOf (hdH s)) = false := by
  rw [List.any_eq_false]
  intro r hr
  have hw := n.wd
  rcases mem_recsTo.1 (h.sub r hr) with rfl | ⟨i, h1, rfl⟩ | ⟨i, h1, _, rfl⟩
  · simp [outOf, (hdR_ok n).2.1]
  · simp [outOf, (recR_ok n h1).2.1, hdH, h1]
  · have hd : i / s.width.toNat < (s.rd.length + s.width.toNat - 1) / s.width.toNat := by
      have h2 : i / s.width.toNat + 1 ≤ (s.rd.length + s.width.toNat - 1) / s.width.toNat := by
        rw [Nat.le_div_iff_mul_le (by omega), Nat.add_mul, Nat.one_mul]
        have := Nat.div_mul_le_self i s.width.toNat
        omega
      omega
    simp [outOf, (recP_ok n (div_le40 n h1)).2.1, hdH, Head.blocks, hd]
end Go.Proofs.YtmdlmmfbcnkanaaR
namespace Go.Proofs.YtmdlmmfbcnkanaaR

end Go.Proofs.YtmdlmmfbcnkanaaR
namespace Go.Proofs.YtmdlmmfbcnkanaaR

theorem recsTo_zero (s : Ser) : ∀ k, (recsTo s k)[0]? = some (hdR s)
  | 0 => rfl
  | k + 1 => by
    have h := recsTo_zero s k
    have hp : 0 < (recsTo s k).length := by
      rcases Nat.eq_zero_or_pos (recsTo s k).length with h0 | h0
      · rw [List.eq_nil_of_length_eq_zero h0] at h
        cases h
      · exact h0
    unfold recsTo
    rw [List.getElem?_append_left (by simp), List.getElem?_append_left hp]
    exact h
/-- What is left of a file. -/
structure TornF (s : Ser) (T : List (List UInt8)) : Prop where
  sub : ∀ r, r ∈ T → r ∈ fileL s
  hd : hdR s ∈ T
  len : T.length ≤ 162
  bytes : (linesL T).length = 8 * T.length
theorem file_len {s : Ser} (n : SerN s) : (fileL s).length ≤ 81 ∧ 0 < (fileL s).length := by
  have h1 := recsTo_len s s.rd.length
  have h2 := n.len
  have h3 := recsTo_zero s s.rd.length
  refine ⟨by unfold fileL; omega, ?_⟩
  rcases Nat.eq_zero_or_pos (fileL s).length with h0 | h0
  · unfold fileL at h0
    rw [List.eq_nil_of_length_eq_zero h0] at h3
    cases h3
  · exact h0
end Go.Proofs.YtmdlmmfbcnkanaaR
namespace Go.Proofs.YtmdlmmfbcnkanaaR

/-- Two lots of records that say the same but for a reading. -/
structure SameBut (h : Head) (m m' : List (List UInt8)) (k n : Nat) : Prop where
  other : ∀ j s x, j ≠ k → after h m' j s x = after h m j s x
  at_ : ∀ s, after h m' k s n = after h m k s n
end Go.Proofs.YtmdlmmfbcnkanaaR
namespace Go.Proofs.YtmdlmmfbcnkanaaR

end Go.Proofs.YtmdlmmfbcnkanaaR
namespace Go.Proofs.YtmdlmmfbcnkanaaR
open Go.RowKit Go.Shelf
noncomputable def opsRy0 : Array Oper := (Try.f23.body.bind (regionOf 0)).getD #[]
noncomputable def opsRy1 : Array Oper := (Try.f23.body.bind (regionOf 1)).getD #[]
noncomputable def code23 : Code := (.seq (.region 0 opsRy0 false) (.seq (.region 1 opsRy1 false) .ret))
theorem body23 : Try.f23.body = some code23 := by kernel_rfl
/-- May a law play a series? -/
def readyB (s : Ser) : Bool := decide (s.rd.length ≤ 45) && decide (faultS s = 0)
theorem ready_any (s : Ser) (A : Option Addr) (c : Nat) (W : World) (hs : IntsAt W W.heap.size A s.rd) : Calls Try.prog 23 #[serV s A c] W (EvP W (.bool (readyB s))) := by
  refine (callsIn_wide (n := 5)).1 (callsIn_of_wp Try.func23 body23 trivial ?_ rfl)
  obtain ⟨a, ha⟩ : ∃ a : Act, a = { tmps := #[serV s A c] ++ Array.replicate (Try.f23.ntmps - (#[serV s A c] : Array Value).size) undef, defers := [] } := ⟨_, rfl⟩
  have hsz : a.tmps.size = 10 := by rw [ha]; simp [Try.ntmps23]
  have t0 : a.eval (.tmp 0) = serV s A c := by rw [ha]; simp [Act.eval]
  have hd_a : a.defers = [] := by rw [ha]
  rw [← ha]
  clear ha
  unfold code23
  refine wpIn_seq (region_p 2 ?_)
  intro K hK
  refine ListK.box (i := 0) (u := serV s A c) rfl (by simp [t0]) (bx24 W _ _ _ _ _) ?_
  refine ListK.assign (i := 1) (v := .bool false) rfl (by simp) ?_
  refine ListK.done (hK _ _ ?_)
  clear hK K
  replace hs : IntsAt (W.alloc (.cells #[.int .i64 s.width, .int .i64 s.step, .slice A s.rd.length c] 24)) W.heap.size A s.rd := hs.below ((Below.refl W.heap.size W).alloc (Nat.le_refl _) _) (Nat.le_refl _)
  have w1 := Whole.new W 24 #[.int .i64 s.width, .int .i64 s.step, .slice A s.rd.length c]
  have hb_b1 : Below W.heap.size W (W.alloc (.cells #[.int .i64 s.width, .int .i64 s.step, .slice A s.rd.length c] 24)) := (Below.refl _ W).alloc (Nat.le_refl _) _
  have hB := hb_b1
  generalize hq_b1 : W.heap.size = b1 at *
  generalize W.alloc (.cells #[.int .i64 s.width, .int .i64 s.step, .slice A s.rd.length c] 24) = W1 at *
  have hsz1 := hB.size
  replace hs := hs.more (show b1 ≤ W1.heap.size by omega)
  generalize hA : Act.put _ _ _ = a1
  have hz_a1 : a1.tmps.size = 10 := by rw [← hA]; simp only [size_put, hsz]
  have u1 : a1.eval (.tmp 1) = .pointer (some ⟨b1, 0, none⟩) := by rw [← hA]; exact (by simp [hsz])
  have hd_a1 : a1.defers = [] := by rw [← hA]; simp only [defers_put, hd_a]
  clear hA
  have hsh := short_any s A c W1
  by_cases h45 : s.rd.length ≤ 45
  · have hd : decide ((s.rd.length : Int) ≤ 45) = true := by simp; omega
    rw [hd] at hsh
    have hfa := fun (W2 : World) (hb : Below W1.heap.size W1 W2) => fault_any s A c W2 (by omega) ((hs.below hb (Nat.le_refl _)).more hb.size)
    have hwb := fun (W2 : World) (hb : Below W1.heap.size W1 W2) => w1.below hb w1.lt
    by_cases hf : faultS s = 0
    · skip
      refine wpIn_seq (region_p 8 ?_)
      intro K hK
      refine ListK.load (i := 0) (p := ⟨b1, 0, none⟩) (v := serV s A c) rfl (by simp [u1]) (ld24 ⟨w1.cell 0, w1.cell 1, w1.cell 2⟩) ?_
      refine ListK.call (i := 1) (vs := #[serV s A c]) rfl (enters_of Try.func15 (by kernel_rfl) rfl) (by simp [hz_a1]) ((hsh).mono ?_)
      rintro _ W2 ⟨rfl, hb2⟩
      replace w1 := hwb W2 hb2
      refine ⟨_, rfl, ?_⟩
      refine ListK.move (i := 2) (v := .bool true) rfl (by simp [hz_a1]) ?_
      refine ListK.load (i := 3) (p := ⟨b1, 0, none⟩) (v := serV s A c) rfl (by simp [u1]) (ld24 ⟨w1.cell 0, w1.cell 1, w1.cell 2⟩) ?_ (hw := wanted_g (e := 5) (b' := true) rfl (by simp [hz_a1]) rfl)
      refine ListK.call (i := 4) (vs := #[serV s A c]) rfl (enters_of Try.func20 (by kernel_rfl) rfl) (by simp [hz_a1]) ((hfa W2 hb2).mono ?_) (hw := wanted_g (e := 5) (b' := true) rfl (by simp [hz_a1]) rfl)
      rintro _ W3 ⟨rfl, hb3⟩
      refine ⟨_, rfl, ?_⟩
      refine ListK.bin (i := 5) (u := .int .i64 (faultS s)) (u' := .int .i64 0) (v := .bool true) rfl (by simp [hz_a1]) (by simp) (eql27T hf _) ?_ (hw := wanted_g (e := 5) (b' := true) rfl (by simp [hz_a1]) rfl)
      refine ListK.pick (i := 6) (b := true) (v := .bool true) rfl (by simp [hz_a1]) (by simp [hz_a1]) ?_
      refine ListK.assign (i := 7) (v := .bool true) rfl (by simp [hz_a1]) ?_
      refine ListK.done (hK _ _ (wpIn_ret ?_))
      refine bodyPost_ret (v := .bool true) (res1 Try.results23 (by simp [hz_a1])) (by simp only [defers_put, hd_a1]) ⟨by simp [readyB, h45, hf], ?_⟩
      rw [hq_b1]
      exact hB.trans ((hb2.trans (hb3.mono hb2.size)).mono (by omega))
    · skip
      refine wpIn_seq (region_p 8 ?_)
      intro K hK
      refine ListK.load (i := 0) (p := ⟨b1, 0, none⟩) (v := serV s A c) rfl (by simp [u1]) (ld24 ⟨w1.cell 0, w1.cell 1, w1.cell 2⟩) ?_
      refine ListK.call (i := 1) (vs := #[serV s A c]) rfl (enters_of Try.func15 (by kernel_rfl) rfl) (by simp [hz_a1]) ((hsh).mono ?_)
      rintro _ W2 ⟨rfl, hb2⟩
      replace w1 := hwb W2 hb2
      refine ⟨_, rfl, ?_⟩
      refine ListK.move (i := 2) (v := .bool true) rfl (by simp [hz_a1]) ?_
      refine ListK.load (i := 3) (p := ⟨b1, 0, none⟩) (v := serV s A c) rfl (by simp [u1]) (ld24 ⟨w1.cell 0, w1.cell 1, w1.cell 2⟩) ?_ (hw := wanted_g (e := 5) (b' := true) rfl (by simp [hz_a1]) rfl)
      refine ListK.call (i := 4) (vs := #[serV s A c]) rfl (enters_of Try.func20 (by kernel_rfl) rfl) (by simp [hz_a1]) ((hfa W2 hb2).mono ?_) (hw := wanted_g (e := 5) (b' := true) rfl (by simp [hz_a1]) rfl)
      rintro _ W3 ⟨rfl, hb3⟩
      refine ⟨_, rfl, ?_⟩
      refine ListK.bin (i := 5) (u := .int .i64 (faultS s)) (u' := .int .i64 0) (v := .bool false) rfl (by simp [hz_a1]) (by simp) (eql27F hf _) ?_ (hw := wanted_g (e := 5) (b' := true) rfl (by simp [hz_a1]) rfl)
      refine ListK.pick (i := 6) (b := true) (v := .bool false) rfl (by simp [hz_a1]) (by simp [hz_a1]) ?_
      refine ListK.assign (i := 7) (v := .bool false) rfl (by simp [hz_a1]) ?_
      refine ListK.done (hK _ _ (wpIn_ret ?_))
      refine bodyPost_ret (v := .bool false) (res1 Try.results23 (by simp [hz_a1])) (by simp only [defers_put, hd_a1]) ⟨by simp [readyB, hf], ?_⟩
      rw [hq_b1]
      exact hB.trans ((hb2.trans (hb3.mono hb2.size)).mono (by omega))
  · have hd : decide ((s.rd.length : Int) ≤ 45) = false := by simp; omega
    rw [hd] at hsh
    refine wpIn_seq (region_p 8 ?_)
    intro K hK
    refine ListK.load (i := 0) (p := ⟨b1, 0, none⟩) (v := serV s A c) rfl (by simp [u1]) (ld24 ⟨w1.cell 0, w1.cell 1, w1.cell 2⟩) ?_
    refine ListK.call (i := 1) (vs := #[serV s A c]) rfl (enters_of Try.func15 (by kernel_rfl) rfl) (by simp [hz_a1]) ((hsh).mono ?_)
    rintro _ W2 ⟨rfl, hb2⟩
    refine ⟨_, rfl, ?_⟩
    refine ListK.move (i := 2) (v := .bool false) rfl (by simp [hz_a1]) ?_
    refine ListK.passG (i := 3) (e := 5) (b' := false) rfl rfl (by simp [hz_a1]) rfl ?_
    refine ListK.passG (i := 4) (e := 5) (b' := false) rfl rfl (by simp [hz_a1]) rfl ?_
    refine ListK.passG (i := 5) (e := 5) (b' := false) rfl rfl (by simp [hz_a1]) rfl ?_
    refine ListK.pick (i := 6) (b := false) (v := .bool false) rfl (by simp [hz_a1]) (by simp) ?_
    refine ListK.assign (i := 7) (v := .bool false) rfl (by simp [hz_a1]) ?_
    refine ListK.done (hK _ _ (wpIn_ret ?_))
    refine bodyPost_ret (v := .bool false) (res1 Try.results23 (by simp [hz_a1])) (by simp only [defers_put, hd_a1]) ⟨by simp [readyB, h45], ?_⟩
    rw [hq_b1]
    exact hB.trans (hb2.mono (by omega))
section
attribute [local irreducible] AnyK StepK
variable {s : Ser} {T : List (List UInt8)} {r : List UInt8} {W : World}
end
end Go.Proofs.YtmdlmmfbcnkanaaR
namespace Go.Proofs.YtmdlmmfbcnkanaaR
open Go.RowKit Go.Shelf
section
attribute [local irreducible] AnyK StepK
variable {s : Ser} {T : List (List UInt8)} {W : World}
end
end Go.Proofs.YtmdlmmfbcnkanaaR
namespace Go.Proofs.YtmdlmmfbcnkanaaR
open Go.RowKit Go.Shelf
section
attribute [local irreducible] AnyK StepK
variable {s : Ser} {T : List (List UInt8)} {W : World}
end
end Go.Proofs.YtmdlmmfbcnkanaaR
namespace Go.Proofs.YtmdlmmfbcnkanaaR
open Go.RowKit Go.Shelf
section
attribute [local irreducible] AnyK StepK
variable {s : Ser} {T : List (List UInt8)} {W : World}
end
end Go.Proofs.YtmdlmmfbcnkanaaR
namespace Go.Proofs.YtmdlmmfbcnkanaaR
open Go.RowKit Go.Shelf
section
attribute [local irreducible] AnyK StepK
end
end Go.Proofs.YtmdlmmfbcnkanaaR
namespace Go.Proofs.YtmdlmmfbcnkanaaR

section
variable {s : Ser} (n : SerN s)
def nbS (s : Ser) (b : Nat) : Nat := min s.width.toNat (s.rd.length - b * s.width.toNat)
def recB (s : Ser) (b j : Nat) : List UInt8 := if j < nbS s b then made 82 (b * s.width.toNat + j) (rdN s (b * s.width.toNat + j)) else made 80 b (smN s b)
def blS (s : Ser) : Nat := (s.rd.length + s.width.toNat - 1) / s.width.toNat
def iB (s : Ser) (b : Nat) : Nat := if b * s.width.toNat < s.rd.length then 1 + b * (s.width.toNat + 1) else 1 + s.rd.length + blS s
include n
theorem closes_ser {k : Nat} (hk : k < s.rd.length) : closesB s.rd.length s.width k = true ↔ k + 1 = s.rd.length ∨ k % s.width.toNat = s.width.toNat - 1 := by
  have hw := n.wd
  unfold closesB
  obtain ⟨w, hwe⟩ : ∃ w, s.width.toNat = w := ⟨_, rfl⟩
  rw [hwe] at hw ⊢
  rw [hw.2.2]
  have e : ((k : Int) % ((w : Nat) : Int)) = ((k % w : Nat) : Int) := rfl
  rw [e, Bool.or_eq_true, beq_iff_eq, beq_iff_eq]
  omega
theorem bl_iff (b : Nat) : b < blS s ↔ b * s.width.toNat < s.rd.length := by
  have hw := n.wd
  unfold blS
  have h := Nat.le_div_iff_mul_le (x := b + 1) (y := s.rd.length + s.width.toNat - 1) (show 0 < s.width.toNat by omega)
  rw [Nat.add_mul] at h
  omega
theorem iB_next {b : Nat} (hb : b * s.width.toNat < s.rd.length) : iB s b + (nbS s b + 1) = iB s (b + 1) := by
  have hw := n.wd
  have e1 : b * (s.width.toNat + 1) = b * s.width.toNat + b := by rw [Nat.mul_add, Nat.mul_one]
  have e2 : (b + 1) * (s.width.toNat + 1) = b * s.width.toNat + b + s.width.toNat + 1 := by rw [Nat.add_mul, e1]; omega
  have e3 : (b + 1) * s.width.toNat = b * s.width.toNat + s.width.toNat := by rw [Nat.add_mul, Nat.one_mul]
  have hnb : nbS s b = min s.width.toNat (s.rd.length - b * s.width.toNat) := rfl
  unfold iB
  rw [if_pos hb, e1, e2, e3]
  split
  · omega
  · have h1 := bl_iff n b
    have h2 := bl_iff n (b + 1)
    rw [e3] at h2
    omega
end
/-- Some blocks of a file, of each of which one record at most is lost. -/
structure OneO (s : Ser) (b : Nat) (O : List (List UInt8)) : Prop where
  sub : ∀ r, r ∈ O → r ∈ fileL s
  hd : hdR s ∈ O
  len : O.length ≤ iB s b
  one : ∀ b', b' < b → ∃ k, ∀ j, j ≤ nbS s b' → j ≠ k → recB s b' j ∈ O
theorem OneO.torn {s : Ser} (n : SerN s) {b : Nat} {O : List (List UInt8)} (o : OneO s b O) (hb : iB s b ≤ 162) : TornF s O :=
  ⟨o.sub, o.hd, by have := o.len; omega, linesL_len (fun r hr => recsTo_seven s _ r (o.sub r hr))⟩
/-- Part of a block besides. -/
structure OneJ (s : Ser) (b k j : Nat) (O O' : List (List UInt8)) : Prop where
  sub : ∀ r, r ∈ O' → r ∈ fileL s
  old : ∀ r, r ∈ O → r ∈ O'
  len : O'.length ≤ O.length + j
  got : ∀ i, i < j → i ≠ k → recB s b i ∈ O'
theorem OneJ.done {s : Ser} {b k : Nat} {O O' : List (List UInt8)} (n : SerN s) (hb : b * s.width.toNat < s.rd.length) (o : OneO s b O) (h : OneJ s b k (nbS s b + 1) O O') : OneO s (b + 1) O' :=
  ⟨h.sub, h.old _ o.hd, by have := o.len; have := h.len; have := iB_next n hb; omega, fun b' hb' => by
    by_cases e : b' = b
    · subst e
      exact ⟨k, fun j hj hne => h.got j (by omega) hne⟩
    · obtain ⟨k', hk'⟩ := o.one b' (by omega)
      exact ⟨k', fun j hj hne => h.old _ (hk' j hj hne)⟩⟩
theorem OneJ.skip {s : Ser} {b k j : Nat} {O O' : List (List UInt8)} (h : OneJ s b k j O O') (hj : j = k) : OneJ s b k (j + 1) O O' :=
  ⟨h.sub, h.old, by have := h.len; omega, fun i hi hne => h.got i (by omega) hne⟩
end Go.Proofs.YtmdlmmfbcnkanaaR
namespace Go.Proofs.YtmdlmmfbcnkanaaR

section
variable {s : Ser} (n : SerN s)
include n
/-- No record stands twice in a file. -/
theorem recs_nodup : ∀ k, k ≤ s.rd.length → (recsTo s k).Nodup
  | 0, _ => by simp [recsTo]
  | k + 1, hk => by
    have ih := recs_nodup k (by omega)
    have hw := n.wd
    have hR := recR_ok n (i := k) (by omega)
    have hP := recP_ok n (b := k / s.width.toNat) (div_le40 n (by omega))
    have hH := hdR_ok n
    have e1 : (recsTo s (k + 1)) = (recsTo s k ++ [made 82 k (rdN s k)]) ++ if closesB s.rd.length s.width k then [made 80 (k / s.width.toNat) (smN s (k / s.width.toNat))] else [] := by
      rw [recsTo]; rfl
    have hn1 : ∀ r, r ∈ recsTo s k → r ≠ made 82 k (rdN s k) := by
      intro r hr e
      have hnm := congrArg nameOf e
      rw [hR.2.1] at hnm
      rcases mem_recsTo.1 hr with rfl | ⟨i, h1, rfl⟩ | ⟨i, h1, _, rfl⟩
      · rw [hH.2.1] at hnm; cases hnm
      · rw [(recR_ok n (i := i) (by omega)).2.1] at hnm
        injection hnm with _ h; omega
      · rw [(recP_ok n (b := i / s.width.toNat) (div_le40 n (by omega))).2.1] at hnm; cases hnm
    have hd1 : (recsTo s k ++ [made 82 k (rdN s k)]).Nodup := by
      refine List.nodup_append.2 ⟨ih, by simp, fun a ha b hb => ?_⟩
      simp only [List.mem_singleton] at hb
      subst hb
      exact hn1 a ha
    rw [e1]
    by_cases hc : closesB s.rd.length s.width k = true
    · rw [if_pos hc]
      refine List.nodup_append.2 ⟨hd1, by simp, fun a ha b hb => ?_⟩
      simp only [List.mem_singleton] at hb
      subst hb
      intro e
      have hnm := congrArg nameOf e
      rw [hP.2.1] at hnm
      rcases List.mem_append.1 ha with hr | hr
      · rcases mem_recsTo.1 hr with rfl | ⟨i, h1, rfl⟩ | ⟨i, h1, h2, rfl⟩
        · rw [hH.2.1] at hnm; cases hnm
        · rw [(recR_ok n (i := i) (by omega)).2.1] at hnm; cases hnm
        · rw [(recP_ok n (b := i / s.width.toNat) (div_le40 n (by omega))).2.1] at hnm
          injection hnm with _ h
          have hci := ((closes_ser n (k := i) (by omega)).1 h2).resolve_left (by omega)
          have e3 := Nat.div_add_mod' i s.width.toNat
          have hdm := Nat.div_add_mod' k s.width.toNat
          have := Nat.mod_lt k (show 0 < s.width.toNat by omega)
          rw [h] at e3
          omega
      · simp only [List.mem_singleton] at hr
        subst hr
        rw [hR.2.1] at hnm; cases hnm
    · rw [if_neg hc, List.append_nil]
      exact hd1
theorem file_nodup : (fileL s).Nodup := recs_nodup n s.rd.length (Nat.le_refl _)
end

theorem good_len {r : List UInt8} (h : isGood r = true) : r.length = 7 := by
  unfold isGood at h
  split at h
  · rfl
  · cases h
theorem dig_of {b : UInt8} (h : isDig b = true) : dig b = b.toNat - 48 ∧ 48 ≤ b.toNat ∧ b.toNat ≤ 57 := by
  have h1 := of_decide_eq_true h
  refine ⟨?_, h1.1, h1.2⟩
  unfold dig
  rw [UInt8.toNat_sub_of_le _ _ (by rw [UInt8.le_iff_toNat_le]; exact h1.1)]
  rfl
theorem ck0 {a a' b c d e : Nat} (h : (2 * a + 3 * b + 4 * c + 5 * d + 6 * e) % 97 = (2 * a' + 3 * b + 4 * c + 5 * d + 6 * e) % 97) (h1 : a = 72 ∨ a = 82 ∨ a = 80) (h2 : a' = 72 ∨ a' = 82 ∨ a' = 80) : a = a' := by omega
theorem ck1 {a b b' c d e : Nat} (h : (2 * a + 3 * b + 4 * c + 5 * d + 6 * e) % 97 = (2 * a + 3 * b' + 4 * c + 5 * d + 6 * e) % 97) (h1 : 48 ≤ b ∧ b ≤ 57) (h2 : 48 ≤ b' ∧ b' ≤ 57) : b = b' := by omega
theorem ck2 {a b c c' d e : Nat} (h : (2 * a + 3 * b + 4 * c + 5 * d + 6 * e) % 97 = (2 * a + 3 * b + 4 * c' + 5 * d + 6 * e) % 97) (h1 : 48 ≤ c ∧ c ≤ 57) (h2 : 48 ≤ c' ∧ c' ≤ 57) : c = c' := by omega
theorem ck3 {a b c d d' e : Nat} (h : (2 * a + 3 * b + 4 * c + 5 * d + 6 * e) % 97 = (2 * a + 3 * b + 4 * c + 5 * d' + 6 * e) % 97) (h1 : 48 ≤ d ∧ d ≤ 57) (h2 : 48 ≤ d' ∧ d' ≤ 57) : d = d' := by omega
theorem ck4 {a b c d e e' : Nat} (h : (2 * a + 3 * b + 4 * c + 5 * d + 6 * e) % 97 = (2 * a + 3 * b + 4 * c + 5 * d + 6 * e') % 97) (h1 : 48 ≤ e ∧ e ≤ 57) (h2 : 48 ≤ e' ∧ e' ≤ 57) : e = e' := by omega
theorem some_nat {x b : UInt8} (e : x.toNat = b.toNat) : some x = some b := congrArg some (UInt8.toNat_inj.1 e)
theorem good_key {a b c d e f g : UInt8} (h : isGood [a, b, c, d, e, f, g] = true) : (a.toNat = 72 ∨ a.toNat = 82 ∨ a.toNat = 80) ∧ (isDig b = true ∧ isDig c = true ∧ isDig d = true ∧ isDig e = true ∧ isDig f = true ∧ isDig g = true) ∧ 10 * dig f + dig g = (2 * a.toNat + 3 * b.toNat + 4 * c.toNat + 5 * d.toNat + 6 * e.toNat) % 97 := by
  simp only [isGood, good7, Bool.and_eq_true, Bool.or_eq_true, beq_iff_eq, num2, chk5] at h
  obtain ⟨⟨⟨h1, h2⟩, h3⟩, _⟩ := h
  refine ⟨?_, ?_, h3⟩
  · rcases h1 with (rfl | rfl) | rfl
    · exact .inl rfl
    · exact .inr (.inl rfl)
    · exact .inr (.inr rfl)
  · obtain ⟨⟨⟨⟨⟨a1, a2⟩, a3⟩, a4⟩, a5⟩, a6⟩ := h2
    exact ⟨a1, a2, a3, a4, a5, a6⟩
/-- A good record, of which one byte is another one, is not good. -/
theorem spoilt_bad {r : List UInt8} (h : isGood r = true) {k : Nat} {b : UInt8} (hk : k < 7) (hb : r[k]? ≠ some b) : isGood (r.set k b) = false := by
  obtain ⟨c0, c1, c2, c3, c4, c5, c6, rfl⟩ := len7 (good_len h)
  refine Bool.eq_false_iff.2 fun h2 => hb ?_
  clear hb
  obtain ⟨x1, ⟨y1, y2, y3, y4, y5, y6⟩, z⟩ := good_key h
  rcases k with _ | _ | _ | _ | _ | _ | _ | k
  · obtain ⟨x2, _, z2⟩ := good_key (show isGood [b, c1, c2, c3, c4, c5, c6] = true from h2)
    exact some_nat (ck0 (z.symm.trans z2) x1 x2)
  · obtain ⟨_, ⟨w, _⟩, z2⟩ := good_key (show isGood [c0, b, c2, c3, c4, c5, c6] = true from h2)
    exact some_nat (ck1 (z.symm.trans z2) (dig_of y1).2 (dig_of w).2)
  · obtain ⟨_, ⟨_, w, _⟩, z2⟩ := good_key (show isGood [c0, c1, b, c3, c4, c5, c6] = true from h2)
    exact some_nat (ck2 (z.symm.trans z2) (dig_of y2).2 (dig_of w).2)
  · obtain ⟨_, ⟨_, _, w, _⟩, z2⟩ := good_key (show isGood [c0, c1, c2, b, c4, c5, c6] = true from h2)
    exact some_nat (ck3 (z.symm.trans z2) (dig_of y3).2 (dig_of w).2)
  · obtain ⟨_, ⟨_, _, _, w, _⟩, z2⟩ := good_key (show isGood [c0, c1, c2, c3, b, c5, c6] = true from h2)
    exact some_nat (ck4 (z.symm.trans z2) (dig_of y4).2 (dig_of w).2)
  · obtain ⟨_, ⟨_, _, _, _, w, _⟩, z2⟩ := good_key (show isGood [c0, c1, c2, c3, c4, b, c6] = true from h2)
    have e := z.trans z2.symm
    have g1 := dig_of y5
    have g2 := dig_of w
    exact some_nat (by clear z z2 h h2; omega)
  · obtain ⟨_, ⟨_, _, _, _, _, w⟩, z2⟩ := good_key (show isGood [c0, c1, c2, c3, c4, c5, b] = true from h2)
    have e := z.trans z2.symm
    have g1 := dig_of y6
    have g2 := dig_of w
    exact some_nat (by clear z z2 h h2; omega)
  · omega
theorem pieces_no : ∀ (r acc : List UInt8), (10 : UInt8) ∉ r → pieces acc r = []
  | [], _, _ => by simp [pieces]
  | b :: r, acc, h => by
    rw [pieces, if_neg (fun e => h (by simp [e]))]
    exact pieces_no r _ (fun hm => h (List.mem_cons_of_mem _ hm))
theorem bad_len {x : List UInt8} (h : x.length ≠ 7) : isGood x = false := Bool.eq_false_iff.2 fun e => h (good_len e)
/-- What the pieces are of a file of which one byte is another one: all records but one or two, and bad ones in their place. -/
theorem spoilt_pieces : ∀ (L : List (List UInt8)), (∀ r, r ∈ L → isGood r = true ∧ (10 : UInt8) ∉ r) → ∀ (k : Nat) (b : UInt8), k < (linesL L).length → (linesL L)[k]? ≠ some b →
    ∃ a m X, a < m ∧ m ≤ a + 2 ∧ m ≤ L.length ∧ pieces [] ((linesL L).set k b) = L.take a ++ X ++ L.drop m ∧ ∀ x, x ∈ X → isGood x = false
  | [], _, k, b, hk, _ => by simp [linesL] at hk
  | r :: L, hL, k, b, hk, hb => by
    have hr := hL r List.mem_cons_self
    have hr7 := good_len hr.1
    have hL' := fun x hx => hL x (List.mem_cons_of_mem _ hx)
    have hpl := pieces_lines L [] (fun x hx => (hL' x hx).2)
    have hpl2 : pieces [] (linesL L) = L := by simpa [pieces] using hpl
    have e0 : linesL (r :: L) = r ++ 10 :: linesL L := by simp [linesL]
    rw [e0] at hk hb ⊢
    simp only [List.length_append, List.length_cons, hr7] at hk
    by_cases h7 : k < 7
    · rw [List.getElem?_append_left (by omega)] at hb
      rw [List.set_append_left _ _ (by omega)]
      by_cases h10 : b = 10
      · subst h10
        have es : r.set k 10 = r.take k ++ 10 :: r.drop (k + 1) := by rw [List.set_eq_take_append_cons_drop, if_pos (by omega)]
        rw [es, List.append_assoc, List.cons_append, pieces_app _ _ _ (fun hm => hr.2 (List.mem_of_mem_take hm)), pieces_app _ _ _ (fun hm => hr.2 (List.mem_of_mem_drop hm)), hpl2]
        refine ⟨0, 1, [r.take k, r.drop (k + 1)], by omega, by omega, by simp, by simp, fun x hx => ?_⟩
        simp only [List.mem_cons, List.not_mem_nil, or_false] at hx
        rcases hx with rfl | rfl
        · exact bad_len (by rw [List.length_take]; omega)
        · exact bad_len (by rw [List.length_drop]; omega)
      · have hno : (10 : UInt8) ∉ r.set k b := fun hm => (List.mem_or_eq_of_mem_set hm).elim hr.2 (fun e => h10 e.symm)
        rw [pieces_app _ _ _ hno, hpl2]
        refine ⟨0, 1, [r.set k b], by omega, by omega, by simp, by simp, fun x hx => ?_⟩
        simp only [List.mem_singleton] at hx
        subst hx
        exact spoilt_bad hr.1 h7 hb
    · rw [List.getElem?_append_right (by omega), hr7] at hb
      rw [List.set_append_right _ _ (by omega), hr7]
      by_cases h77 : k = 7
      · subst h77
        simp only [Nat.sub_self, List.getElem?_cons_zero, List.set_cons_zero] at hb ⊢
        have hb10 : b ≠ 10 := fun e => hb (by rw [e])
        match L, hL', hpl2 with
        | [], _, _ =>
          refine ⟨0, 1, [], by omega, by omega, by simp, ?_, by simp⟩
          rw [pieces_no _ _ (by simpa [linesL] using ⟨hr.2, fun e => hb10 e.symm⟩)]
          simp
        | r2 :: L2, hL2, hp2 =>
          have h2 := hL2 r2 List.mem_cons_self
          have e2 : r ++ b :: linesL (r2 :: L2) = (r ++ b :: r2) ++ 10 :: linesL L2 := by simp [linesL]
          have hp3 : pieces [] (linesL L2) = L2 := by
            have := pieces_lines L2 [] (fun x hx => (hL2 x (List.mem_cons_of_mem _ hx)).2)
            simpa [pieces] using this
          rw [e2, pieces_app _ _ _ (by
            intro hm
            rcases List.mem_append.1 hm with h | h
            · exact hr.2 h
            · rcases List.mem_cons.1 h with h | h
              · exact hb10 h.symm
              · exact h2.2 h), hp3]
          refine ⟨0, 2, [[] ++ (r ++ b :: r2)], by omega, by omega, by simp, by simp, fun x hx => ?_⟩
          simp only [List.mem_singleton] at hx
          subst hx
          exact bad_len (by simp only [List.nil_append, List.length_append, List.length_cons, hr7, good_len h2.1]; omega)
      · obtain ⟨j, hj⟩ : ∃ j, k - 7 = j + 1 := ⟨k - 8, by omega⟩
        rw [hj] at hb ⊢
        rw [List.getElem?_cons_succ] at hb
        rw [List.set_cons_succ, pieces_app _ _ _ hr.2]
        obtain ⟨a, m, X, h1, h2, h3, h4, h5⟩ := spoilt_pieces L hL' j b (by omega) hb
        refine ⟨a + 1, m + 1, X, by omega, by omega, by simpa using h3, ?_, h5⟩
        rw [h4]
        simp
theorem without_nodup : ∀ (l out : List (List UInt8)), (out ++ l).Nodup → withoutL out l = out ++ l
  | [], out, _ => by simp [withoutL]
  | p :: l, out, h => by
    have hn : p ∉ out := fun hm => (List.nodup_append.1 h).2.2 p hm p List.mem_cons_self rfl
    rw [withoutL, if_neg hn, without_nodup l (out ++ [p]) (by simpa using h)]
    simp
/-- How often pieces are records. -/
def sameN (ps L : List (List UInt8)) : Nat := (ps.map fun p => L.countP fun r => decide (p = r)).sum
theorem countP_nodup : ∀ {L : List (List UInt8)} (p : List UInt8), L.Nodup → L.countP (fun r => decide (p = r)) = if p ∈ L then 1 else 0
  | [], p, _ => by simp
  | r :: L, p, h => by
    have ih := countP_nodup p (List.nodup_cons.1 h).2
    by_cases e : p = r
    · subst e
      rw [List.countP_cons, ih, if_neg (List.nodup_cons.1 h).1]
      simp
    · rw [List.countP_cons, ih]
      simp [e]
theorem sameN_is {L : List (List UInt8)} (hd : L.Nodup) : ∀ (ps : List (List UInt8)), (∀ p, p ∈ ps → (isGood p = true ↔ p ∈ L)) → sameN ps L = (ps.filter isGood).length
  | [], _ => rfl
  | p :: ps, h => by
    have ih := sameN_is hd ps (fun x hx => h x (List.mem_cons_of_mem _ hx))
    have hp := h p List.mem_cons_self
    unfold sameN at ih ⊢
    rw [List.map_cons, List.sum_cons, ih, countP_nodup p hd]
    by_cases hg : isGood p = true
    · rw [List.filter_cons_of_pos hg, if_pos (hp.1 hg), List.length_cons]
      omega
    · rw [List.filter_cons_of_neg hg, if_neg (fun hm => hg (hp.2 hm))]
      omega
theorem spoilt_counts {s : Ser} (n : SerN s) {k : Nat} {b : UInt8} (hk : k < (linesL (fileL s)).length) (hb : (linesL (fileL s))[k]? ≠ some b) :
    (countR ((linesL (fileL s)).set k b)).2 = 0 ∧ (countR ((linesL (fileL s)).set k b)).1.nd = 0 ∧ (fileL s).length ≤ (countR ((linesL (fileL s)).set k b)).1.ng + 2 ∧ (countR ((linesL (fileL s)).set k b)).1.ng < (fileL s).length ∧ sameN (pieces [] ((linesL (fileL s)).set k b)) (fileL s) = (countR ((linesL (fileL s)).set k b)).1.ng := by
  have hok := fun r hr => file_ok n (r := r) hr
  have hnd := file_nodup n
  have hlen := file_len n
  obtain ⟨a, m, X, h1, h2, h3, h4, h5⟩ := spoilt_pieces (fileL s) hok k b hk hb
  have hl : (linesL (fileL s)).length ≤ 4000 := by
    have : ∀ L : List (List UInt8), (∀ r, r ∈ L → isGood r = true) → (linesL L).length = 8 * L.length := by
      intro L
      induction L with
      | nil => intro _; rfl
      | cons r L ih =>
        intro h
        have := ih (fun x hx => h x (List.mem_cons_of_mem _ hx))
        have := good_len (h r List.mem_cons_self)
        simp only [linesL, List.length_append, List.length_cons, List.length_nil]
        omega
    rw [this _ (fun r hr => (hok r hr).1)]
    omega
  have hc := counts_is (l := (linesL (fileL s)).set k b) (by rw [List.length_set]; exact hl)
  have hg : goods ((linesL (fileL s)).set k b) = (fileL s).take a ++ (fileL s).drop m := by
    unfold goods
    rw [h4, List.filter_append, List.filter_append]
    have f1 : ((fileL s).take a).filter isGood = (fileL s).take a := List.filter_eq_self.2 (fun r hr => (hok r (List.mem_of_mem_take hr)).1)
    have f2 : ((fileL s).drop m).filter isGood = (fileL s).drop m := List.filter_eq_self.2 (fun r hr => (hok r (List.mem_of_mem_drop hr)).1)
    have f3 : X.filter isGood = [] := List.filter_eq_nil_iff.2 (fun x hx => by rw [h5 x hx]; simp)
    rw [f1, f2, f3, List.append_nil]
  have hgn : (goods ((linesL (fileL s)).set k b)).Nodup := by
    rw [hg]
    refine List.Nodup.sublist ?_ hnd
    have e : fileL s = (fileL s).take a ++ (fileL s).drop a := (List.take_append_drop _ _).symm
    conv => rhs; rw [e]
    refine List.Sublist.append (List.Sublist.refl _) ?_
    rw [show m = a + (m - a) by omega, ← List.drop_drop]
    exact List.drop_sublist _ _
  have hgl : (goods ((linesL (fileL s)).set k b)).length + (m - a) = (fileL s).length := by
    rw [hg, List.length_append, List.length_take, List.length_drop]
    omega
  have hwo : withoutL [] (goods ((linesL (fileL s)).set k b)) = goods ((linesL (fileL s)).set k b) := by
    rw [without_nodup _ [] (by simpa using hgn)]
    rfl
  rw [hwo] at hc
  refine ⟨hc.1, by omega, by omega, by omega, ?_⟩
  rw [hc.2.1]
  refine sameN_is hnd _ (fun p hp => ?_)
  rw [h4] at hp
  constructor
  · intro hgp
    rcases List.mem_append.1 hp with h | h
    · rcases List.mem_append.1 h with h | h
      · exact List.mem_of_mem_take h
      · rw [h5 p h] at hgp; cases hgp
    · exact List.mem_of_mem_drop h
  · intro hm
    exact (hok p hm).1
end Go.Proofs.YtmdlmmfbcnkanaaR
namespace Go.Proofs.YtmdlmmfbcnkanaaR

section
variable {s : Ser} {m : List (List UInt8)} {b p : Nat} {g q : Nat → Nat}
end
end Go.Proofs.YtmdlmmfbcnkanaaR
namespace Go.Proofs.YtmdlmmfbcnkanaaR
open Go.RowKit Go.Shelf
section
attribute [local irreducible] AnyK StepK
variable {s : Ser} {W3 : World} {gl cL cw : Nat} {Aw : Option Addr} {lw : List Nat} {b1 c : Nat} {A : Option Addr}
end
end Go.Proofs.YtmdlmmfbcnkanaaR
namespace Go.Proofs.YtmdlmmfbcnkanaaR
open Go.RowKit Go.Shelf
section
attribute [local irreducible] AnyK StepK
variable {s : Ser} {W3 : World} {gl cL cw : Nat} {Aw : Option Addr} {lw : List Nat} {b1 c : Nat} {A : Option Addr}
end
section
attribute [local irreducible] AnyK StepK
variable {s : Ser} {W : World}
end
end Go.Proofs.YtmdlmmfbcnkanaaR
namespace Go.Proofs.YtmdlmmfbcnkanaaR
open Go.RowKit Go.Shelf
theorem ix31z {b n c : Nat} {i : Nat} (h : i < n) (w : World) : (Instr.indexAt 31 (.slice (some ⟨b, 0, none⟩) n c) (.int .i64 i)).run Try.prog w = .ok (.pointer (some ⟨b, i, none⟩)) w := by
  have : (Instr.indexAt 31 (.slice (some ⟨b, 0, none⟩) n c) (.int .i64 i)).run Try.prog w = .ok (.pointer (some ⟨b, 0 + i, none⟩)) w := by go_simp
  rwa [Nat.zero_add] at this
theorem OB.row {W0 W : World} {v : Value} {xs : List UInt8} (h : OB W0 v xs W) (hne : 0 < xs.length) : ∃ g c cur, v = .slice (some ⟨g, 0, none⟩) xs.length c ∧ xs.length ≤ c ∧ W0.heap.size ≤ g ∧ Whole W g 5 cur ∧ ∀ (k : Nat) (x : UInt8), xs[k]? = some x → cur[k]? = some (u8V x) := by
  obtain ⟨A, c, rfl, hc, hb⟩ := h.bytes
  rcases h.own.2 with ⟨h0, h1⟩ | ⟨g, cap, cur, h0, hge, hg, h1, h2, h3, h4⟩
  · omega
  · have hg' : Whole W g 5 cur := hg
    cases h0
    refine ⟨g, _, cur, rfl, hc, hge, hg', fun k x hx => ?_⟩
    obtain ⟨b', o', e, _, h5⟩ := hb k x hx
    cases e
    rw [hg'.cell, Nat.zero_add] at h5
    exact h5
/-- One byte of a row is written. -/
theorem bytes_set {W : World} {g k : Nat} {cur : Array Value} {xs : List UInt8} (b : UInt8) (w : Whole W g 5 cur) (hx : ∀ (k : Nat) (x : UInt8), xs[k]? = some x → cur[k]? = some (u8V x)) : BytesAt (W.setCell ⟨g, k, none⟩ (u8V b)) (W.setCell ⟨g, k, none⟩ (u8V b)).heap.size (some ⟨g, 0, none⟩) (xs.set k b) := by
  intro i x hi
  have w2 := w.set k (u8V b)
  refine ⟨g, 0, rfl, w2.lt, ?_⟩
  rw [w2.cell, Nat.zero_add]
  by_cases h : i = k
  · subst h
    have hlt : i < xs.length := by
      have := (List.getElem?_eq_some_iff.1 hi).1
      simpa using this
    rw [List.getElem?_set_self hlt] at hi
    cases hi
    have h1 := hx i _ (List.getElem?_eq_getElem hlt)
    have := (Array.getElem?_eq_some_iff.1 h1).1
    simp [this]
  · rw [List.getElem?_set_ne (fun e => h e.symm)] at hi
    rw [Array.getElem?_setIfInBounds_ne (fun e => h e.symm)]
    exact hx i x hi
theorem lines_len8 : ∀ L : List (List UInt8), (∀ r, r ∈ L → isGood r = true) → (linesL L).length = 8 * L.length
  | [], _ => rfl
  | r :: L, h => by
    have := lines_len8 L (fun x hx => h x (List.mem_cons_of_mem _ hx))
    have := good_len (h r List.mem_cons_self)
    simp only [linesL, List.length_append, List.length_cons, List.length_nil]
    omega
theorem sameN_snoc (ps L : List (List UInt8)) (p : List UInt8) : sameN (ps ++ [p]) L = sameN ps L + L.countP (fun r => decide (p = r)) := by simp [sameN]
theorem countP_snoc (L : List (List UInt8)) (r p : List UInt8) : (L ++ [r]).countP (fun r => decide (p = r)) = L.countP (fun r => decide (p = r)) + (if p = r then 1 else 0) := by
  rw [List.countP_append, List.countP_cons, List.countP_nil]
  simp
noncomputable def opsSp0 : Array Oper := (Try.f9.body.bind (regionOf 0)).getD #[]
noncomputable def opsSp1 : Array Oper := (Try.f9.body.bind (regionOf 1)).getD #[]
noncomputable def opsSp2 : Array Oper := (Try.f9.body.bind (regionOf 2)).getD #[]
noncomputable def opsSp3 : Array Oper := (Try.f9.body.bind (regionOf 3)).getD #[]
noncomputable def opsSp4 : Array Oper := (Try.f9.body.bind (regionOf 4)).getD #[]
noncomputable def opsSp5 : Array Oper := (Try.f9.body.bind (regionOf 5)).getD #[]
noncomputable def opsSp6 : Array Oper := (Try.f9.body.bind (regionOf 6)).getD #[]
noncomputable def opsSp7 : Array Oper := (Try.f9.body.bind (regionOf 7)).getD #[]
noncomputable def opsSp8 : Array Oper := (Try.f9.body.bind (regionOf 8)).getD #[]
noncomputable def opsSp9 : Array Oper := (Try.f9.body.bind (regionOf 9)).getD #[]
noncomputable def opsSp10 : Array Oper := (Try.f9.body.bind (regionOf 10)).getD #[]
noncomputable def opsSp11 : Array Oper := (Try.f9.body.bind (regionOf 11)).getD #[]
noncomputable def opsSp12 : Array Oper := (Try.f9.body.bind (regionOf 12)).getD #[]
noncomputable def opsSp13 : Array Oper := (Try.f9.body.bind (regionOf 13)).getD #[]
noncomputable def opsSp14 : Array Oper := (Try.f9.body.bind (regionOf 14)).getD #[]
noncomputable def opsSp15 : Array Oper := (Try.f9.body.bind (regionOf 15)).getD #[]
noncomputable def opsSp16 : Array Oper := (Try.f9.body.bind (regionOf 16)).getD #[]
noncomputable def opsSp17 : Array Oper := (Try.f9.body.bind (regionOf 17)).getD #[]
noncomputable def opsSp18 : Array Oper := (Try.f9.body.bind (regionOf 18)).getD #[]
noncomputable def opsSp19 : Array Oper := (Try.f9.body.bind (regionOf 19)).getD #[]
noncomputable def opsSp20 : Array Oper := (Try.f9.body.bind (regionOf 20)).getD #[]
noncomputable def opsSp21 : Array Oper := (Try.f9.body.bind (regionOf 21)).getD #[]
noncomputable def sp_k : Code := (.seq (.seq (.region 17 opsSp17 false) (.cond (.tmp 81) .skip (.exit 2))) (.seq (.block 3 (.seq (.region 19 opsSp19 true) (.cond (.tmp 92) (.region 20 opsSp20 false) .skip))) (.region 18 opsSp18 false)))
noncomputable def sp_b : Code := (.block 2 (.loop sp_k))
noncomputable def sp_l : Code := (.seq (.seq (.region 14 opsSp14 false) (.cond (.tmp 75) .skip (.exit 0))) (.seq (.block 1 (.seq (.region 16 opsSp16 false) sp_b)) (.region 15 opsSp15 false)))
noncomputable def sp_e : Code := (.seq (.region 21 opsSp21 false) .ret)
noncomputable def sp_12 : Code := (.seq (.region 12 opsSp12 false) (.seq (.seq (.region 13 opsSp13 false) (.block 0 (.loop sp_l))) sp_e))
noncomputable def sp_8 : Code := (.seq (.region 8 opsSp8 false) (.seq (.region 9 opsSp9 false) (.seq (.seq (.region 10 opsSp10 false) (.cond (.tmp 68) (.seq (.region 11 opsSp11 false) .ret) .skip)) sp_12)))
noncomputable def code9 : Code := (.seq (.region 0 opsSp0 false) (.seq (.seq (.region 1 opsSp1 false) (.cond (.tmp 18) (.seq (.region 2 opsSp2 false) .ret) .skip)) (.seq (.region 3 opsSp3 false) (.seq (.region 4 opsSp4 false) (.seq (.region 5 opsSp5 false) (.seq (.seq (.region 6 opsSp6 false) (.cond (.tmp 35) (.seq (.region 7 opsSp7 false) .ret) .skip)) sp_8))))))
theorem body9 : Try.f9.body = some code9 := by kernel_rfl
section
attribute [local irreducible] AnyK StepK
variable {L ps : List (List UInt8)} {W9 : World} {p : List UInt8} {cL cP gp op i t b10 : Nat} {AL : Option Addr}
set_option maxHeartbeats 400000 in
theorem sp_b_any {a : Act} {W1 : World} {Q : Exit → Act → World → Prop} (hL : L.length ≤ 90) (hi : i < ps.length) (hi4 : ps.length ≤ 4000) (ht : t ≤ i * 100) (hb1 : Below W9.heap.size W9 W1) (hgp : gp < W9.heap.size) (hc : W9.cell? ⟨gp, op + i, none⟩ = some (strV p)) (hst : StrsAt W9 W9.heap.size AL L)
    (hz : a.tmps.size = 102) (hd_a : a.defers = []) (t7 : a.eval (.tmp 7) = .slice AL L.length cL) (t10 : a.eval (.tmp 10) = ptr b10) (t12 : a.eval (.tmp 12) = .slice (some ⟨gp, op, none⟩) ps.length cP) (t13 : a.eval (.tmp 13) = .int .i64 (t : Int)) (t14 : a.eval (.tmp 14) = .int .i64 (i : Int)) (t15 : a.eval (.tmp 15) = .int .i64 0)
    (hQ : ∀ (b : Act) (W' : World) (t' : Nat), t' = t + L.countP (fun r => decide (p = r)) → t' ≤ (i + 1) * 100 → Below W9.heap.size W9 W' → b.tmps.size = 102 → b.defers = [] → b.eval (.tmp 7) = .slice AL L.length cL → b.eval (.tmp 10) = ptr b10 → b.eval (.tmp 12) = .slice (some ⟨gp, op, none⟩) ps.length cP → b.eval (.tmp 13) = .int .i64 (t' : Int) → b.eval (.tmp 14) = .int .i64 (i : Int) → Q .normal b W') :
    sp_b.wpIn Fence.wide 5 Try.prog Q a W1 := by
  unfold sp_b
  refine wpIn_block (wpIn_loop (fun a W' => ∃ j t' : Nat, j ≤ L.length ∧ t' = t + (L.take j).countP (fun r => decide (p = r)) ∧ t' ≤ i * 100 + j ∧ Below W9.heap.size W9 W' ∧ a.tmps.size = 102 ∧ a.defers = [] ∧ a.eval (.tmp 7) = .slice AL L.length cL ∧ a.eval (.tmp 10) = ptr b10 ∧ a.eval (.tmp 12) = .slice (some ⟨gp, op, none⟩) ps.length cP ∧ a.eval (.tmp 13) = .int .i64 (t' : Int) ∧ a.eval (.tmp 14) = .int .i64 (i : Int) ∧ a.eval (.tmp 15) = .int .i64 (j : Int)) (fun a _ => L.length - (intOf (a.eval (.tmp 15))).toNat)
    ⟨0, t, Nat.zero_le _, by simp, by omega, hb1, hz, hd_a, t7, t10, t12, t13, t14, t15⟩ ?_)
  rintro b1 W2 ⟨j, t', hj, htj, htb, hb2, hz_b1, hd_b1, s7, s10, s12, s13, s14, s15⟩
  unfold sp_k
  by_cases hjl : j < L.length
  · have hy := List.getElem?_eq_getElem hjl
    obtain ⟨gl, ol, hA, hgl, hcl⟩ := hst j _ hy
    obtain ⟨y, hye⟩ : ∃ y, L[j] = y := ⟨_, rfl⟩
    rw [hye] at hy hcl
    subst hA
    have htk : L.take (j + 1) = L.take j ++ [y] := by rw [List.take_add_one, hy]; rfl
    have hB3 := hb2.trans ((Below.refl W2.heap.size W2).drew.mono hb2.size)
    have hcl3 := (hB3.cell (p := ⟨gl, ol + j, none⟩) hgl).trans hcl
    have hc3 := (hB3.cell (p := ⟨gp, op + i, none⟩) hgp).trans hc
    refine wpIn_seq (wpIn_seq (region_p 4 ?_))
    intro K hK
    refine ListK.move (i := 0) (v := .int .i64 (j : Int)) rfl (by simp [s15]) ?_
    refine ListK.move (i := 1) (v := .slice (some ⟨gl, ol, none⟩) L.length cL) rfl (by simp [s7]) ?_
    refine ListK.len (i := 2) (u := .slice (some ⟨gl, ol, none⟩) L.length cL) (v := .int .i64 L.length) rfl (by simp [hz_b1]) (ln36 _ _ _ _ _) rfl ?_
    refine ListK.bin (i := 3) (u := .int .i64 (j : Int)) (u' := .int .i64 L.length) (v := .bool true) rfl (by simp [hz_b1]) (by simp [hz_b1]) (lssT3 (by omega) _) ?_
    refine ListK.done (hK _ _ ?_)
    clear hK K
    refine wpIn_cond (t := true) (by simp [hz_b1]) (wpIn_skip ?_)
    generalize hA : Act.put _ _ _ = b2
    have hz_b2 : b2.tmps.size = 102 := by rw [← hA]; simp only [size_put, hz_b1]
    have o7 : b2.eval (.tmp 7) = .slice (some ⟨gl, ol, none⟩) L.length cL := by rw [← hA]; exact (by simp [s7])
    have o10 : b2.eval (.tmp 10) = .pointer (some ⟨b10, 0, none⟩) := by rw [← hA]; exact (by simp [s10])
    have o12 : b2.eval (.tmp 12) = .slice (some ⟨gp, op, none⟩) ps.length cP := by rw [← hA]; exact (by simp [s12])
    have o13 : b2.eval (.tmp 13) = .int .i64 (t' : Int) := by rw [← hA]; exact (by simp [s13])
    have o14 : b2.eval (.tmp 14) = .int .i64 (i : Int) := by rw [← hA]; exact (by simp [s14])
    have o15 : b2.eval (.tmp 15) = .int .i64 (j : Int) := by rw [← hA]; exact (by simp [s15])
    have hd_b2 : b2.defers = [] := by rw [← hA]; simp only [defers_put, hd_b1]
    clear hA
    have hnext : ∀ (b : Act) (W' : World) (t2 : Nat), t2 = t + (L.take (j + 1)).countP (fun r => decide (p = r)) → t2 ≤ i * 100 + (j + 1) → Below W9.heap.size W9 W' → b.tmps.size = 102 → b.defers = [] → b.eval (.tmp 7) = .slice (some ⟨gl, ol, none⟩) L.length cL → b.eval (.tmp 10) = ptr b10 → b.eval (.tmp 12) = .slice (some ⟨gp, op, none⟩) ps.length cP → b.eval (.tmp 13) = .int .i64 (t2 : Int) → b.eval (.tmp 14) = .int .i64 (i : Int) → b.eval (.tmp 15) = .int .i64 (j : Int) →
        (Code.region 18 opsSp18 false).wpIn Fence.wide 5 Try.prog (fun e a' w' => e = .normal ∧ (∃ j t' : Nat, j ≤ L.length ∧ t' = t + (L.take j).countP (fun r => decide (p = r)) ∧ t' ≤ i * 100 + j ∧ Below W9.heap.size W9 w' ∧ a'.tmps.size = 102 ∧ a'.defers = [] ∧ a'.eval (.tmp 7) = .slice (some ⟨gl, ol, none⟩) L.length cL ∧ a'.eval (.tmp 10) = ptr b10 ∧ a'.eval (.tmp 12) = .slice (some ⟨gp, op, none⟩) ps.length cP ∧ a'.eval (.tmp 13) = .int .i64 (t' : Int) ∧ a'.eval (.tmp 14) = .int .i64 (i : Int) ∧ a'.eval (.tmp 15) = .int .i64 (j : Int)) ∧ L.length - (intOf (a'.eval (.tmp 15))).toNat < L.length - (intOf (b1.eval (.tmp 15))).toNat) b W' := by
      intro b W' t2 ht2 ht2b hb' hz_b hd_b p7 p10 p12 p13 p14 p15
      refine region_p 3 ?_
      intro K hK
      refine ListK.move (i := 0) (v := .int .i64 (j : Int)) rfl (by simp [p15]) ?_
      refine ListK.bin (i := 1) (u := .int .i64 (j : Int)) (u' := .int .i64 1) (v := .int .i64 ((j + 1 : Nat) : Int)) rfl (by simp [hz_b]) (by simp) (add3 (by omega) (by omega) _) ?_
      refine ListK.assign (i := 2) (v := .int .i64 ((j + 1 : Nat) : Int)) rfl (by simp [hz_b]) ?_
      refine ListK.done (hK _ _ ?_)
      clear hK K
      refine ⟨rfl, ⟨j + 1, t2, by omega, ht2, ht2b, hb', (by simp only [size_put, hz_b]), (by simp only [defers_put, hd_b]), (by simp [p7]), (by simp [p10]), (by simp [p12]), (by simp [p13]), (by simp [p14]), (by simp [hz_b])⟩, ?_⟩
      rw [s15, show (Act.put _ _ _).eval (.tmp 15) = .int .i64 ((j + 1 : Nat) : Int) from (by simp [hz_b])]
      simp only [intOf]
      omega
    refine wpIn_seq (wpIn_block ?_)
    refine wpIn_seq (region_K (KpR (fun w : World => (w.cell? ⟨gl, ol + j, none⟩ = some (strV y) ∧ w.cell? ⟨gp, op + i, none⟩ = some (strV p)) ∧ Below W9.heap.size W9 w) (fun _ => false)) (wideF_plain _) (by kernel_rfl) Try.mixed ?_)
    change AnyK _ _ _ _ 9 (Array.replicate 9 false) _ _
    have hR : (fun w : World => (w.cell? ⟨gl, ol + j, none⟩ = some (strV y) ∧ w.cell? ⟨gp, op + i, none⟩ = some (strV p)) ∧ Below W9.heap.size W9 w) W2.drew := ⟨⟨hcl3, hc3⟩, hB3⟩
    refine AnyK.move (i := 0) may_o (v := .slice (some ⟨gp, op, none⟩) ps.length cP) (by simp [o12]) hR ?_
    refine AnyK.move (i := 1) may_o (v := .int .i64 (i : Int)) (by simp [o14]) hR ?_
    refine AnyK.index (i := 2) may_o (u := .slice (some ⟨gp, op, none⟩) ps.length cP) (u' := .int .i64 (i : Int)) (v := .pointer (some ⟨gp, op + i, none⟩)) (by simp [hz_b2]) (by simp [hz_b2]) (fun w => ix36 hi w) hR ?_
    refine AnyK.load (i := 3) may_o (p := ⟨gp, op + i, none⟩) (v := strV p) (by simp [hz_b2]) (fun w hw => ld9 hw.1.2) hR ?_
    refine AnyK.move (i := 4) may_o (v := .slice (some ⟨gl, ol, none⟩) L.length cL) (by simp [o7]) hR ?_
    refine AnyK.move (i := 5) may_o (v := .int .i64 (j : Int)) (by simp [o15]) hR ?_
    refine AnyK.index (i := 6) may_o (u := .slice (some ⟨gl, ol, none⟩) L.length cL) (u' := .int .i64 (j : Int)) (v := .pointer (some ⟨gl, ol + j, none⟩)) (by simp [hz_b2]) (by simp [hz_b2]) (fun w => ix36 hjl w) hR ?_
    refine AnyK.load (i := 7) may_o (p := ⟨gl, ol + j, none⟩) (v := strV y) (by simp [hz_b2]) (fun w hw => ld9 hw.1.1) hR ?_
    refine AnyK.bin (i := 8) may_o (u := strV p) (u' := strV y) (v := .bool (decide (p = y))) (by simp [hz_b2]) (by simp [hz_b2]) (fun w => eql9n p y w) hR ?_
    refine AnyK.done (by kernel_rfl) ?_
    by_cases hpy : p = y
    · rw [decide_eq_true hpy]
      refine wpIn_cond (t := true) (by simp [hz_b2]) ?_
      generalize hA : Act.put _ _ _ = b3
      have hz_b3 : b3.tmps.size = 102 := by rw [← hA]; simp only [size_put, hz_b2]
      have x7 : b3.eval (.tmp 7) = .slice (some ⟨gl, ol, none⟩) L.length cL := by rw [← hA]; exact (by simp [o7])
      have x10 : b3.eval (.tmp 10) = .pointer (some ⟨b10, 0, none⟩) := by rw [← hA]; exact (by simp [o10])
      have x12 : b3.eval (.tmp 12) = .slice (some ⟨gp, op, none⟩) ps.length cP := by rw [← hA]; exact (by simp [o12])
      have x13 : b3.eval (.tmp 13) = .int .i64 (t' : Int) := by rw [← hA]; exact (by simp [o13])
      have x14 : b3.eval (.tmp 14) = .int .i64 (i : Int) := by rw [← hA]; exact (by simp [o14])
      have x15 : b3.eval (.tmp 15) = .int .i64 (j : Int) := by rw [← hA]; exact (by simp [o15])
      have hd_b3 : b3.defers = [] := by rw [← hA]; simp only [defers_put, hd_b2]
      clear hA
      refine region_p 3 ?_
      intro K hK
      refine ListK.move (i := 0) (v := .int .i64 (t' : Int)) rfl (by simp [x13]) ?_
      refine ListK.bin (i := 1) (u := .int .i64 (t' : Int)) (u' := .int .i64 1) (v := .int .i64 ((t' + 1 : Nat) : Int)) rfl (by simp [hz_b3]) (by simp) (add3 (by omega) (by omega) _) ?_
      refine ListK.assign (i := 2) (v := .int .i64 ((t' + 1 : Nat) : Int)) rfl (by simp [hz_b3]) ?_
      refine ListK.done (hK _ _ ?_)
      clear hK K
      refine Go.Code.wpIn_mono (fun e a'' w'' hq => ?_) (hnext _ _ (t' + 1) (by rw [htk, countP_snoc, if_pos hpy]; omega) (by omega) hR.2 (by simp only [size_put, hz_b3]) (by simp only [defers_put, hd_b3]) (by simp [x7]) (by simp [x10]) (by simp [x12]) (by simp [hz_b3]) (by simp [x14]) (by simp [x15]))
      obtain ⟨rfl, h1, h2⟩ := hq
      exact ⟨h1, h2⟩
    · rw [decide_eq_false hpy]
      refine wpIn_cond (t := false) (by simp [hz_b2]) (wpIn_skip ?_)
      refine Go.Code.wpIn_mono (fun e a'' w'' hq => ?_) (hnext _ _ t' (by rw [htk, countP_snoc, if_neg hpy]; omega) (by omega) hR.2 (by simp only [size_put, hz_b2]) (by simp only [defers_put, hd_b2]) (by simp [o7]) (by simp [o10]) (by simp [o12]) (by simp [o13]) (by simp [o14]) (by simp [o15]))
      obtain ⟨rfl, h1, h2⟩ := hq
      exact ⟨h1, h2⟩
  · have hje : j = L.length := by omega
    refine wpIn_seq (wpIn_seq (region_p 4 ?_))
    intro K hK
    refine ListK.move (i := 0) (v := .int .i64 (j : Int)) rfl (by simp [s15]) ?_
    refine ListK.move (i := 1) (v := .slice AL L.length cL) rfl (by simp [s7]) ?_
    refine ListK.len (i := 2) (u := .slice AL L.length cL) (v := .int .i64 L.length) rfl (by simp [hz_b1]) (ln36 _ _ _ _ _) rfl ?_
    refine ListK.bin (i := 3) (u := .int .i64 (j : Int)) (u' := .int .i64 L.length) (v := .bool false) rfl (by simp [hz_b1]) (by simp [hz_b1]) (lssF3 (by omega) _) ?_
    refine ListK.done (hK _ _ ?_)
    clear hK K
    refine wpIn_cond (t := false) (by simp [hz_b1]) (wpIn_exit ?_)
    rw [hje, List.take_length] at htj
    exact hQ _ _ t' htj (by omega) hb2 (by simp only [size_put, hz_b1]) (by simp only [defers_put, hd_b1]) (by simp [s7]) (by simp [s10]) (by simp [s12]) (by simp [s13]) (by simp [s14])
set_option maxHeartbeats 400000 in
theorem sp_12_any {l : List UInt8} {ng nb nd g8 c8 : Nat} {a : Act} {W W8 : World} (hL : L.length ≤ 90) (hl : l.length ≤ 4000) (hsame : sameN (pieces [] l) L = ng) (hst : StrsAt W8 W8.heap.size AL L) (hyy : BytesAt W8 W8.heap.size (some ⟨g8, 0, none⟩) l) (w10 : Whole W8 b10 62 (c62 ng nb nd))
    (hz : a.tmps.size = 102) (hd_a : a.defers = []) (t7 : a.eval (.tmp 7) = .slice AL L.length cL) (t8 : a.eval (.tmp 8) = .slice (some ⟨g8, 0, none⟩) l.length c8) (t10 : a.eval (.tmp 10) = ptr b10) (hB : Below W.heap.size W W8) :
    sp_12.wpIn Fence.wide 5 Try.prog (bodyPost Try.prog Try.f9 (TP W true)) a W8 := by
  have hpl := pieces_len l []
  unfold sp_12
  refine wpIn_seq (region_p 5 ?_)
  intro K hK
  refine ListK.move (i := 0) (v := .slice (some ⟨g8, 0, none⟩) l.length c8) rfl (by simp [t8]) ?_
  refine ListK.conv (i := 1) (u := .slice (some ⟨g8, 0, none⟩) l.length c8) (v := strV l) rfl (by simp [hz]) (cv319 c8 hyy) ?_
  refine ListK.call (i := 2) (vs := #[strV l]) rfl (enters_of Try.func33 (by kernel_rfl) rfl) (by simp [hz]) ((refPieces_any l (by omega) W8).mono ?_)
  rintro _ W9 ⟨v9, rfl, os9⟩
  obtain ⟨A9, c9, rfl, hs9⟩ := os9.strs
  refine ⟨_, rfl, ?_⟩
  refine ListK.assign (i := 3) (v := .slice A9 (pieces [] l).length c9) rfl (by simp [hz]) ?_
  refine ListK.assign (i := 4) (v := .int .i64 0) rfl (by simp) ?_
  refine ListK.done (hK _ _ ?_)
  clear hK K
  have hst9 := (hst.below os9.low (Nat.le_refl _)).wide os9.low.size
  have w9 := w10.below os9.low w10.lt
  have hB9 := hB.trans (os9.low.mono hB.size)
  obtain ⟨ps, hps⟩ : ∃ ps, pieces [] l = ps := ⟨_, rfl⟩
  rw [hps] at hs9 hpl hsame ⊢
  generalize hA : Act.put _ _ _ = a1
  have hz_a1 : a1.tmps.size = 102 := by rw [← hA]; simp only [size_put, hz]
  have u7 : a1.eval (.tmp 7) = .slice AL L.length cL := by rw [← hA]; exact (by simp [t7])
  have u10 : a1.eval (.tmp 10) = .pointer (some ⟨b10, 0, none⟩) := by rw [← hA]; exact (by simp [t10])
  have u12 : a1.eval (.tmp 12) = .slice A9 ps.length c9 := by rw [← hA]; exact (by simp [hz])
  have u13 : a1.eval (.tmp 13) = .int .i64 0 := by rw [← hA]; exact (by simp [hz])
  have hd_a1 : a1.defers = [] := by rw [← hA]; simp only [defers_put, hd_a]
  clear hA
  refine wpIn_seq (wpIn_seq (region_p 1 ?_))
  intro K hK
  refine ListK.assign (i := 0) (v := .int .i64 0) rfl (by simp) ?_
  refine ListK.done (hK _ _ ?_)
  clear hK K
  generalize hA : Act.put _ _ _ = a2
  have hz_a2 : a2.tmps.size = 102 := by rw [← hA]; simp only [size_put, hz_a1]
  have v7 : a2.eval (.tmp 7) = .slice AL L.length cL := by rw [← hA]; exact (by simp [u7])
  have v10 : a2.eval (.tmp 10) = .pointer (some ⟨b10, 0, none⟩) := by rw [← hA]; exact (by simp [u10])
  have v12 : a2.eval (.tmp 12) = .slice A9 ps.length c9 := by rw [← hA]; exact (by simp [u12])
  have v13 : a2.eval (.tmp 13) = .int .i64 0 := by rw [← hA]; exact (by simp [u13])
  have v14 : a2.eval (.tmp 14) = .int .i64 0 := by rw [← hA]; exact (by simp [hz_a1])
  have hd_a2 : a2.defers = [] := by rw [← hA]; simp only [defers_put, hd_a1]
  clear hA
  refine wpIn_block (wpIn_loop (fun a W' => ∃ i t : Nat, i ≤ ps.length ∧ t = sameN (ps.take i) L ∧ t ≤ i * 100 ∧ Below W9.heap.size W9 W' ∧ a.tmps.size = 102 ∧ a.defers = [] ∧ a.eval (.tmp 7) = .slice AL L.length cL ∧ a.eval (.tmp 10) = ptr b10 ∧ a.eval (.tmp 12) = .slice A9 ps.length c9 ∧ a.eval (.tmp 13) = .int .i64 (t : Int) ∧ a.eval (.tmp 14) = .int .i64 (i : Int)) (fun a _ => ps.length - (intOf (a.eval (.tmp 14))).toNat)
    ⟨0, 0, Nat.zero_le _, rfl, Nat.zero_le _, Below.refl _ _, hz_a2, hd_a2, v7, v10, v12, v13, v14⟩ ?_)
  rintro b1 W2 ⟨i, t, hi, hti, htb, hb2, hz_b1, hd_b1, s7, s10, s12, s13, s14⟩
  unfold sp_l
  by_cases hil : i < ps.length
  · have hx := List.getElem?_eq_getElem hil
    obtain ⟨gp, op, hA, hgp, hcp⟩ := hs9 i _ hx
    obtain ⟨p, hpe⟩ : ∃ p, ps[i] = p := ⟨_, rfl⟩
    rw [hpe] at hx hcp
    subst hA
    have htk : ps.take (i + 1) = ps.take i ++ [p] := by rw [List.take_add_one, hx]; rfl
    refine wpIn_seq (wpIn_seq (region_p 4 ?_))
    intro K hK
    refine ListK.move (i := 0) (v := .int .i64 (i : Int)) rfl (by simp [s14]) ?_
    refine ListK.move (i := 1) (v := .slice (some ⟨gp, op, none⟩) ps.length c9) rfl (by simp [s12]) ?_
    refine ListK.len (i := 2) (u := .slice (some ⟨gp, op, none⟩) ps.length c9) (v := .int .i64 ps.length) rfl (by simp [hz_b1]) (ln36 _ _ _ _ _) rfl ?_
    refine ListK.bin (i := 3) (u := .int .i64 (i : Int)) (u' := .int .i64 ps.length) (v := .bool true) rfl (by simp [hz_b1]) (by simp [hz_b1]) (lssT3 (by omega) _) ?_
    refine ListK.done (hK _ _ ?_)
    clear hK K
    refine wpIn_cond (t := true) (by simp [hz_b1]) (wpIn_skip ?_)
    generalize hA : Act.put _ _ _ = b2
    have hz_b2 : b2.tmps.size = 102 := by rw [← hA]; simp only [size_put, hz_b1]
    have o7 : b2.eval (.tmp 7) = .slice AL L.length cL := by rw [← hA]; exact (by simp [s7])
    have o10 : b2.eval (.tmp 10) = .pointer (some ⟨b10, 0, none⟩) := by rw [← hA]; exact (by simp [s10])
    have o12 : b2.eval (.tmp 12) = .slice (some ⟨gp, op, none⟩) ps.length c9 := by rw [← hA]; exact (by simp [s12])
    have o13 : b2.eval (.tmp 13) = .int .i64 (t : Int) := by rw [← hA]; exact (by simp [s13])
    have o14 : b2.eval (.tmp 14) = .int .i64 (i : Int) := by rw [← hA]; exact (by simp [s14])
    have hd_b2 : b2.defers = [] := by rw [← hA]; simp only [defers_put, hd_b1]
    clear hA
    refine wpIn_seq (wpIn_block ?_)
    refine wpIn_seq (region_p 1 ?_)
    intro K hK
    refine ListK.assign (i := 0) (v := .int .i64 0) rfl (by simp) ?_
    refine ListK.done (hK _ _ ?_)
    clear hK K
    refine sp_b_any (W9 := W9) (t := t) (cL := cL) (cP := c9) (b10 := b10) hL hil (by omega) htb hb2 hgp hcp hst9 (by simp only [size_put, hz_b2]) (by simp only [defers_put, hd_b2]) (by simp [o7]) (by simp [o10]) (by simp [o12]) (by simp [o13]) (by simp [o14]) (by simp [hz_b2]) ?_
    intro b W' t' ht' ht'b hb' hz_b hd_b p7 p10 p12 p13 p14
    show (Code.wpIn _ _ _ (Code.region _ _ _) _ _ _)
    refine region_p 3 ?_
    intro K hK
    refine ListK.move (i := 0) (v := .int .i64 (i : Int)) rfl (by simp [p14]) ?_
    refine ListK.bin (i := 1) (u := .int .i64 (i : Int)) (u' := .int .i64 1) (v := .int .i64 ((i + 1 : Nat) : Int)) rfl (by simp [hz_b]) (by simp) (add3 (by omega) (by omega) _) ?_
    refine ListK.assign (i := 2) (v := .int .i64 ((i + 1 : Nat) : Int)) rfl (by simp [hz_b]) ?_
    refine ListK.done (hK _ _ ?_)
    clear hK K
    refine ⟨⟨i + 1, t', by omega, by rw [htk, sameN_snoc, ← hti]; exact ht', ht'b, hb', (by simp only [size_put, hz_b]), (by simp only [defers_put, hd_b]), (by simp [p7]), (by simp [p10]), (by simp [p12]), (by simp [p13]), (by simp [hz_b])⟩, ?_⟩
    rw [s14, show (Act.put _ _ _).eval (.tmp 14) = .int .i64 ((i + 1 : Nat) : Int) from (by simp [hz_b])]
    simp only [intOf]
    omega
  · have hie : i = ps.length := by omega
    rw [hie, List.take_length, hsame] at hti
    refine wpIn_seq (wpIn_seq (region_p 4 ?_))
    intro K hK
    refine ListK.move (i := 0) (v := .int .i64 (i : Int)) rfl (by simp [s14]) ?_
    refine ListK.move (i := 1) (v := .slice A9 ps.length c9) rfl (by simp [s12]) ?_
    refine ListK.len (i := 2) (u := .slice A9 ps.length c9) (v := .int .i64 ps.length) rfl (by simp [hz_b1]) (ln36 _ _ _ _ _) rfl ?_
    refine ListK.bin (i := 3) (u := .int .i64 (i : Int)) (u' := .int .i64 ps.length) (v := .bool false) rfl (by simp [hz_b1]) (by simp [hz_b1]) (lssF3 (by omega) _) ?_
    refine ListK.done (hK _ _ ?_)
    clear hK K
    refine wpIn_cond (t := false) (by simp [hz_b1]) (wpIn_exit ?_)
    show sp_e.wpIn _ _ _ _ _ _
    unfold sp_e
    have w2 := w9.below hb2 w9.lt
    generalize hA : Act.put _ _ _ = b2
    have hz_b2 : b2.tmps.size = 102 := by rw [← hA]; simp only [size_put, hz_b1]
    have o7 : b2.eval (.tmp 7) = .slice AL L.length cL := by rw [← hA]; exact (by simp [s7])
    have o10 : b2.eval (.tmp 10) = .pointer (some ⟨b10, 0, none⟩) := by rw [← hA]; exact (by simp [s10])
    have o12 : b2.eval (.tmp 12) = .slice A9 ps.length c9 := by rw [← hA]; exact (by simp [s12])
    have o13 : b2.eval (.tmp 13) = .int .i64 (t : Int) := by rw [← hA]; exact (by simp [s13])
    have hd_b2 : b2.defers = [] := by rw [← hA]; simp only [defers_put, hd_b1]
    clear hA
    refine wpIn_seq (region_p 8 ?_)
    intro K hK
    refine ListK.move (i := 0) (v := .int .i64 (t : Int)) rfl (by simp [o13]) ?_
    refine ListK.field (i := 1) (u := .pointer (some ⟨b10, 0, none⟩)) (v := .pointer (some ⟨b10, 0, none⟩)) rfl (by simp [o10]) (fa62_0 _) ?_
    refine ListK.load (i := 2) (p := ⟨b10, 0, none⟩) (v := .int .i64 (ng : Int)) rfl (by simp [hz_b2]) (ld3 ((w2.cell 0))) ?_
    refine ListK.bin (i := 3) (u := .int .i64 (t : Int)) (u' := .int .i64 (ng : Int)) (v := .bool true) rfl (by simp [hz_b2]) (by simp [hz_b2]) (eqlT (by omega) _) ?_
    refine ListK.move (i := 4) (v := .bool true) rfl (by simp [hz_b2]) ?_
    refine ListK.call (i := 5) (vs := #[]) rfl (enters_of Try.func16 (by kernel_rfl) rfl) (by simp) ((awake_any W2).mono ?_) (hw := wanted_g (e := 99) (b' := true) rfl (by simp [hz_b2]) rfl)
    rintro _ W3 ⟨rfl, hb3⟩
    refine ⟨_, rfl, ?_⟩
    refine ListK.pick (i := 6) (b := true) (v := .bool true) rfl (by simp [hz_b2]) (by simp [hz_b2]) ?_
    refine ListK.assign (i := 7) (v := .bool true) rfl (by simp [hz_b2]) ?_
    refine ListK.done (hK _ _ (wpIn_ret ?_))
    exact bodyPost_ret (v := .bool true) (res1 Try.results9 (by simp [hz_b2])) (by simp only [defers_put, hd_b2]) ⟨rfl, hB9.trans ((hb2.trans (hb3.mono hb2.size)).mono hB9.size)⟩
end
end Go.Proofs.YtmdlmmfbcnkanaaR
namespace Go.Proofs.YtmdlmmfbcnkanaaR
open Go.RowKit Go.Shelf
section
attribute [local irreducible] AnyK StepK
variable {s : Ser} {W : World} {b b0 : UInt8}
set_option maxHeartbeats 400000 in
theorem sp_8_any {L : List (List UInt8)} {l : List UInt8} {cur : Array Value} {k g c8 cL : Nat} {AL : Option Addr} {a : Act} {W4 : World} (hL : L.length ≤ 90) (hl : l.length ≤ 4000) (hk : k < l.length)
    (q1 : (countR (l.set k b)).2 = 0) (q2 : (countR (l.set k b)).1.nd = 0) (q3 : L.length ≤ (countR (l.set k b)).1.ng + 2) (q4 : (countR (l.set k b)).1.ng < L.length) (q5 : sameN (pieces [] (l.set k b)) L = (countR (l.set k b)).1.ng)
    (wg : Whole W4 g 5 cur) (hcur : ∀ (k : Nat) (x : UInt8), l[k]? = some x → cur[k]? = some (u8V x)) (hst : StrsAt W4 g AL L) (hW : W.heap.size ≤ g)
    (hz : a.tmps.size = 102) (hd_a : a.defers = []) (t2 : a.eval (.tmp 2) = u8V b) (t7 : a.eval (.tmp 7) = .slice AL L.length cL) (t8 : a.eval (.tmp 8) = .slice (some ⟨g, 0, none⟩) l.length c8) (t9 : a.eval (.tmp 9) = .int .i64 (k : Int)) (hB : Below W.heap.size W W4) :
    sp_8.wpIn Fence.wide 5 Try.prog (bodyPost Try.prog Try.f9 (TP W true)) a W4 := by
  have hx := List.getElem?_eq_getElem hk
  have hcx := hcur k _ hx
  have hcell : W4.cell? ⟨g, k, none⟩ = some (u8V l[k]) := (wg.cell k).trans hcx
  have hbs := bytes_set (k := k) b wg hcur
  have hll : (l.set k b).length = l.length := List.length_set
  have hbl5 : Below g W4 (W4.setCell ⟨g, k, none⟩ (u8V b)) := (Below.refl g W4).setCell (p := ⟨g, k, none⟩) (Nat.le_refl _) _
  have hB5 : Below W.heap.size W (W4.setCell ⟨g, k, none⟩ (u8V b)) := hB.setCell (p := ⟨g, k, none⟩) hW _
  have hst5 := (hst.below hbl5 (Nat.le_refl _)).wide (show g ≤ (W4.setCell ⟨g, k, none⟩ (u8V b)).heap.size from Nat.le_of_lt (wg.set k (u8V b)).lt)
  unfold sp_8
  refine wpIn_seq (region_p 5 ?_)
  intro K hK
  refine ListK.move (i := 0) (v := .slice (some ⟨g, 0, none⟩) l.length c8) rfl (by simp [t8]) ?_
  refine ListK.move (i := 1) (v := .int .i64 (k : Int)) rfl (by simp [t9]) ?_
  refine ListK.move (i := 2) (v := u8V b) rfl (by simp [t2]) ?_
  refine ListK.index (i := 3) (u := .slice (some ⟨g, 0, none⟩) l.length c8) (u' := .int .i64 (k : Int)) (v := .pointer (some ⟨g, k, none⟩)) rfl (by simp [hz]) (by simp [hz]) (ix31z hk _) ?_
  refine ListK.store (i := 4) (u := .pointer (some ⟨g, k, none⟩)) (u' := u8V b) rfl (by simp [hz]) (by simp [hz]) (st5 hcell (wg.frozen k)) ?_
  refine ListK.done (hK _ _ ?_)
  clear hK K
  generalize W4.setCell ⟨g, k, none⟩ (u8V b) = W5 at *
  generalize hA : Act.put _ _ _ = a1
  have hz_a1 : a1.tmps.size = 102 := by rw [← hA]; simp only [size_put, hz]
  have u7 : a1.eval (.tmp 7) = .slice AL L.length cL := by rw [← hA]; exact (by simp [t7])
  have u8 : a1.eval (.tmp 8) = .slice (some ⟨g, 0, none⟩) l.length c8 := by rw [← hA]; exact (by simp [t8])
  have hd_a1 : a1.defers = [] := by rw [← hA]; simp only [defers_put, hd_a]
  clear hA
  obtain ⟨l', hl'⟩ : ∃ l', l.set k b = l' := ⟨_, rfl⟩
  rw [hl'] at q1 q2 q3 q4 q5 hbs hll
  rw [← hll] at u8
  obtain ⟨v6, W6, hap6, ob6⟩ := app31_run (c := c8) (ty := 31) (OB.nil W5) hbs (by simp) (by omega) (by omega)
  replace ob6 : OB W5 v6 l' W6 := ob6
  obtain ⟨A6, c6, rfl, hc6, hy6⟩ := ob6.bytes
  obtain ⟨ng, hng⟩ : ∃ ng, (countR l').1.ng = ng := ⟨_, rfl⟩
  obtain ⟨nb, hnb⟩ : ∃ nb, (countR l').1.nb = nb := ⟨_, rfl⟩
  rw [hng] at q3 q4 q5
  refine wpIn_seq (region_p 9 ?_)
  intro K hK
  refine ListK.move (i := 0) (v := .slice (some ⟨g, 0, none⟩) l'.length c8) rfl (by simp [u8]) ?_
  refine ListK.app31 (i := 1) rfl (by simp) (by simp [hz_a1]) hap6 ?_
  refine ListK.call (i := 2) (vs := #[(.slice A6 l'.length c6)]) rfl (enters_of Try.func37 (by kernel_rfl) rfl) (by simp [hz_a1]) ((count_any A6 l' c6 W6 hc6 hy6).mono ?_)
  rintro _ W7 ⟨rfl, hb7⟩
  rw [hng, hnb, q2, q1]
  refine ⟨_, rfl, ?_⟩
  refine ListK.move (i := 3) (v := .tuple #[.agg (c62 ng nb 0), .int .i64 0]) rfl (by simp [hz_a1]) ?_
  refine ListK.extract (i := 4) (u := .tuple #[.agg (c62 ng nb 0), .int .i64 0]) (v := .agg (c62 ng nb 0)) rfl (by simp [hz_a1]) (ex0 _ _ _) ?_
  refine ListK.extract (i := 5) (u := .tuple #[.agg (c62 ng nb 0), .int .i64 0]) (v := .int .i64 0) rfl (by simp [hz_a1]) (ex1 _ _ _) ?_
  refine ListK.alloc (i := 6) rfl (al62 W7) ?_
  refine ListK.store (i := 7) (u := .pointer (some ⟨W7.heap.size, 0, none⟩)) (u' := .agg (c62 ng nb 0)) rfl (by simp [hz_a1]) (by simp [hz_a1]) (st62 (Whole.new W7 62 #[.int .i64 0, .int .i64 0, .int .i64 0])) ?_
  refine ListK.assign (i := 8) (v := .int .i64 0) rfl (by simp [hz_a1]) ?_
  refine ListK.done (hK _ _ ?_)
  clear hK K
  have hb57 := ob6.low.trans (hb7.mono ob6.low.size)
  have w10 := (((Whole.new W7 62 #[.int .i64 0, .int .i64 0, .int .i64 0]).set 0 (.int .i64 (ng : Int))).set 1 (.int .i64 (nb : Int))).set 2 (.int .i64 ((0 : Nat) : Int))
  have hb8 : Below W7.heap.size W7 ((((W7.alloc (.cells #[.int .i64 0, .int .i64 0, .int .i64 0] 62)).setCell ⟨W7.heap.size, 0, none⟩ (.int .i64 (ng : Int))).setCell ⟨W7.heap.size, 1, none⟩ (.int .i64 (nb : Int))).setCell ⟨W7.heap.size, 2, none⟩ (.int .i64 ((0 : Nat) : Int))) := ((((Below.refl _ W7).alloc (Nat.le_refl _) _).setCell (p := ⟨W7.heap.size, 0, none⟩) (Nat.le_refl _) _).setCell (p := ⟨W7.heap.size, 1, none⟩) (Nat.le_refl _) _).setCell (p := ⟨W7.heap.size, 2, none⟩) (Nat.le_refl _) _
  have hb58 := hb57.trans (hb8.mono hb57.size)
  have hB8 := hB5.trans (hb58.mono hB5.size)
  have hbs8 := (hbs.below hb58 (Nat.le_refl _)).more hb58.size
  have hst8 := (hst5.below hb58 (Nat.le_refl _)).wide hb58.size
  generalize W7.heap.size = b10 at *
  generalize ((((W7.alloc (.cells #[.int .i64 0, .int .i64 0, .int .i64 0] 62)).setCell ⟨b10, 0, none⟩ (.int .i64 (ng : Int))).setCell ⟨b10, 1, none⟩ (.int .i64 (nb : Int))).setCell ⟨b10, 2, none⟩ (.int .i64 ((0 : Nat) : Int))) = W8 at *
  generalize hA : Act.put _ _ _ = a3
  have hz_a3 : a3.tmps.size = 102 := by rw [← hA]; simp only [size_put, hz_a1]
  have q7 : a3.eval (.tmp 7) = .slice AL L.length cL := by rw [← hA]; exact (by simp [u7])
  have q8 : a3.eval (.tmp 8) = .slice (some ⟨g, 0, none⟩) l'.length c8 := by rw [← hA]; exact (by simp [u8])
  have q10 : a3.eval (.tmp 10) = .pointer (some ⟨b10, 0, none⟩) := by rw [← hA]; exact (by simp [hz_a1])
  have q11 : a3.eval (.tmp 11) = .int .i64 0 := by rw [← hA]; exact (by simp [hz_a1])
  have hd_a3 : a3.defers = [] := by rw [← hA]; simp only [defers_put, hd_a1]
  clear hA
  refine wpIn_seq (wpIn_seq (region_p 22 ?_))
  intro K hK
  refine ListK.move (i := 0) (v := .int .i64 0) rfl (by simp [q11]) ?_
  refine ListK.bin (i := 1) (u := .int .i64 0) (u' := .int .i64 0) (v := .bool false) rfl (by simp [hz_a3]) (by simp) (neq27F rfl _) ?_
  refine ListK.move (i := 2) (v := .bool false) rfl (by simp [hz_a3]) ?_
  refine ListK.field (i := 3) (u := .pointer (some ⟨b10, 0, none⟩)) (v := .pointer (some ⟨b10, 2, none⟩)) rfl (by simp [q10]) (fa62_2 _) ?_ (hw := wanted_g (e := 49) (b' := false) rfl (by simp [hz_a3]) rfl)
  refine ListK.load (i := 4) (p := ⟨b10, 2, none⟩) (v := .int .i64 0) rfl (by simp [hz_a3]) (ld3 ((w10.cell 2))) ?_ (hw := wanted_g (e := 49) (b' := false) rfl (by simp [hz_a3]) rfl)
  refine ListK.bin (i := 5) (u := .int .i64 0) (u' := .int .i64 0) (v := .bool false) rfl (by simp [hz_a3]) (by simp) (neqF rfl _) ?_ (hw := wanted_g (e := 49) (b' := false) rfl (by simp [hz_a3]) rfl)
  refine ListK.pick (i := 6) (b := false) (v := .bool false) rfl (by simp [hz_a3]) (by simp [hz_a3]) ?_
  refine ListK.move (i := 7) (v := .bool false) rfl (by simp [hz_a3]) ?_
  refine ListK.field (i := 8) (u := .pointer (some ⟨b10, 0, none⟩)) (v := .pointer (some ⟨b10, 0, none⟩)) rfl (by simp [q10]) (fa62_0 _) ?_ (hw := wanted_g (e := 54) (b' := false) rfl (by simp [hz_a3]) rfl)
  refine ListK.load (i := 9) (p := ⟨b10, 0, none⟩) (v := .int .i64 (ng : Int)) rfl (by simp [hz_a3]) (ld3 ((w10.cell 0))) ?_ (hw := wanted_g (e := 54) (b' := false) rfl (by simp [hz_a3]) rfl)
  refine ListK.move (i := 10) (v := .slice AL L.length cL) rfl (by simp [q7]) ?_ (hw := wanted_g (e := 54) (b' := false) rfl (by simp [hz_a3]) rfl)
  refine ListK.lenW (i := 11) (u := .slice AL L.length cL) (v := .int .i64 L.length) rfl (by simp [hz_a3]) (ln36 _ _ _ _ _) rfl ?_ (hw := wanted_g (e := 54) (b' := false) rfl (by simp [hz_a3]) rfl)
  refine ListK.bin (i := 12) (u := .int .i64 L.length) (u' := .int .i64 2) (v := .int .i64 ((L.length : Int) - 2)) rfl (by simp [hz_a3]) (by simp) (sub3 (by omega) (by omega) _) ?_ (hw := wanted_g (e := 54) (b' := false) rfl (by simp [hz_a3]) rfl)
  refine ListK.bin (i := 13) (u := .int .i64 (ng : Int)) (u' := .int .i64 ((L.length : Int) - 2)) (v := .bool false) rfl (by simp [hz_a3]) (by simp [hz_a3]) (lssF3 (by omega) _) ?_ (hw := wanted_g (e := 54) (b' := false) rfl (by simp [hz_a3]) rfl)
  refine ListK.pick (i := 14) (b := false) (v := .bool false) rfl (by simp [hz_a3]) (by simp [hz_a3]) ?_
  refine ListK.move (i := 15) (v := .bool false) rfl (by simp [hz_a3]) ?_
  refine ListK.field (i := 16) (u := .pointer (some ⟨b10, 0, none⟩)) (v := .pointer (some ⟨b10, 0, none⟩)) rfl (by simp [q10]) (fa62_0 _) ?_ (hw := wanted_g (e := 62) (b' := false) rfl (by simp [hz_a3]) rfl)
  refine ListK.load (i := 17) (p := ⟨b10, 0, none⟩) (v := .int .i64 (ng : Int)) rfl (by simp [hz_a3]) (ld3 ((w10.cell 0))) ?_ (hw := wanted_g (e := 62) (b' := false) rfl (by simp [hz_a3]) rfl)
  refine ListK.move (i := 18) (v := .slice AL L.length cL) rfl (by simp [q7]) ?_ (hw := wanted_g (e := 62) (b' := false) rfl (by simp [hz_a3]) rfl)
  refine ListK.lenW (i := 19) (u := .slice AL L.length cL) (v := .int .i64 L.length) rfl (by simp [hz_a3]) (ln36 _ _ _ _ _) rfl ?_ (hw := wanted_g (e := 62) (b' := false) rfl (by simp [hz_a3]) rfl)
  refine ListK.bin (i := 20) (u := .int .i64 (ng : Int)) (u' := .int .i64 L.length) (v := .bool false) rfl (by simp [hz_a3]) (by simp [hz_a3]) (geqF (by omega) _) ?_ (hw := wanted_g (e := 62) (b' := false) rfl (by simp [hz_a3]) rfl)
  refine ListK.pick (i := 21) (b := false) (v := .bool false) rfl (by simp [hz_a3]) (by simp [hz_a3]) ?_
  refine ListK.done (hK _ _ ?_)
  clear hK K
  refine wpIn_cond (t := false) (by simp [hz_a3]) (wpIn_skip ?_)
  show sp_12.wpIn _ _ _ _ _ _
  exact sp_12_any (nb := nb) (nd := 0) (cL := cL) (c8 := c8) hL (by omega) q5 hst8 hbs8 w10 (by simp only [size_put, hz_a3]) (by simp only [defers_put, hd_a3]) (by simp [q7]) (by simp [q8]) (by simp [q10]) hB8
end
set_option maxHeartbeats 400000 in
theorem spoilt_wp (s : Ser) (A : Option Addr) (c at_ : Nat) (b : UInt8) (W : World) (hat : at_ < 65536) (hs : IntsAt W W.heap.size A s.rd) :
    Calls Try.prog 9 #[serV s A c, .int .u16 (at_ : Int), u8V b] W (TP W true) := by
  refine (callsIn_wide (n := 5)).1 (callsIn_of_wp Try.func9 body9 trivial ?_ rfl)
  obtain ⟨a, ha⟩ : ∃ a : Act, a = { tmps := #[serV s A c, .int .u16 (at_ : Int), u8V b] ++ Array.replicate (Try.f9.ntmps - (#[serV s A c, .int .u16 (at_ : Int), u8V b] : Array Value).size) undef, defers := [] } := ⟨_, rfl⟩
  have hsz : a.tmps.size = 102 := by rw [ha]; simp [Try.ntmps9]
  have t0 : a.eval (.tmp 0) = serV s A c := by rw [ha]; simp [Act.eval]
  have t1 : a.eval (.tmp 1) = .int .u16 (at_ : Int) := by rw [ha]; simp [Act.eval]
  have t2 : a.eval (.tmp 2) = u8V b := by rw [ha]; simp [Act.eval]
  have hd_a : a.defers = [] := by rw [ha]
  rw [← ha]
  clear ha
  unfold code9
  refine wpIn_seq (region_p 2 ?_)
  intro K hK
  refine ListK.box (i := 0) (u := serV s A c) rfl (by simp [t0]) (bx24 W _ _ _ _ _) ?_
  refine ListK.assign (i := 1) (v := .bool false) rfl (by simp) ?_
  refine ListK.done (hK _ _ ?_)
  clear hK K
  replace hs : IntsAt (W.alloc (.cells #[.int .i64 s.width, .int .i64 s.step, .slice A s.rd.length c] 24)) W.heap.size A s.rd := hs.below ((Below.refl W.heap.size W).alloc (Nat.le_refl _) _) (Nat.le_refl _)
  have w1 := Whole.new W 24 #[.int .i64 s.width, .int .i64 s.step, .slice A s.rd.length c]
  have hb_b1 : Below W.heap.size W (W.alloc (.cells #[.int .i64 s.width, .int .i64 s.step, .slice A s.rd.length c] 24)) := (Below.refl _ W).alloc (Nat.le_refl _) _
  have hB := hb_b1
  generalize hq_b1 : W.heap.size = b1 at *
  generalize W.alloc (.cells #[.int .i64 s.width, .int .i64 s.step, .slice A s.rd.length c] 24) = W1 at *
  have hsz1 := hB.size
  replace hs := hs.more (show b1 ≤ W1.heap.size by omega)
  generalize hA : Act.put _ _ _ = a1
  have hz_a1 : a1.tmps.size = 102 := by rw [← hA]; simp only [size_put, hsz]
  have u1 : a1.eval (.tmp 1) = .int .u16 (at_ : Int) := by rw [← hA]; exact (by simp [t1])
  have u2 : a1.eval (.tmp 2) = u8V b := by rw [← hA]; exact (by simp [t2])
  have u3 : a1.eval (.tmp 3) = .pointer (some ⟨b1, 0, none⟩) := by rw [← hA]; exact (by simp [hsz])
  have hd_a1 : a1.defers = [] := by rw [← hA]; simp only [defers_put, hd_a]
  clear hA
  have hrd := ready_any s A c W1 hs
  cases hrb : readyB s
  · rw [hrb] at hrd
    refine wpIn_seq (wpIn_seq (region_p 3 ?_))
    intro K hK
    refine ListK.load (i := 0) (p := ⟨b1, 0, none⟩) (v := serV s A c) rfl (by simp [u3]) (ld24 ⟨w1.cell 0, w1.cell 1, w1.cell 2⟩) ?_
    refine ListK.call (i := 1) (vs := #[serV s A c]) rfl (enters_of Try.func23 (by kernel_rfl) rfl) (by simp [hz_a1]) ((hrd).mono ?_)
    rintro _ W2 ⟨rfl, hb2⟩
    refine ⟨_, rfl, ?_⟩
    refine ListK.un (i := 2) (u := .bool false) (v := .bool true) rfl (by simp [hz_a1]) (not4 _ _) ?_
    refine ListK.done (hK _ _ ?_)
    clear hK K
    refine wpIn_cond (t := true) (by simp [hz_a1]) ?_
    refine wpIn_seq (region_p 2 ?_)
    intro K hK
    refine ListK.call (i := 0) (vs := #[]) rfl (enters_of Try.func16 (by kernel_rfl) rfl) (by simp) ((awake_any W2).mono ?_)
    rintro _ W3 ⟨rfl, hb3⟩
    refine ⟨_, rfl, ?_⟩
    refine ListK.assign (i := 1) (v := .bool true) rfl (by simp [hz_a1]) ?_
    refine ListK.done (hK _ _ (wpIn_ret ?_))
    refine bodyPost_ret (v := .bool true) (res1 Try.results9 (by simp [hz_a1])) (by simp only [defers_put, hd_a1]) ⟨rfl, ?_⟩
    rw [hq_b1]
    exact (hB.trans (hb2.mono (by omega))).trans (hb3.mono (by have := hb2.size; omega))
  rw [hrb] at hrd
  have hrb2 : s.rd.length ≤ 45 ∧ faultS s = 0 := by simpa [readyB] using hrb
  have n := serN hrb2.2
  have hfl := file_len n
  refine wpIn_seq (wpIn_seq (region_p 3 ?_))
  intro K hK
  refine ListK.load (i := 0) (p := ⟨b1, 0, none⟩) (v := serV s A c) rfl (by simp [u3]) (ld24 ⟨w1.cell 0, w1.cell 1, w1.cell 2⟩) ?_
  refine ListK.call (i := 1) (vs := #[serV s A c]) rfl (enters_of Try.func23 (by kernel_rfl) rfl) (by simp [hz_a1]) ((hrd).mono ?_)
  rintro _ W2 ⟨rfl, hb2⟩
  refine ⟨_, rfl, ?_⟩
  refine ListK.un (i := 2) (u := .bool true) (v := .bool false) rfl (by simp [hz_a1]) (not4 _ _) ?_
  refine ListK.done (hK _ _ ?_)
  clear hK K
  refine wpIn_cond (t := false) (by simp [hz_a1]) (wpIn_skip ?_)
  generalize hA : Act.put _ _ _ = a2
  have hz_a2 : a2.tmps.size = 102 := by rw [← hA]; simp only [size_put, hz_a1]
  have v1 : a2.eval (.tmp 1) = .int .u16 (at_ : Int) := by rw [← hA]; exact (by simp [u1])
  have v2 : a2.eval (.tmp 2) = u8V b := by rw [← hA]; exact (by simp [u2])
  have v3 : a2.eval (.tmp 3) = .pointer (some ⟨b1, 0, none⟩) := by rw [← hA]; exact (by simp [u3])
  have hd_a2 : a2.defers = [] := by rw [← hA]; simp only [defers_put, hd_a1]
  clear hA
  have w2 := w1.below hb2 w1.lt
  have hs2 := (hs.below hb2 (Nat.le_refl _)).more hb2.size
  have hB2 := hB.trans (hb2.mono (by omega))
  have hz2 := hB2.size
  rw [← hq_b1] at hB2
  refine wpIn_seq (region_p 3 ?_)
  intro K hK
  refine ListK.load (i := 0) (p := ⟨b1, 0, none⟩) (v := serV s A c) rfl (by simp [v3]) (ld24 ⟨w2.cell 0, w2.cell 1, w2.cell 2⟩) ?_
  refine ListK.call (i := 1) (vs := #[serV s A c]) rfl (enters_of Try.func22 (by kernel_rfl) rfl) (by simp [hz_a2]) ((refRecords_any s A c W2 hrb2.2 hs2).mono ?_)
  rintro _ W3 ⟨v3, rfl, os3⟩
  obtain ⟨A3, c3, rfl, hst3⟩ := os3.strs
  refine ⟨_, rfl, ?_⟩
  refine ListK.assign (i := 2) (v := .slice A3 (fileL s).length c3) rfl (by simp [hz_a2]) ?_
  refine ListK.done (hK _ _ ?_)
  clear hK K
  have hB3 := hB2.trans (os3.low.mono hB2.size)
  have hl8 := lines_len8 (fileL s) (fun r hr => (file_ok n hr).1)
  generalize hA : Act.put _ _ _ = a3
  have hz_a3 : a3.tmps.size = 102 := by rw [← hA]; simp only [size_put, hz_a2]
  have q1 : a3.eval (.tmp 1) = .int .u16 (at_ : Int) := by rw [← hA]; exact (by simp [v1])
  have q2 : a3.eval (.tmp 2) = u8V b := by rw [← hA]; exact (by simp [v2])
  have q7 : a3.eval (.tmp 7) = .slice A3 (fileL s).length c3 := by rw [← hA]; exact (by simp [hz_a2])
  have hd_a3 : a3.defers = [] := by rw [← hA]; simp only [defers_put, hd_a2]
  clear hA
  refine wpIn_seq (region_p 4 ?_)
  intro K hK
  refine ListK.move (i := 0) (v := .slice A3 (fileL s).length c3) rfl (by simp [q7]) ?_
  refine ListK.call (i := 1) (vs := #[.slice A3 (fileL s).length c3]) rfl (enters_of Try.func21 (by kernel_rfl) rfl) (by simp [hz_a3]) ((refLines_any A3 c3 (fileL s) (by omega) (by omega) W3 hst3).mono ?_)
  rintro _ W3x ⟨rfl, hWe⟩
  have hWf := hWe.symm
  subst hWf
  refine ⟨_, rfl, ?_⟩
  refine ListK.call (i := 2) (vs := #[strV (linesL (fileL s))]) rfl (enters_of Try.func26 (by kernel_rfl) rfl) (by simp [hz_a3]) ((bytes_any (linesL (fileL s)) (by omega) W3).mono ?_)
  rintro _ W4 ⟨v4, rfl, ob4⟩
  obtain ⟨g, c4, cur, rfl, hc4, hge, wg, hcur⟩ := ob4.row (by omega)
  refine ⟨_, rfl, ?_⟩
  refine ListK.assign (i := 3) (v := .slice (some ⟨g, 0, none⟩) (linesL (fileL s)).length c4) rfl (by simp [hz_a3]) ?_
  refine ListK.done (hK _ _ ?_)
  clear hK K
  have hB4 := hB3.trans (ob4.low.mono hB3.size)
  generalize hA : Act.put _ _ _ = a4
  have hz_a4 : a4.tmps.size = 102 := by rw [← hA]; simp only [size_put, hz_a3]
  have r1 : a4.eval (.tmp 1) = .int .u16 (at_ : Int) := by rw [← hA]; exact (by simp [q1])
  have r2 : a4.eval (.tmp 2) = u8V b := by rw [← hA]; exact (by simp [q2])
  have r7 : a4.eval (.tmp 7) = .slice A3 (fileL s).length c3 := by rw [← hA]; exact (by simp [q7])
  have r8 : a4.eval (.tmp 8) = .slice (some ⟨g, 0, none⟩) (linesL (fileL s)).length c4 := by rw [← hA]; exact (by simp [hz_a3])
  have hd_a4 : a4.defers = [] := by rw [← hA]; simp only [defers_put, hd_a3]
  clear hA
  obtain ⟨k, hk⟩ : ∃ k, at_ % (linesL (fileL s)).length = k := ⟨_, rfl⟩
  have hkl : k < (linesL (fileL s)).length := by rw [← hk]; exact Nat.mod_lt _ (by omega)
  refine wpIn_seq (region_p 6 ?_)
  intro K hK
  refine ListK.move (i := 0) (v := .int .u16 (at_ : Int)) rfl (by simp [r1]) ?_
  refine ListK.conv (i := 1) (u := .int .u16 (at_ : Int)) (v := .int .i64 (at_ : Int)) rfl (by simp [hz_a4]) (cv66 hat _) ?_
  refine ListK.move (i := 2) (v := .slice (some ⟨g, 0, none⟩) (linesL (fileL s)).length c4) rfl (by simp [r8]) ?_
  refine ListK.len (i := 3) (u := .slice (some ⟨g, 0, none⟩) (linesL (fileL s)).length c4) (v := .int .i64 (linesL (fileL s)).length) rfl (by simp [hz_a4]) (ln31 _ _ _ _ _) rfl ?_
  refine ListK.bin (i := 4) (u := .int .i64 (at_ : Int)) (u' := .int .i64 (linesL (fileL s)).length) (v := .int .i64 (k : Int)) rfl (by simp [hz_a4]) (by simp [hz_a4]) (rem3r (by omega) (by omega) (by rw [← hk]; rfl) _) ?_
  refine ListK.assign (i := 5) (v := .int .i64 (k : Int)) rfl (by simp [hz_a4]) ?_
  refine ListK.done (hK _ _ ?_)
  clear hK K
  generalize hA : Act.put _ _ _ = a5
  have hz_a5 : a5.tmps.size = 102 := by rw [← hA]; simp only [size_put, hz_a4]
  have x2 : a5.eval (.tmp 2) = u8V b := by rw [← hA]; exact (by simp [r2])
  have x7 : a5.eval (.tmp 7) = .slice A3 (fileL s).length c3 := by rw [← hA]; exact (by simp [r7])
  have x8 : a5.eval (.tmp 8) = .slice (some ⟨g, 0, none⟩) (linesL (fileL s)).length c4 := by rw [← hA]; exact (by simp [r8])
  have x9 : a5.eval (.tmp 9) = .int .i64 (k : Int) := by rw [← hA]; exact (by simp [hz_a4])
  have hd_a5 : a5.defers = [] := by rw [← hA]; simp only [defers_put, hd_a4]
  clear hA
  have hx := List.getElem?_eq_getElem hkl
  have hcx := hcur k _ hx
  have hcell : W4.cell? ⟨g, k, none⟩ = some (u8V (linesL (fileL s))[k]) := (wg.cell k).trans hcx
  obtain ⟨x, hxe⟩ : ∃ x, (linesL (fileL s))[k] = x := ⟨_, rfl⟩
  rw [hxe] at hx hcell
  refine wpIn_seq (wpIn_seq (region_p 6 ?_))
  intro K hK
  refine ListK.move (i := 0) (v := .slice (some ⟨g, 0, none⟩) (linesL (fileL s)).length c4) rfl (by simp [x8]) ?_
  refine ListK.move (i := 1) (v := .int .i64 (k : Int)) rfl (by simp [x9]) ?_
  refine ListK.index (i := 2) (u := .slice (some ⟨g, 0, none⟩) (linesL (fileL s)).length c4) (u' := .int .i64 (k : Int)) (v := .pointer (some ⟨g, k, none⟩)) rfl (by simp [hz_a5]) (by simp [hz_a5]) (ix31z hkl _) ?_
  refine ListK.load (i := 3) (p := ⟨g, k, none⟩) (v := u8V x) rfl (by simp [hz_a5]) (ld5 (hcell)) ?_
  refine ListK.move (i := 4) (v := u8V b) rfl (by simp [x2]) ?_
  refine ListK.bin (i := 5) (u := u8V x) (u' := u8V b) (v := .bool (decide (x = b))) rfl (by simp [hz_a5]) (by simp [hz_a5]) (eql5n x b _) ?_
  refine ListK.done (hK _ _ ?_)
  clear hK K
  by_cases hxb : x = b
  · rw [decide_eq_true hxb]
    refine wpIn_cond (t := true) (by simp [hz_a5]) ?_
    refine wpIn_seq (region_p 2 ?_)
    intro K hK
    refine ListK.call (i := 0) (vs := #[]) rfl (enters_of Try.func16 (by kernel_rfl) rfl) (by simp) ((awake_any W4).mono ?_)
    rintro _ W5 ⟨rfl, hb5⟩
    refine ⟨_, rfl, ?_⟩
    refine ListK.assign (i := 1) (v := .bool true) rfl (by simp [hz_a5]) ?_
    refine ListK.done (hK _ _ (wpIn_ret ?_))
    exact bodyPost_ret (v := .bool true) (res1 Try.results9 (by simp [hz_a5])) (by simp only [defers_put, hd_a5]) ⟨rfl, hB4.trans (hb5.mono hB4.size)⟩
  · rw [decide_eq_false hxb]
    refine wpIn_cond (t := false) (by simp [hz_a5]) (wpIn_skip ?_)
    obtain ⟨q1, q2, q3, q4, q5⟩ := spoilt_counts n (k := k) (b := b) hkl (by rw [hx]; exact fun e => hxb (Option.some.inj e))
    show sp_8.wpIn _ _ _ _ _ _
    have hz3 := hB3.size
    exact sp_8_any (c8 := c4) (cL := c3) (by omega) (by omega) hkl q1 q2 q3 q4 q5 wg hcur ((hst3.below ob4.low (Nat.le_refl _)).wide hge) (by omega) (by simp only [size_put, hz_a5]) (by simp only [defers_put, hd_a5]) (by simp [x2]) (by simp [x7]) (by simp [x8]) (by simp [x9]) hB4
theorem spoilt_wp2 (s : Ser) (A : Option Addr) (c at_ by_ : Nat) (W : World) (hat : at_ < 65536) (hby : by_ < 256) (hs : IntsAt W W.heap.size A s.rd) :
    Calls Try.prog 9 #[serV s A c, .int .u16 (at_ : Int), .int .u8 (by_ : Int)] W (TP W true) := by
  have h := spoilt_wp s A c at_ (UInt8.ofNat by_) W hat hs
  rwa [show u8V (UInt8.ofNat by_) = .int .u8 (by_ : Int) by simp [u8V, Nat.mod_eq_of_lt hby]] at h
end Go.Proofs.YtmdlmmfbcnkanaaR
