/- Texts for a law of package file, behind the shared ones, part 1: the law's own contracts and plain words. -/
import Derived.Test.YtmdlmmfbcnkanaaRA4

set_option linter.unusedVariables false
set_option maxRecDepth 10000

namespace Go.Proofs.YtmdlmmfbcnkanaaR
open Go.RowKit Go.Shelf
theorem ListK.pickW {P : Program} {ops : Array Oper} {K : Act → World → Prop} {k i d : Nat} {a : Act} {w : World} {ty : TypeId} {pos : String} {aft : Array Edge} {gd : Option (Nat × Bool)} {c x y : Operand} {b : Bool} {v : Value} (hi : ops[i]? = some ⟨some d, .pick c x y, ty, pos, aft, gd⟩) (hc : a.eval c = .bool b) (hx : (if b then a.eval x else a.eval y) = v)
    (h : ListK P ops K k (i + 1) (a.put (some d) v) w) (hw : Region.wanted ⟨some d, .pick c x y, ty, pos, aft, gd⟩ (yielded ops a.tmps) = true := by rfl) : ListK P ops K (k + 1) i a w :=
  ListK.valW hi hw (by simp [execOp, hc, asBool]; cases b <;> simpa using hx) h
/-- A slice of words. -/
def WordsAt (w : World) (B : Nat) (A : Option Addr) (l : List Nat) : Prop := ∀ (k x : Nat), l[k]? = some x → x < 65536 ∧ ∃ b off, A = some ⟨b, off, none⟩ ∧ b < B ∧ w.cell? ⟨b, off + k, none⟩ = some (.int .u16 x)
theorem eql3 {x y : Operand} {m n : Int} (w : World) : (do eqGuard .eql 3 x y (.int .i64 m) (.int .i64 n); binOp .eql 3 (.int .i64 m) (.int .i64 n) : Sem Value).run Try.prog w = .ok (.bool (m == n)) w := by
  go_simp
theorem eqlT {x y : Operand} {m n : Int} (h : m = n) (w : World) : (do eqGuard .eql 3 x y (.int .i64 m) (.int .i64 n); binOp .eql 3 (.int .i64 m) (.int .i64 n) : Sem Value).run Try.prog w = .ok (.bool true) w := by
  rw [eql3 w]
  simp [h]
theorem eqlF {x y : Operand} {m n : Int} (h : m ≠ n) (w : World) : (do eqGuard .eql 3 x y (.int .i64 m) (.int .i64 n); binOp .eql 3 (.int .i64 m) (.int .i64 n) : Sem Value).run Try.prog w = .ok (.bool false) w := by
  rw [eql3 w]
  simp [h]
theorem neqT {x y : Operand} {m n : Int} (h : m ≠ n) (w : World) : (do eqGuard .neq 3 x y (.int .i64 m) (.int .i64 n); binOp .neq 3 (.int .i64 m) (.int .i64 n) : Sem Value).run Try.prog w = .ok (.bool true) w := by
  rw [neq3 w]
  simp [h]
theorem geqT {x y : Operand} {m n : Int} (h : n ≤ m) (w : World) : (do eqGuard .geq 3 x y (.int .i64 m) (.int .i64 n); binOp .geq 3 (.int .i64 m) (.int .i64 n) : Sem Value).run Try.prog w = .ok (.bool true) w := by
  go_simp
theorem geqF {x y : Operand} {m n : Int} (h : ¬ n ≤ m) (w : World) : (do eqGuard .geq 3 x y (.int .i64 m) (.int .i64 n); binOp .geq 3 (.int .i64 m) (.int .i64 n) : Sem Value).run Try.prog w = .ok (.bool false) w := by
  go_simp
theorem eql27F {x y : Operand} {m n : Int} (h : m ≠ n) (w : World) : (do eqGuard .eql 27 x y (.int .i64 m) (.int .i64 n); binOp .eql 27 (.int .i64 m) (.int .i64 n) : Sem Value).run Try.prog w = .ok (.bool false) w := by
  go_simp
theorem eql4T {x y : Operand} {m n : Bool} (h : m = n) (w : World) : (do eqGuard .eql 4 x y (.bool m) (.bool n); binOp .eql 4 (.bool m) (.bool n) : Sem Value).run Try.prog w = .ok (.bool true) w := by
  subst h
  cases m <;> go_simp
theorem leqT {x y : Operand} {m n : Int} (h : m ≤ n) (w : World) : (do eqGuard .leq 3 x y (.int .i64 m) (.int .i64 n); binOp .leq 3 (.int .i64 m) (.int .i64 n) : Sem Value).run Try.prog w = .ok (.bool true) w := by
  rw [leq3]
  simp [h]
section
variable {κ : Type} [DecidableEq κ]
theorem getK_mem {k : κ} {v : Value} : ∀ {l : List (κ × Value)}, getK l k = some v → (k, v) ∈ l
  | [], h => by simp [getK_nil] at h
  | p :: l, h => by
    rw [getK_cons] at h
    split at h
    · rename_i e
      cases h
      simp [e]
    · exact List.mem_cons_of_mem _ (getK_mem h)
end
section
variable {W0 : World} {b2 b3 b4 ba M : Nat} {Ds : List Nat} {m : List (List UInt8)}
theorem dig_nat {b : UInt8} (h : isDig b = true) : (dig b : Nat) = b.toNat - 48 ∧ dig b ≤ 9 := by
  simp [isDig] at h
  have : dig b = b.toNat - 48 := by
    unfold dig
    rw [UInt8.toNat_sub_of_le _ _ (by rw [UInt8.le_iff_toNat_le]; exact h.1)]
    rfl
  omega
end
end Go.Proofs.YtmdlmmfbcnkanaaR
namespace Go.Proofs.YtmdlmmfbcnkanaaR
open Go.RowKit Go.Shelf
noncomputable def opsSh0 : Array Oper := (Try.f15.body.bind (regionOf 0)).getD #[]
noncomputable def opsSh1 : Array Oper := (Try.f15.body.bind (regionOf 1)).getD #[]
noncomputable def code15 : Code := (.seq (.region 0 opsSh0 false) (.seq (.region 1 opsSh1 false) .ret))
theorem body15 : Try.f15.body = some code15 := by kernel_rfl
theorem short_any (s : Ser) (A : Option Addr) (c : Nat) (W : World) : Calls Try.prog 15 #[serV s A c] W (EvP W (.bool (decide ((s.rd.length : Int) ≤ 45)))) := by
  refine (callsIn_wide (n := 5)).1 (callsIn_of_wp Try.func15 body15 trivial ?_ rfl)
  obtain ⟨a, ha⟩ : ∃ a : Act, a = { tmps := #[serV s A c] ++ Array.replicate (Try.f15.ntmps - (#[serV s A c] : Array Value).size) undef, defers := [] } := ⟨_, rfl⟩
  have hsz : a.tmps.size = 7 := by rw [ha]; simp [Try.ntmps15]
  have t0 : a.eval (.tmp 0) = serV s A c := by rw [ha]; simp [Act.eval]
  have hd_a : a.defers = [] := by rw [ha]
  rw [← ha]
  clear ha
  unfold code15
  refine wpIn_seq (region_p 2 ?_)
  intro K hK
  refine ListK.box (i := 0) (u := serV s A c) rfl (by simp [t0]) (bx24 W _ _ _ _ _) ?_
  refine ListK.assign (i := 1) (v := .bool false) rfl (by simp) ?_
  refine ListK.done (hK _ _ ?_)
  clear hK K
  have w1 := Whole.new W 24 #[.int .i64 s.width, .int .i64 s.step, .slice A s.rd.length c]
  have hb_b1 : Below W.heap.size W (W.alloc (.cells #[.int .i64 s.width, .int .i64 s.step, .slice A s.rd.length c] 24)) := (Below.refl _ W).alloc (Nat.le_refl _) _
  have hB := hb_b1
  generalize hq_b1 : W.heap.size = b1 at *
  generalize W.alloc (.cells #[.int .i64 s.width, .int .i64 s.step, .slice A s.rd.length c] 24) = W1 at *
  generalize hA : Act.put _ _ _ = a1
  have hz_a1 : a1.tmps.size = 7 := by rw [← hA]; simp only [size_put, hsz]
  have u1 : a1.eval (.tmp 1) = .pointer (some ⟨b1, 0, none⟩) := by rw [← hA]; exact (by simp [hsz])
  have hd_a1 : a1.defers = [] := by rw [← hA]; simp only [defers_put, hd_a]
  clear hA
  refine wpIn_seq (region_p 5 ?_)
  intro K hK
  refine ListK.field (i := 0) (u := .pointer (some ⟨b1, 0, none⟩)) (v := .pointer (some ⟨b1, 2, none⟩)) rfl (by simp [u1]) (fa24_2 _) ?_
  refine ListK.load (i := 1) (p := ⟨b1, 2, none⟩) (v := .slice A s.rd.length c) rfl (by simp [hz_a1]) (ld22 (w1.cell 2)) ?_
  refine ListK.len (i := 2) (u := .slice A s.rd.length c) (v := .int .i64 s.rd.length) rfl (by simp [hz_a1]) (ln22 _ _ _ _ _) rfl ?_
  refine ListK.bin (i := 3) (u := .int .i64 s.rd.length) (u' := .int .i64 45) (v := .bool (decide ((s.rd.length : Int) ≤ 45))) rfl (by simp [hz_a1]) (by simp) (leq3 _) ?_
  refine ListK.assign (i := 4) (v := .bool (decide ((s.rd.length : Int) ≤ 45))) rfl (by simp [hz_a1]) ?_
  refine ListK.done (hK _ _ (wpIn_ret ?_))
  exact bodyPost_ret (v := .bool (decide ((s.rd.length : Int) ≤ 45))) (res1 Try.results15 (by simp [hz_a1])) (by simp only [defers_put, hd_a1]) ⟨rfl, by rw [hq_b1]; exact hB⟩
section
attribute [local irreducible] AnyK StepK
end
end Go.Proofs.YtmdlmmfbcnkanaaR
namespace Go.Proofs.YtmdlmmfbcnkanaaR

theorem isDig_hi {n : Nat} (h : n ≤ 99) : isDig (hi2 n) = true ∧ dig (hi2 n) = n / 10 := by
  have h1 : isDig (hi2 n) = true := by
    simp only [isDig, decide_eq_true_eq, hi2_nat h]
    omega
  have h2 := (dig_nat h1).1
  rw [hi2_nat h] at h2
  exact ⟨h1, by omega⟩
theorem isDig_lo {n : Nat} (h : n ≤ 99) : isDig (lo2 n) = true ∧ dig (lo2 n) = n % 10 := by
  have h1 : isDig (lo2 n) = true := by
    simp only [isDig, decide_eq_true_eq, lo2_nat h]
    omega
  have h2 := (dig_nat h1).1
  rw [lo2_nat h] at h2
  exact ⟨h1, by omega⟩
theorem num2_two {n : Nat} (h : n ≤ 99) : num2 (hi2 n) (lo2 n) = n := by
  rw [num2, (isDig_hi h).2, (isDig_lo h).2]
  omega
theorem not10 {b : UInt8} (h : isDig b = true) : b ≠ 10 := by
  rintro rfl
  simp [isDig] at h
theorem made_no10 {k : UInt8} {a b : Nat} (hk : k ≠ 10) (ha : a ≤ 99) (hb : b ≤ 99) : (10 : UInt8) ∉ made k a b := by
  have hc : chk5 k (hi2 a) (lo2 a) (hi2 b) (lo2 b) ≤ 99 := by have := chk5_lt k (hi2 a) (lo2 a) (hi2 b) (lo2 b); omega
  have h1 := not10 (isDig_hi ha).1
  have h2 := not10 (isDig_lo ha).1
  have h3 := not10 (isDig_hi hb).1
  have h4 := not10 (isDig_lo hb).1
  have h5 := not10 (isDig_hi hc).1
  have h6 := not10 (isDig_lo hc).1
  simp only [made, List.mem_cons, List.not_mem_nil, or_false, not_or]
  exact ⟨hk.symm, h1.symm, h2.symm, h3.symm, h4.symm, h5.symm, h6.symm⟩
theorem made_good {k : UInt8} {a b : Nat} (hk : k = 72 ∨ k = 82 ∨ k = 80) (ha : a ≤ 99) (hb : b ≤ 99) (hh : k = 72 → headOk (a : Int) ((b / 10 : Nat) : Int) ((b % 10 : Nat) : Int) = true) : isGood (made k a b) = true := by
  have hc : chk5 k (hi2 a) (lo2 a) (hi2 b) (lo2 b) ≤ 99 := by have := chk5_lt k (hi2 a) (lo2 a) (hi2 b) (lo2 b); omega
  have e1 : (k == 72 || k == 82 || k == 80) = true := by rcases hk with rfl | rfl | rfl <;> rfl
  simp only [made, isGood, good7, e1, (isDig_hi ha).1, (isDig_lo ha).1, (isDig_hi hb).1, (isDig_lo hb).1, (isDig_hi hc).1, (isDig_lo hc).1, num2_two hc, num2_two ha, (isDig_hi hb).2, (isDig_lo hb).2, Bool.and_self, BEq.rfl, Bool.true_and]
  by_cases h72 : k = 72
  · rw [hh h72]
    simp
  · simp [h72]
theorem made_name {k : UInt8} {a b : Nat} (ha : a ≤ 99) : nameOf (made k a b) = if k = 72 then (72, 0) else (k, a) := by
  simp only [made, nameOf, num2_two ha]
theorem made_val {k : UInt8} {a b : Nat} (hb : b ≤ 99) : valOf (made k a b) = b := by
  simp only [made, valOf, num2_two hb]
theorem made_head {m w st : Nat} (hm : m ≤ 99) (hw : w ≤ 9) (hs : st ≤ 9) : headOf (made 72 m (10 * w + st)) = ⟨m, w, st⟩ := by
  have hb : 10 * w + st ≤ 99 := by omega
  simp only [made, headOf, num2_two hm, (isDig_hi hb).2, (isDig_lo hb).2, Head.mk.injEq, true_and]
  omega
/-- Records of which no two of one name differ. -/
def Func (L : List (List UInt8)) : Prop := ∀ a b, a ∈ L → b ∈ L → nameOf a = nameOf b → a = b
theorem find_iff {m : List (List UInt8)} (hf : Func m) {nm : UInt8 × Nat} {r : List UInt8} : find m nm = some r ↔ r ∈ m ∧ nameOf r = nm := by
  constructor
  · exact find_mem
  · rintro ⟨h1, h2⟩
    cases h : find m nm with
    | none =>
      unfold find at h
      rw [List.find?_eq_none] at h
      have := h r h1
      simp [h2] at this
    | some r' =>
      obtain ⟨h3, h4⟩ := find_mem h
      rw [hf r' r h3 h1 (h4.trans h2.symm)]
theorem takeUp_ok : ∀ (T m : List (List UInt8)), Func (m ++ T) → ∃ m', takeUp m T = some m' ∧ ∀ r, r ∈ m' ↔ r ∈ m ++ T
  | [], m, _ => ⟨m, rfl, fun r => by simp⟩
  | g :: T, m, hf => by
    simp only [takeUp]
    cases h : find m (nameOf g) with
    | none =>
      obtain ⟨m', h1, h2⟩ := takeUp_ok T (m ++ [g]) (by simpa using hf)
      exact ⟨m', h1, fun r => by rw [h2]; simp⟩
    | some old =>
      obtain ⟨h3, h4⟩ := find_mem h
      have ho : old = g := hf old g (by simp [h3]) (by simp) h4
      subst ho
      obtain ⟨m', h1, h2⟩ := takeUp_ok T m (fun a b ha hb => hf a b (by
        rcases List.mem_append.1 ha with h | h
        · simp [h]
        · simp [h]) (by
        rcases List.mem_append.1 hb with h | h
        · simp [h]
        · simp [h]))
      refine ⟨m', by simpa using h1, fun r => ?_⟩
      rw [h2]
      simp only [List.mem_append, List.mem_cons]
      constructor
      · rintro (h | h)
        · exact .inl h
        · exact .inr (.inr h)
      · rintro (h | rfl | h)
        · exact .inl h
        · exact .inl h3
        · exact .inr h
theorem Func.of_sub {L L' : List (List UInt8)} (h : Func L) (hs : ∀ r, r ∈ L' → r ∈ L) : Func L' := fun a b ha hb => h a b (hs a ha) (hs b hb)
end Go.Proofs.YtmdlmmfbcnkanaaR
namespace Go.Proofs.YtmdlmmfbcnkanaaR
open Go.RowKit Go.Shelf
theorem ba_extract (l : List UInt8) (a b : Nat) : (⟨l.toArray⟩ : ByteArray).extract a b = ⟨((l.drop a).take (b - a)).toArray⟩ := by
  apply ByteArray.ext
  simp
theorem sl9B {l : List UInt8} {a b : Nat} (h : a ≤ b) (h2 : b ≤ l.length) (w : World) : (Instr.sliceAt 9 (strV l) (some (.int .i64 (a : Int))) (some (.int .i64 (b : Int))) none).run Try.prog w = .ok (strV ((l.drop a).take (b - a))) w := by
  go_simp
  rw [ba_extract]
theorem sl9L {l : List UInt8} {a : Nat} (h : a ≤ l.length) (w : World) : (Instr.sliceAt 9 (strV l) (some (.int .i64 (a : Int))) none none).run Try.prog w = .ok (strV (l.drop a)) w := by
  go_simp
  rw [ba_extract]
  have : (l.drop a).take (l.length - a) = l.drop a := by rw [← List.length_drop, List.take_length]
  simp [this]
theorem sl9H {l : List UInt8} {a : Nat} (h : a ≤ l.length) (w : World) : (Instr.sliceAt 9 (strV l) none (some (.int .i64 (a : Int))) none).run Try.prog w = .ok (strV (l.take a)) w := by
  go_simp
  rw [ba_extract]
  simp
theorem ListK.sliceLH {P : Program} {ops : Array Oper} {K : Act → World → Prop} {k i d : Nat} {a : Act} {w : World} {ty : TypeId} {pos : String} {aft : Array Edge} {gd : Option (Nat × Bool)} {t : TypeId} {x y z : Operand} {u u' u'' v : Value} (hi : ops[i]? = some ⟨some d, .slice t x (some y) (some z) none, ty, pos, aft, gd⟩) (hx : a.eval x = u) (hy : a.eval y = u') (hz : a.eval z = u'') (hv : (Instr.sliceAt t u (some u') (some u'') none).run P w = .ok v w)
    (h : ListK P ops K k (i + 1) (a.put (some d) v) w) (hw : Region.wanted ⟨some d, .slice t x (some y) (some z) none, ty, pos, aft, gd⟩ (yielded ops a.tmps) = true := by rfl) : ListK P ops K (k + 1) i a w := ListK.valW hi hw (by simp [execOp, hx, hy, hz, hv]) h
theorem eql5n {x y : Operand} (a b : UInt8) (w : World) : (do eqGuard .eql 5 x y (u8V a) (u8V b); binOp .eql 5 (u8V a) (u8V b) : Sem Value).run Try.prog w = .ok (.bool (decide (a = b))) w := by
  go_simp
  by_cases h : a = b
  · simp [h]
  · have : ¬ (a.toNat : Int) = b.toNat := fun e => h (UInt8.toNat_inj.1 (by omega))
    simp [h, this]
theorem neq5n {x y : Operand} (a b : UInt8) (w : World) : (do eqGuard .neq 5 x y (u8V a) (u8V b); binOp .neq 5 (u8V a) (u8V b) : Sem Value).run Try.prog w = .ok (.bool (!decide (a = b))) w := by
  go_simp
  by_cases h : a = b
  · simp [h]
  · have : ¬ (a.toNat : Int) = b.toNat := fun e => h (UInt8.toNat_inj.1 (by omega))
    simp [h, this]
theorem lss5n {x y : Operand} (a : UInt8) (n : Int) (w : World) : (do eqGuard .lss 5 x y (u8V a) (.int .u8 n); binOp .lss 5 (u8V a) (.int .u8 n) : Sem Value).run Try.prog w = .ok (.bool (decide ((a.toNat : Int) < n))) w := by go_simp
theorem gtr5n {x y : Operand} (a : UInt8) (n : Int) (w : World) : (do eqGuard .gtr 5 x y (u8V a) (.int .u8 n); binOp .gtr 5 (u8V a) (.int .u8 n) : Sem Value).run Try.prog w = .ok (.bool (decide (n < (a.toNat : Int)))) w := by go_simp
theorem eql9n {x y : Operand} (l k : List UInt8) (w : World) : (do eqGuard .eql 9 x y (strV l) (strV k); binOp .eql 9 (strV l) (strV k) : Sem Value).run Try.prog w = .ok (.bool (decide (l = k))) w := by
  go_simp
  by_cases h : l = k
  · simp [h]
  · simp [h]
theorem neq9n {x y : Operand} (l k : List UInt8) (w : World) : (do eqGuard .neq 9 x y (strV l) (strV k); binOp .neq 9 (strV l) (strV k) : Sem Value).run Try.prog w = .ok (.bool (!decide (l = k))) w := by
  go_simp
  by_cases h : l = k
  · simp [h]
  · simp [h]
theorem pieces_cons (acc : List UInt8) (b : UInt8) (l : List UInt8) : pieces acc (b :: l) = if b = 10 then acc :: pieces [] l else pieces (acc ++ [b]) l := by rw [pieces]
noncomputable def opsPc0 : Array Oper := (Try.f33.body.bind (regionOf 0)).getD #[]
noncomputable def opsPc1 : Array Oper := (Try.f33.body.bind (regionOf 1)).getD #[]
noncomputable def opsPc2 : Array Oper := (Try.f33.body.bind (regionOf 2)).getD #[]
noncomputable def opsPc3 : Array Oper := (Try.f33.body.bind (regionOf 3)).getD #[]
noncomputable def opsPc4 : Array Oper := (Try.f33.body.bind (regionOf 4)).getD #[]
noncomputable def opsPc5 : Array Oper := (Try.f33.body.bind (regionOf 5)).getD #[]
noncomputable def opsPc6 : Array Oper := (Try.f33.body.bind (regionOf 6)).getD #[]
noncomputable def opsPc7 : Array Oper := (Try.f33.body.bind (regionOf 7)).getD #[]
noncomputable def opsPc8 : Array Oper := (Try.f33.body.bind (regionOf 8)).getD #[]
noncomputable def opsPc9 : Array Oper := (Try.f33.body.bind (regionOf 9)).getD #[]
noncomputable def pc_l : Code := (.seq (.seq (.region 4 opsPc4 false) (.cond (.tmp 9) .skip (.exit 0))) (.seq (.block 1 (.seq (.region 6 opsPc6 false) (.cond (.tmp 15) (.seq (.region 7 opsPc7 false) (.region 8 opsPc8 false)) .skip))) (.region 5 opsPc5 false)))
noncomputable def code33 : Code := (.seq (.region 0 opsPc0 false) (.seq (.region 1 opsPc1 false) (.seq (.region 2 opsPc2 false) (.seq (.seq (.region 3 opsPc3 false) (.block 0 (.loop pc_l))) (.seq (.region 9 opsPc9 false) .ret)))))
theorem body33 : Try.f33.body = some code33 := by kernel_rfl
set_option maxHeartbeats 400000 in
theorem refPieces_any (l : List UInt8) (hl : l.length ≤ 90000) (W : World) : Calls Try.prog 33 #[strV l] W (fun e w' => ∃ v, e = .returned v ∧ OS W v (pieces [] l) w') := by
  refine (callsIn_wide (n := 5)).1 (callsIn_of_wp Try.func33 body33 trivial ?_ rfl)
  obtain ⟨a, ha⟩ : ∃ a : Act, a = { tmps := #[strV l] ++ Array.replicate (Try.f33.ntmps - (#[strV l] : Array Value).size) undef, defers := [] } := ⟨_, rfl⟩
  have hsz : a.tmps.size = 26 := by rw [ha]; simp [Try.ntmps33]
  have t0 : a.eval (.tmp 0) = strV l := by rw [ha]; simp [Act.eval]
  have hd_a : a.defers = [] := by rw [ha]
  rw [← ha]
  clear ha
  unfold code33
  refine wpIn_seq (region_p 1 ?_)
  intro K hK
  refine ListK.assign (i := 0) (v := .slice none 0 0) rfl (by simp) ?_
  refine ListK.done (hK _ _ ?_)
  clear hK K
  refine wpIn_seq (region_p 1 ?_)
  intro K hK
  refine ListK.assign (i := 0) (v := .slice none 0 0) rfl (by simp) ?_
  refine ListK.done (hK _ _ ?_)
  clear hK K
  refine wpIn_seq (region_p 1 ?_)
  intro K hK
  refine ListK.assign (i := 0) (v := .int .i64 0) rfl (by simp) ?_
  refine ListK.done (hK _ _ ?_)
  clear hK K
  generalize hA : Act.put _ _ _ = a1
  have hz_a1 : a1.tmps.size = 26 := by rw [← hA]; simp only [size_put, hsz]
  have u0 : a1.eval (.tmp 0) = strV l := by rw [← hA]; exact (by simp [t0])
  have u3 : a1.eval (.tmp 3) = .slice none 0 0 := by rw [← hA]; exact (by simp [hsz])
  have u4 : a1.eval (.tmp 4) = .int .i64 0 := by rw [← hA]; exact (by simp [hsz])
  have hd_a1 : a1.defers = [] := by rw [← hA]; simp only [defers_put, hd_a]
  clear hA
  refine wpIn_seq (wpIn_seq (region_p 1 ?_))
  intro K hK
  refine ListK.assign (i := 0) (v := .int .i64 0) rfl (by simp) ?_
  refine ListK.done (hK _ _ ?_)
  clear hK K
  generalize hA : Act.put _ _ _ = a2
  have hz_a2 : a2.tmps.size = 26 := by rw [← hA]; simp only [size_put, hz_a1]
  have v0 : a2.eval (.tmp 0) = strV l := by rw [← hA]; exact (by simp [u0])
  have v3 : a2.eval (.tmp 3) = .slice none 0 0 := by rw [← hA]; exact (by simp [u3])
  have v4 : a2.eval (.tmp 4) = .int .i64 0 := by rw [← hA]; exact (by simp [u4])
  have v5 : a2.eval (.tmp 5) = .int .i64 0 := by rw [← hA]; exact (by simp [hz_a1])
  have hd_a2 : a2.defers = [] := by rw [← hA]; simp only [defers_put, hd_a1]
  clear hA
  refine wpIn_block (wpIn_loop (fun a W' => ∃ (i fr : Nat) (v : Value) (O : List (List UInt8)), i ≤ l.length ∧ fr ≤ i ∧ O.length ≤ i ∧ O ++ pieces ((l.drop fr).take (i - fr)) (l.drop i) = pieces [] l ∧ OS W v O W' ∧ a.tmps.size = 26 ∧ a.defers = [] ∧ a.eval (.tmp 0) = strV l ∧ a.eval (.tmp 3) = v ∧ a.eval (.tmp 4) = .int .i64 (fr : Int) ∧ a.eval (.tmp 5) = .int .i64 (i : Int)) (fun a _ => l.length - (intOf (a.eval (.tmp 5))).toNat)
    ⟨0, 0, _, [], Nat.zero_le _, Nat.le_refl _, Nat.le_refl _, by simp, ⟨Below.refl _ _, rfl, .inl ⟨rfl, rfl⟩⟩, hz_a2, hd_a2, v0, v3, v4, v5⟩ ?_)
  rintro b1 W1 ⟨i, fr, v, O, hi, hfr, hO, hpc, os, hz_b1, hd_b1, s0, s3, s4, s5⟩
  unfold pc_l
  by_cases hlt : i < l.length
  · skip
    refine wpIn_seq (wpIn_seq (region_p 4 ?_))
    intro K hK
    refine ListK.move (i := 0) (v := .int .i64 (i : Int)) rfl (by simp [s5]) ?_
    refine ListK.move (i := 1) (v := strV l) rfl (by simp [s0]) ?_
    refine ListK.lenW (i := 2) (u := strV l) (v := .int .i64 (l.length : Int)) rfl (by simp [hz_b1]) (ln9 _ _ _) rfl ?_
    refine ListK.bin (i := 3) (u := .int .i64 (i : Int)) (u' := .int .i64 (l.length : Int)) (v := .bool true) rfl (by simp [hz_b1]) (by simp [hz_b1]) (lssT3 (by omega) _) ?_
    refine ListK.done (hK _ _ ?_)
    clear hK K
    refine wpIn_cond (t := true) (by simp [hz_b1]) (wpIn_skip ?_)
    generalize hA : Act.put _ _ _ = b2
    have hz_b2 : b2.tmps.size = 26 := by rw [← hA]; simp only [size_put, hz_b1]
    have o0 : b2.eval (.tmp 0) = strV l := by rw [← hA]; exact (by simp [s0])
    have o3 : b2.eval (.tmp 3) = v := by rw [← hA]; exact (by simp [s3])
    have o4 : b2.eval (.tmp 4) = .int .i64 (fr : Int) := by rw [← hA]; exact (by simp [s4])
    have o5 : b2.eval (.tmp 5) = .int .i64 (i : Int) := by rw [← hA]; exact (by simp [s5])
    have hd_b2 : b2.defers = [] := by rw [← hA]; simp only [defers_put, hd_b1]
    clear hA
    have hx := List.getElem?_eq_getElem hlt
    have hdr : l.drop i = l[i] :: l.drop (i + 1) := List.drop_eq_getElem_cons hlt
    have hgo : ∀ (fr' : Nat) (v' : Value) (O' : List (List UInt8)) (b : Act) (W' : World), fr' ≤ i + 1 → O'.length ≤ i + 1 → O' ++ pieces ((l.drop fr').take (i + 1 - fr')) (l.drop (i + 1)) = pieces [] l → OS W v' O' W' → b.tmps.size = 26 → b.defers = [] → b.eval (.tmp 0) = strV l → b.eval (.tmp 3) = v' → b.eval (.tmp 4) = .int .i64 (fr' : Int) → b.eval (.tmp 5) = .int .i64 (i : Int) →
        (Code.region 5 opsPc5 false).wpIn Fence.wide 5 Try.prog (fun e a' w' => (e = .normal ∧ (∃ (i fr : Nat) (v : Value) (O : List (List UInt8)), i ≤ l.length ∧ fr ≤ i ∧ O.length ≤ i ∧ O ++ pieces ((l.drop fr).take (i - fr)) (l.drop i) = pieces [] l ∧ OS W v O w' ∧ a'.tmps.size = 26 ∧ a'.defers = [] ∧ a'.eval (.tmp 0) = strV l ∧ a'.eval (.tmp 3) = v ∧ a'.eval (.tmp 4) = .int .i64 (fr : Int) ∧ a'.eval (.tmp 5) = .int .i64 (i : Int)) ∧ l.length - (intOf (a'.eval (.tmp 5))).toNat < l.length - (intOf (b1.eval (.tmp 5))).toNat)) b W' := by
      intro fr' v' O' b W' h1 h2 h3 os' hz_b hd_b p0 p3 p4 p5
      refine region_p 3 ?_
      intro K hK
      refine ListK.move (i := 0) (v := .int .i64 (i : Int)) rfl (by simp [p5]) ?_
      refine ListK.bin (i := 1) (u := .int .i64 (i : Int)) (u' := .int .i64 1) (v := .int .i64 ((i + 1 : Nat) : Int)) rfl (by simp [hz_b]) (by simp) (add3 (by omega) (by omega) _) ?_
      refine ListK.assign (i := 2) (v := .int .i64 ((i + 1 : Nat) : Int)) rfl (by simp [hz_b]) ?_
      refine ListK.done (hK _ _ ?_)
      clear hK K
      refine ⟨rfl, ⟨i + 1, fr', v', O', by omega, h1, h2, h3, os', (by simp only [size_put, hz_b]), (by simp only [defers_put, hd_b]), (by simp [p0]), (by simp [p3]), (by simp [p4]), (by simp [hz_b])⟩, ?_⟩
      rw [s5, show (Act.put _ _ _).eval (.tmp 5) = .int .i64 ((i + 1 : Nat) : Int) from (by simp [hz_b])]
      simp only [intOf]
      omega
    rw [hdr, pieces_cons] at hpc
    refine wpIn_seq (wpIn_block ?_)
    by_cases h10 : l[i] = 10
    · rw [if_pos h10] at hpc
      refine wpIn_seq (region_p 4 ?_)
      intro K hK
      refine ListK.move (i := 0) (v := strV l) rfl (by simp [o0]) ?_
      refine ListK.move (i := 1) (v := .int .i64 (i : Int)) rfl (by simp [o5]) ?_
      refine ListK.indexV (i := 2) (u := strV l) (u' := .int .i64 (i : Int)) (v := u8V l[i]) rfl (by simp [hz_b2]) (by simp [hz_b2]) (ix9 hx _) ?_
      refine ListK.bin (i := 3) (u := u8V l[i]) (u' := .int .u8 10) (v := .bool true) rfl (by simp [hz_b2]) (by simp) (by rw [← decide_eq_true h10]; exact eql5n _ 10 _) ?_
      refine ListK.done (hK _ _ ?_)
      clear hK K
      refine wpIn_cond (t := true) (by simp [hz_b2]) ?_
      generalize hA : Act.put _ _ _ = b3
      have hz_b3 : b3.tmps.size = 26 := by rw [← hA]; simp only [size_put, hz_b2]
      have x0 : b3.eval (.tmp 0) = strV l := by rw [← hA]; exact (by simp [o0])
      have x3 : b3.eval (.tmp 3) = v := by rw [← hA]; exact (by simp [o3])
      have x4 : b3.eval (.tmp 4) = .int .i64 (fr : Int) := by rw [← hA]; exact (by simp [o4])
      have x5 : b3.eval (.tmp 5) = .int .i64 (i : Int) := by rw [← hA]; exact (by simp [o5])
      have hd_b3 : b3.defers = [] := by rw [← hA]; simp only [defers_put, hd_b2]
      clear hA
      obtain ⟨v4, W4, hap4, os4⟩ := app36_run (l := (l.drop fr).take (i - fr)) (b := W1.heap.size) (c := 1) (ty := 36) (os.below ((Below.refl W1.heap.size W1).alloc (Nat.le_refl _) (.cells #[strV ((l.drop fr).take (i - fr))] 9))) ((Whole.new W1 9 #[strV ((l.drop fr).take (i - fr))]).cell 0) (by omega)
      refine wpIn_seq (region_p 8 ?_)
      intro K hK
      refine ListK.move (i := 0) (v := v) rfl (by simp [x3]) ?_
      refine ListK.move (i := 1) (v := strV l) rfl (by simp [x0]) ?_
      refine ListK.move (i := 2) (v := .int .i64 (fr : Int)) rfl (by simp [x4]) ?_
      refine ListK.move (i := 3) (v := .int .i64 (i : Int)) rfl (by simp [x5]) ?_
      refine ListK.sliceLH (i := 4) (u := strV l) (u' := .int .i64 (fr : Int)) (u'' := .int .i64 (i : Int)) (v := strV ((l.drop fr).take (i - fr))) rfl (by simp [hz_b3]) (by simp [hz_b3]) (by simp [hz_b3]) (sl9B hfr hi _) ?_
      refine ListK.bsl (i := 5) (ps := #[(0, strV ((l.drop fr).take (i - fr)))]) (v := .slice (some ⟨W1.heap.size, 0, none⟩) 1 1) rfl (by simp [hz_b3]) (bs36_1 _ W1) ?_
      refine ListK.app36 (i := 6) rfl (by simp [hz_b3]) (by simp [hz_b3]) hap4 ?_
      refine ListK.assign (i := 7) (v := v4) rfl (by simp [hz_b3]) ?_
      refine ListK.done (hK _ _ ?_)
      clear hK K
      generalize hA : Act.put _ _ _ = b4
      have hz_b4 : b4.tmps.size = 26 := by rw [← hA]; simp only [size_put, hz_b3]
      have y0 : b4.eval (.tmp 0) = strV l := by rw [← hA]; exact (by simp [x0])
      have y3 : b4.eval (.tmp 3) = v4 := by rw [← hA]; exact (by simp [hz_b3])
      have y5 : b4.eval (.tmp 5) = .int .i64 (i : Int) := by rw [← hA]; exact (by simp [x5])
      have hd_b4 : b4.defers = [] := by rw [← hA]; simp only [defers_put, hd_b3]
      clear hA
      refine region_p 3 ?_
      intro K hK
      refine ListK.move (i := 0) (v := .int .i64 (i : Int)) rfl (by simp [y5]) ?_
      refine ListK.bin (i := 1) (u := .int .i64 (i : Int)) (u' := .int .i64 1) (v := .int .i64 ((i + 1 : Nat) : Int)) rfl (by simp [hz_b4]) (by simp) (add3 (by omega) (by omega) _) ?_
      refine ListK.assign (i := 2) (v := .int .i64 ((i + 1 : Nat) : Int)) rfl (by simp [hz_b4]) ?_
      refine ListK.done (hK _ _ ?_)
      clear hK K
      refine Go.Code.wpIn_mono (fun e a'' w'' hq => ?_) (hgo (i + 1) v4 (O ++ [(l.drop fr).take (i - fr)]) _ W4 (Nat.le_refl _) (by simp; omega) (by rw [List.append_assoc]; simpa using hpc) os4 (by simp only [size_put, hz_b4]) (by simp only [defers_put, hd_b4]) (by simp [y0]) (by simp [y3]) (by simp [hz_b4]) (by simp [y5]))
      obtain ⟨rfl, h1, h2⟩ := hq
      exact ⟨h1, h2⟩
    · rw [if_neg h10] at hpc
      refine wpIn_seq (region_p 4 ?_)
      intro K hK
      refine ListK.move (i := 0) (v := strV l) rfl (by simp [o0]) ?_
      refine ListK.move (i := 1) (v := .int .i64 (i : Int)) rfl (by simp [o5]) ?_
      refine ListK.indexV (i := 2) (u := strV l) (u' := .int .i64 (i : Int)) (v := u8V l[i]) rfl (by simp [hz_b2]) (by simp [hz_b2]) (ix9 hx _) ?_
      refine ListK.bin (i := 3) (u := u8V l[i]) (u' := .int .u8 10) (v := .bool false) rfl (by simp [hz_b2]) (by simp) (by rw [← decide_eq_false h10]; exact eql5n _ 10 _) ?_
      refine ListK.done (hK _ _ ?_)
      clear hK K
      refine wpIn_cond (t := false) (by simp [hz_b2]) (wpIn_skip ?_)
      have hacc : (l.drop fr).take (i + 1 - fr) = (l.drop fr).take (i - fr) ++ [l[i]] := by
        rw [show i + 1 - fr = (i - fr) + 1 by omega, List.take_add_one, List.getElem?_drop, show fr + (i - fr) = i by omega, hx]
        rfl
      refine Go.Code.wpIn_mono (fun e a'' w'' hq => ?_) (hgo fr v O _ W1 (by omega) (by omega) (by rw [hacc]; exact hpc) os (by simp only [size_put, hz_b2]) (by simp only [defers_put, hd_b2]) (by simp [o0]) (by simp [o3]) (by simp [o4]) (by simp [o5]))
      obtain ⟨rfl, h1, h2⟩ := hq
      exact ⟨h1, h2⟩
  · have hie : i = l.length := by omega
    refine wpIn_seq (wpIn_seq (region_p 4 ?_))
    intro K hK
    refine ListK.move (i := 0) (v := .int .i64 (i : Int)) rfl (by simp [s5]) ?_
    refine ListK.move (i := 1) (v := strV l) rfl (by simp [s0]) ?_
    refine ListK.lenW (i := 2) (u := strV l) (v := .int .i64 (l.length : Int)) rfl (by simp [hz_b1]) (ln9 _ _ _) rfl ?_
    refine ListK.bin (i := 3) (u := .int .i64 (i : Int)) (u' := .int .i64 (l.length : Int)) (v := .bool false) rfl (by simp [hz_b1]) (by simp [hz_b1]) (lssF3 (by omega) _) ?_
    refine ListK.done (hK _ _ ?_)
    clear hK K
    refine wpIn_cond (t := false) (by simp [hz_b1]) (wpIn_exit ?_)
    show (Code.wpIn _ _ _ (Code.seq _ _) _ _ _)
    rw [hie, List.drop_length] at hpc
    simp [pieces] at hpc
    rw [← hpc]
    refine wpIn_seq (region_p 2 ?_)
    intro K hK
    refine ListK.move (i := 0) (v := v) rfl (by simp [s3]) ?_
    refine ListK.assign (i := 1) (v := v) rfl (by simp [hz_b1]) ?_
    refine ListK.done (hK _ _ (wpIn_ret ?_))
    exact bodyPost_ret (v := v) (res1 Try.results33 (by simp [hz_b1])) (by simp only [defers_put, hd_b1]) ⟨v, rfl, os⟩
end Go.Proofs.YtmdlmmfbcnkanaaR
namespace Go.Proofs.YtmdlmmfbcnkanaaR
open Go.RowKit Go.Shelf
/-- Records as keys. -/
abbrev K7 := UInt8 × UInt8 × UInt8 × UInt8 × UInt8 × UInt8 × UInt8
noncomputable instance k7dec : DecidableEq K7 := fun a b => Classical.propDecidable (a = b)
abbrev kv7 (k : K7) : Value := rV k.1 k.2.1 k.2.2.1 k.2.2.2.1 k.2.2.2.2.1 k.2.2.2.2.2.1 k.2.2.2.2.2.2
def k7 : List UInt8 → K7
  | [a, b, c, d, e, f, g] => (a, b, c, d, e, f, g)
  | _ => (0, 0, 0, 0, 0, 0, 0)
theorem kl102 : KeyLaw (κ := K7) 102 83 4 kv7 where
  und := fun w => by kernel_rfl
  chk := fun b k w => by kernel_rfl
  slow := ⟨_, und83, fun k k' => sameNow_agg _ _ _⟩
  eq := fun k k' w => by
    obtain ⟨a, b, c, d, e, f, g⟩ := k
    obtain ⟨a', b', c', d', e', f', g'⟩ := k'
    show (Op.equalIn 10000 83 (rV a b c d e f g) (rV a' b' c' d' e' f' g')).run Try.prog w = _
    rw [eq83]
    congr 1
    refine decide_eq_decide.2 ?_
    simp
  stays := fun k w => stays_agg _ w (by simp)
theorem k7_inj {r r' : List UInt8} (h : r.length = 7) (h' : r'.length = 7) (e : k7 r = k7 r') : r = r' := by
  obtain ⟨a, b, c, d, e1, f, g, rfl⟩ := len7 h
  obtain ⟨a', b', c', d', e', f', g', rfl⟩ := len7 h'
  simpa [k7] using e
/-- What has been counted: good pieces, bad ones, doubles; and the good ones, without doubles. -/
structure Ct where
  ng : Nat
  nb : Nat
  nd : Nat
  sn : List (List UInt8)
def seenM (l : List (List UInt8)) : List (K7 × Value) := l.map fun r => (k7 r, .bool true)
theorem getK_seen {l : List (List UInt8)} (h7 : ∀ r, r ∈ l → r.length = 7) {p : List UInt8} (hp : p.length = 7) : (getK (seenM l) (k7 p)).getD (.bool false) = .bool (decide (p ∈ l)) := by
  induction l with
  | nil => rfl
  | cons r l ih =>
    have h1 := ih (fun x hx => h7 x (List.mem_cons_of_mem _ hx))
    show (getK ((k7 r, .bool true) :: seenM l) (k7 p)).getD (.bool false) = _
    rw [getK_cons]
    by_cases e : p = r
    · subst e
      simp
    · have e2 : k7 p ≠ k7 r := fun h => e (k7_inj hp (h7 r List.mem_cons_self) h)
      rw [if_neg e2, h1]
      simp [e]
theorem putK_seen {l : List (List UInt8)} (h7 : ∀ r, r ∈ l → r.length = 7) {p : List UInt8} (hp : p.length = 7) : putK (seenM l) (k7 p) (.bool true) = seenM (if p ∈ l then l else l ++ [p]) := by
  have h := getK_seen h7 hp
  by_cases e : p ∈ l
  · rw [if_pos e]
    refine putK_same ?_
    rw [decide_eq_true e] at h
    cases hg : getK (seenM l) (k7 p) with
    | none => rw [hg] at h; cases h
    | some v => rw [hg] at h; exact congrArg some h
  · rw [if_neg e]
    have hn : getK (seenM l) (k7 p) = none := by
      cases hg : getK (seenM l) (k7 p) with
      | none => rfl
      | some v =>
        rw [hg, decide_eq_false e] at h
        have hm := getK_mem hg
        unfold seenM at hm
        obtain ⟨r, _, hr⟩ := List.mem_map.1 hm
        have hv := congrArg Prod.snd hr
        simp only at hv
        subst hv
        cases h
    rw [putK_new hn]
    simp [seenM]
abbrev c62 (x y z : Nat) : Array Value := #[.int .i64 (x : Int), .int .i64 (y : Int), .int .i64 (z : Int)]
/-- What holds between two pieces. -/
structure CtI (W0 : World) (b2 b4 M b5 : Nat) (x : Ct) (W : World) : Prop where
  low : Below W0.heap.size W0 W
  ord : W0.heap.size ≤ b2 ∧ b2 < b4 ∧ b4 < M ∧ M < b5
  w2 : Whole W b2 62 #[.int .i64 0, .int .i64 0, .int .i64 0]
  w4 : Whole W b4 62 (c62 x.ng x.nb x.nd)
  w5 : Whole W b5 102 #[.map (some M)]
  mp : MapAt kv7 W M (seenM x.sn)
  gd : ∀ r, r ∈ x.sn → isGood r = true
section
variable {W0 W W' : World} {b2 b4 M b5 : Nat} {x : Ct}
theorem CtI.else {X : Nat → Prop} (i : CtI W0 b2 b4 M b5 x W) (he : Else X W W') (hX : ∀ k, k ≤ b5 → ¬ X k) : CtI W0 b2 b4 M b5 x W' := by
  obtain ⟨o1, o2, o3, o4⟩ := i.ord
  exact ⟨i.low.trans (he.below i.low.size (fun k hk => hX k (by omega))), i.ord, he.whole (hX _ (by omega)) i.w2, he.whole (hX _ (by omega)) i.w4, he.whole (hX _ (by omega)) i.w5, i.mp.keep (he.block M i.mp.lt (hX _ (by omega))), i.gd⟩
theorem CtI.below (i : CtI W0 b2 b4 M b5 x W) (hb : Below W.heap.size W W') : CtI W0 b2 b4 M b5 x W' := i.else (Else.of_below (fun _ => False) hb) (fun _ _ h => h)
theorem CtI.lt (i : CtI W0 b2 b4 M b5 x W) : b5 < W.heap.size := i.w5.lt
/-- A number is changed. -/
theorem CtI.set (i : CtI W0 b2 b4 M b5 x W) {j : Nat} {v : Value} {y : Ct} (hw : ∀ W', Whole W' b4 62 ((c62 x.ng x.nb x.nd).setIfInBounds j v) → Whole W' b4 62 (c62 y.ng y.nb y.nd)) (hs : y.sn = x.sn) : CtI W0 b2 b4 M b5 y (W.setCell ⟨b4, j, none⟩ v) ∧ Else (fun k => k = b4) W (W.setCell ⟨b4, j, none⟩ v) := by
  obtain ⟨o1, o2, o3, o4⟩ := i.ord
  have he : Else (fun k => k = b4) W (W.setCell ⟨b4, j, none⟩ v) := (Else.refl (fun k => k = b4) W).setCell (p := ⟨b4, j, none⟩) (.inl rfl) _
  refine ⟨⟨i.low.trans (he.below i.low.size (fun k hk => by omega)), i.ord, he.whole (by omega) i.w2, hw _ (i.w4.set j v), he.whole (by omega) i.w5, ?_, fun r hr => i.gd r (hs ▸ hr)⟩, he⟩
  rw [hs]
  exact i.mp.keep (he.block M i.mp.lt (by omega))
/-- A record is seen. -/
theorem CtI.put (i : CtI W0 b2 b4 M b5 x W) {p : List UInt8} (hg : isGood p = true) :
    ∃ W', (Instr.mapUpdate 102 (.map (some M)) (kv7 (k7 p)) (.bool true)).run Try.prog W = .ok () W' ∧ CtI W0 b2 b4 M b5 ⟨x.ng, x.nb, x.nd, if p ∈ x.sn then x.sn else x.sn ++ [p]⟩ W' ∧ Else (fun k => k = M) W W' := by
  obtain ⟨o1, o2, o3, o4⟩ := i.ord
  obtain ⟨o, h3, h4⟩ := i.mp.put kl102 (k7 p) (.bool true)
  rw [putK_seen (fun r hr => good_seven (i.gd r hr)) (good_seven hg)] at h4
  have he : Else (fun k => k = M) W (W.putObj M o) := ⟨⟨rfl, rfl, rfl, by simp [World.putObj], fun k hk => by omega⟩, fun k _ hx => World.putObj_heap_other hx⟩
  refine ⟨_, h3, ⟨i.low.trans (he.below i.low.size (fun k hk => by omega)), i.ord, he.whole (by omega) i.w2, he.whole (by omega) i.w4, he.whole (by omega) i.w5, h4, ?_⟩, he⟩
  intro r hr
  split at hr
  · exact i.gd r hr
  · rcases List.mem_append.1 hr with hr | hr
    · exact i.gd r hr
    · simp at hr
      rw [hr]
      exact hg
end
section
variable {W0 : World} {b2 b4 M b5 : Nat} {x : Ct}
end
end Go.Proofs.YtmdlmmfbcnkanaaR
namespace Go.Proofs.YtmdlmmfbcnkanaaR
open Go.RowKit Go.Shelf
theorem pieces_len : ∀ (l acc : List UInt8), (pieces acc l).length ≤ l.length
  | [], acc => by simp [pieces]
  | b :: l, acc => by
    unfold pieces
    split
    · have := pieces_len l []
      simp only [List.length_cons]
      omega
    · have := pieces_len l (acc ++ [b])
      simp only [List.length_cons]
      omega
section
variable {W0 : World} {b2 b4 M b5 : Nat}
end
end Go.Proofs.YtmdlmmfbcnkanaaR
namespace Go.Proofs.YtmdlmmfbcnkanaaR

/-- Two digits are a number's just if they say it. -/
theorem two_eq {f g : UInt8} (hf : isDig f = true) (hg : isDig g = true) {n : Nat} (hn : n ≤ 99) : decide ([f, g] = [hi2 n, lo2 n]) = (num2 f g == n) := by
  have key : ∀ (a b : Fin 10) (n : Fin 100), decide ([UInt8.ofNat (48 + a.1), UInt8.ofNat (48 + b.1)] = [hi2 n.1, lo2 n.1]) = (num2 (UInt8.ofNat (48 + a.1)) (UInt8.ofNat (48 + b.1)) == n.1) := by decide +kernel
  have dg : ∀ x : UInt8, isDig x = true → ∃ a : Fin 10, x = UInt8.ofNat (48 + a.1) := by
    intro x hx
    have := of_decide_eq_true hx
    exact ⟨⟨x.toNat - 48, by omega⟩, by apply UInt8.toNat_inj.1; simp; omega⟩
  obtain ⟨a, rfl⟩ := dg f hf
  obtain ⟨b, rfl⟩ := dg g hg
  exact key a b ⟨n, by omega⟩
end Go.Proofs.YtmdlmmfbcnkanaaR
namespace Go.Proofs.YtmdlmmfbcnkanaaR
open Go.RowKit Go.Shelf
theorem mul10 {x y : Operand} {n : Nat} (h : n ≤ 100000) (w : World) : (do eqGuard .mul 3 x y (.int .i64 10) (.int .i64 (n : Int)); binOp .mul 3 (.int .i64 10) (.int .i64 (n : Int)) : Sem Value).run Try.prog w = .ok (.int .i64 ((10 * n : Nat) : Int)) w := by
  have h2 := IntWalk.i64_in (10 * (n : Int)) (by omega)
  go_simp
theorem ListK.indexVW {P : Program} {ops : Array Oper} {K : Act → World → Prop} {k i d : Nat} {a : Act} {w : World} {ty : TypeId} {pos : String} {aft : Array Edge} {gd : Option (Nat × Bool)} {v : Value} {t : TypeId} {x y : Operand} {u u' : Value} (hi : ops[i]? = some ⟨some d, .index t x y, ty, pos, aft, gd⟩) (hx : a.eval x = u) (hy : a.eval y = u') (hv : (Instr.index t u u').run P w = .ok v w)
    (h : ListK P ops K k (i + 1) (a.put (some d) v) w) (hw : Region.wanted ⟨some d, .index t x y, ty, pos, aft, gd⟩ (yielded ops a.tmps) = true := by rfl) : ListK P ops K (k + 1) i a w := ListK.valW hi hw (by simp [execOp, hx, hy, hv]) h
noncomputable def opsNu0 : Array Oper := (Try.f65.body.bind (regionOf 0)).getD #[]
noncomputable def opsNu1 : Array Oper := (Try.f65.body.bind (regionOf 1)).getD #[]
noncomputable def code65 : Code := (.seq (.region 0 opsNu0 false) (.seq (.region 1 opsNu1 true) .ret))
theorem body65 : Try.f65.body = some code65 := by kernel_rfl
section
attribute [local irreducible] AnyK StepK
set_option maxHeartbeats 400000 in
theorem num_any (l : List UInt8) (k : Nat) (b c : UInt8) (hb : l[k]? = some b) (hc : l[k + 1]? = some c) (hk : k ≤ 1000) (W : World) : Calls Try.prog 65 #[strV l, .int .i64 (k : Int)] W (EvP W (.int .i64 (num2 b c : Int))) := by
  have d1 := dig_lt b
  have d2 := dig_lt c
  have hn2 : num2 b c = 10 * dig b + dig c := rfl
  refine (callsIn_wide (n := 5)).1 (callsIn_of_wp Try.func65 body65 trivial ?_ rfl)
  obtain ⟨a, ha⟩ : ∃ a : Act, a = { tmps := #[strV l, .int .i64 (k : Int)] ++ Array.replicate (Try.f65.ntmps - (#[strV l, .int .i64 (k : Int)] : Array Value).size) undef, defers := [] } := ⟨_, rfl⟩
  have hsz : a.tmps.size = 18 := by rw [ha]; simp [Try.ntmps65]
  have t0 : a.eval (.tmp 0) = strV l := by rw [ha]; simp [Act.eval]
  have t1 : a.eval (.tmp 1) = .int .i64 (k : Int) := by rw [ha]; simp [Act.eval]
  have hd_a : a.defers = [] := by rw [ha]
  rw [← ha]
  clear ha
  unfold code65
  refine wpIn_seq (region_p 1 ?_)
  intro K hK
  refine ListK.assign (i := 0) (v := .int .i64 0) rfl (by simp) ?_
  refine ListK.done (hK _ _ ?_)
  clear hK K
  generalize hA : Act.put _ _ _ = a1
  have hz_a1 : a1.tmps.size = 18 := by rw [← hA]; simp only [size_put, hsz]
  have u0 : a1.eval (.tmp 0) = strV l := by rw [← hA]; exact (by simp [t0])
  have u1 : a1.eval (.tmp 1) = .int .i64 (k : Int) := by rw [← hA]; exact (by simp [t1])
  have hd_a1 : a1.defers = [] := by rw [← hA]; simp only [defers_put, hd_a]
  clear hA
  refine wpIn_seq (region_K (KpR (fun w : World => Below W.heap.size W w) (fun _ => false)) (wideF_plain _) (by kernel_rfl) Try.mixed ?_)
  change AnyK _ _ _ _ 14 (Array.replicate 14 false) _ _
  have hR : (fun w : World => Below W.heap.size W w) W.drew := (Below.refl W.heap.size W).drew
  refine AnyK.move (i := 0) may_o (v := strV l) (by simp [u0]) hR ?_
  refine AnyK.move (i := 1) may_o (v := .int .i64 (k : Int)) (by simp [u1]) hR ?_
  refine AnyK.indexV (i := 2) may_o (u := strV l) (u' := .int .i64 (k : Int)) (v := u8V b) (by simp [hz_a1]) (by simp [hz_a1]) (fun w => ix9 hb w) hR ?_
  refine AnyK.bin (i := 3) may_o (u := u8V b) (u' := .int .u8 48) (v := .int .u8 (dig b : Int)) (by simp [hz_a1]) (by simp) (fun w => subu8 b w) hR ?_
  refine AnyK.conv (i := 4) may_o (u := .int .u8 (dig b : Int)) (v := .int .i64 (dig b : Int)) (by simp [hz_a1]) (fun w => cv53 (by omega) (by omega) w) hR ?_
  refine AnyK.bin (i := 5) may_o (u := .int .i64 (10)) (u' := .int .i64 (dig b : Int)) (v := .int .i64 ((10 * dig b : Nat) : Int)) (by simp) (by simp [hz_a1]) (fun w => mul10 (by omega) w) hR ?_
  refine AnyK.move (i := 6) may_o (v := strV l) (by simp [u0]) hR ?_
  refine AnyK.move (i := 7) may_o (v := .int .i64 (k : Int)) (by simp [u1]) hR ?_
  refine AnyK.bin (i := 8) may_o (u := .int .i64 (k : Int)) (u' := .int .i64 (1)) (v := .int .i64 ((k + 1 : Nat) : Int)) (by simp [hz_a1]) (by simp) (fun w => add3 (by omega) (by omega) w) hR ?_
  refine AnyK.indexV (i := 9) may_o (u := strV l) (u' := .int .i64 ((k + 1 : Nat) : Int)) (v := u8V c) (by simp [hz_a1]) (by simp [hz_a1]) (fun w => ix9 hc w) hR ?_
  refine AnyK.bin (i := 10) may_o (u := u8V c) (u' := .int .u8 48) (v := .int .u8 (dig c : Int)) (by simp [hz_a1]) (by simp) (fun w => subu8 c w) hR ?_
  refine AnyK.conv (i := 11) may_o (u := .int .u8 (dig c : Int)) (v := .int .i64 (dig c : Int)) (by simp [hz_a1]) (fun w => cv53 (by omega) (by omega) w) hR ?_
  refine AnyK.bin (i := 12) may_o (u := .int .i64 ((10 * dig b : Nat) : Int)) (u' := .int .i64 (dig c : Int)) (v := .int .i64 (num2 b c : Int)) (by simp [hz_a1]) (by simp [hz_a1]) (fun w => add3e (by omega) (by omega) (by omega) w) hR ?_
  refine AnyK.assign (i := 13) may_o (v := .int .i64 (num2 b c : Int)) (by simp [hz_a1]) hR ?_
  refine AnyK.done (by kernel_rfl) ?_
  refine wpIn_ret ?_
  exact bodyPost_ret (v := .int .i64 (num2 b c : Int)) (res1 Try.results65 (by simp [hz_a1])) (by simp only [defers_put, hd_a1]) ⟨rfl, hR⟩
end
noncomputable def opsIg0 : Array Oper := (Try.f60.body.bind (regionOf 0)).getD #[]
noncomputable def opsIg1 : Array Oper := (Try.f60.body.bind (regionOf 1)).getD #[]
noncomputable def opsIg2 : Array Oper := (Try.f60.body.bind (regionOf 2)).getD #[]
noncomputable def opsIg3 : Array Oper := (Try.f60.body.bind (regionOf 3)).getD #[]
noncomputable def opsIg4 : Array Oper := (Try.f60.body.bind (regionOf 4)).getD #[]
noncomputable def opsIg5 : Array Oper := (Try.f60.body.bind (regionOf 5)).getD #[]
noncomputable def opsIg6 : Array Oper := (Try.f60.body.bind (regionOf 6)).getD #[]
noncomputable def opsIg7 : Array Oper := (Try.f60.body.bind (regionOf 7)).getD #[]
noncomputable def opsIg8 : Array Oper := (Try.f60.body.bind (regionOf 8)).getD #[]
noncomputable def opsIg9 : Array Oper := (Try.f60.body.bind (regionOf 9)).getD #[]
noncomputable def opsIg10 : Array Oper := (Try.f60.body.bind (regionOf 10)).getD #[]
noncomputable def ig_l : Code := (.seq (.seq (.region 4 opsIg4 false) (.cond (.tmp 23) .skip (.exit 0))) (.seq (.block 1 (.seq (.region 6 opsIg6 false) (.cond (.tmp 35) (.seq (.region 7 opsIg7 false) .ret) .skip))) (.region 5 opsIg5 false)))
noncomputable def ig_e : Code := (.seq (.region 10 opsIg10 false) .ret)
noncomputable def ig_c : Code := (.seq (.seq (.region 8 opsIg8 true) (.cond (.tmp 41) (.seq (.region 9 opsIg9 false) .ret) .skip)) ig_e)
noncomputable def ig_b : Code := (.seq (.seq (.region 3 opsIg3 false) (.block 0 (.loop ig_l))) ig_c)
noncomputable def code60 : Code := (.seq (.region 0 opsIg0 false) (.seq (.seq (.region 1 opsIg1 false) (.cond (.tmp 21) (.seq (.region 2 opsIg2 false) .ret) .skip)) ig_b))
theorem body60 : Try.f60.body = some code60 := by kernel_rfl
section
attribute [local irreducible] AnyK StepK
variable {c0 c1 c2 c3 c4 c5 c6 : UInt8}
set_option maxHeartbeats 400000 in
theorem ig_e_any {a : Act} {W0 W : World} (hg : isGood [c0, c1, c2, c3, c4, c5, c6] = (decide (c0 ≠ 72) || headOk (num2 c1 c2) (dig c3) (dig c4)))
    (hz : a.tmps.size = 64) (hd_a : a.defers = []) (t0 : a.eval (.tmp 0) = strV [c0, c1, c2, c3, c4, c5, c6]) (hB : Below W0.heap.size W0 W) :
    ig_e.wpIn Fence.wide 5 Try.prog (bodyPost Try.prog Try.f60 (EvP W0 (.bool (isGood [c0, c1, c2, c3, c4, c5, c6])))) a W := by
  have d3 := dig_lt c3
  have d4 := dig_lt c4
  unfold ig_e
  by_cases h72 : c0 = 72
  · have hv2 : (!decide (c0 = 72)) = false := by simp [h72]
    cases hA : inR (num2 c1 c2 : Int) 1 40
    · have hv : isGood [c0, c1, c2, c3, c4, c5, c6] = false := by rw [hg]; simp [h72, headOk, hA]
      refine wpIn_seq (region_p 23 ?_)
      intro K hK
      refine ListK.move (i := 0) (v := strV [c0, c1, c2, c3, c4, c5, c6]) rfl (by simp [t0]) ?_
      refine ListK.indexV (i := 1) (u := strV [c0, c1, c2, c3, c4, c5, c6]) (u' := .int .i64 0) (v := u8V c0) rfl (by simp [hz]) (by simp) (ix9 (k := 0) rfl _) ?_
      refine ListK.bin (i := 2) (u := u8V c0) (u' := .int .u8 72) (v := .bool false) rfl (by simp [hz]) (by simp) (by rw [← hv2]; exact neq5n c0 72 _) ?_
      refine ListK.move (i := 3) (v := .bool false) rfl (by simp [hz]) ?_
      refine ListK.move (i := 4) (v := strV [c0, c1, c2, c3, c4, c5, c6]) rfl (by simp [t0]) ?_ (hw := wanted_g (e := 45) (b' := false) rfl (by simp [hz]) rfl)
      refine ListK.call (i := 5) (vs := #[strV [c0, c1, c2, c3, c4, c5, c6], .int .i64 1]) rfl (enters_of Try.func65 (by kernel_rfl) rfl) (by simp [hz]) ((num_any [c0, c1, c2, c3, c4, c5, c6] 1 c1 c2 rfl rfl (by omega) W).mono ?_) (hw := wanted_g (e := 45) (b' := false) rfl (by simp [hz]) rfl)
      rintro _ W2 ⟨rfl, hb2⟩
      refine ⟨_, rfl, ?_⟩
      refine ListK.call (i := 6) (vs := #[.int .i64 (num2 c1 c2 : Int), .int .i64 1, .int .i64 40]) rfl (enters_of Try.func63 (by kernel_rfl) rfl) (by simp [hz]) ((refIn_any (num2 c1 c2 : Int) 1 40 W2).mono ?_) (hw := wanted_g (e := 45) (b' := false) rfl (by simp [hz]) rfl)
      rintro _ _ ⟨rfl, rfl⟩
      rw [hA]
      refine ⟨_, rfl, ?_⟩
      refine ListK.move (i := 7) (v := .bool false) rfl (by simp [hz]) ?_ (hw := wanted_g (e := 45) (b' := false) rfl (by simp [hz]) rfl)
      refine ListK.passG (i := 8) (e := 49) (b' := false) rfl rfl (by simp [hz]) rfl ?_
      refine ListK.passG (i := 9) (e := 49) (b' := false) rfl rfl (by simp [hz]) rfl ?_
      refine ListK.passG (i := 10) (e := 49) (b' := false) rfl rfl (by simp [hz]) rfl ?_
      refine ListK.passG (i := 11) (e := 49) (b' := false) rfl rfl (by simp [hz]) rfl ?_
      refine ListK.passG (i := 12) (e := 49) (b' := false) rfl rfl (by simp [hz]) rfl ?_
      refine ListK.pickW (i := 13) (b := false) (v := .bool false) rfl (by simp [hz]) (by simp) ?_ (hw := wanted_g (e := 45) (b' := false) rfl (by simp [hz]) rfl)
      refine ListK.move (i := 14) (v := .bool false) rfl (by simp [hz]) ?_ (hw := wanted_g (e := 45) (b' := false) rfl (by simp [hz]) rfl)
      refine ListK.passG (i := 15) (e := 56) (b' := false) rfl rfl (by simp [hz]) rfl ?_
      refine ListK.passG (i := 16) (e := 56) (b' := false) rfl rfl (by simp [hz]) rfl ?_
      refine ListK.passG (i := 17) (e := 56) (b' := false) rfl rfl (by simp [hz]) rfl ?_
      refine ListK.passG (i := 18) (e := 56) (b' := false) rfl rfl (by simp [hz]) rfl ?_
      refine ListK.passG (i := 19) (e := 56) (b' := false) rfl rfl (by simp [hz]) rfl ?_
      refine ListK.pickW (i := 20) (b := false) (v := .bool false) rfl (by simp [hz]) (by simp) ?_ (hw := wanted_g (e := 45) (b' := false) rfl (by simp [hz]) rfl)
      refine ListK.pick (i := 21) (b := false) (v := .bool false) rfl (by simp [hz]) (by simp [hz]) ?_
      refine ListK.assign (i := 22) (v := .bool false) rfl (by simp [hz]) ?_
      refine ListK.done (hK _ _ (wpIn_ret ?_))
      exact bodyPost_ret (v := .bool (isGood [c0, c1, c2, c3, c4, c5, c6])) (res1 Try.results60 (by rw [hv]; exact (by simp [hz]))) (by simp only [defers_put, hd_a]) ⟨rfl, hB.trans (hb2.mono hB.size)⟩
    · cases hC : inR (dig c3 : Int) 2 8
      · have hv : isGood [c0, c1, c2, c3, c4, c5, c6] = false := by rw [hg]; simp [h72, headOk, hA, hC]
        refine wpIn_seq (region_p 23 ?_)
        intro K hK
        refine ListK.move (i := 0) (v := strV [c0, c1, c2, c3, c4, c5, c6]) rfl (by simp [t0]) ?_
        refine ListK.indexV (i := 1) (u := strV [c0, c1, c2, c3, c4, c5, c6]) (u' := .int .i64 0) (v := u8V c0) rfl (by simp [hz]) (by simp) (ix9 (k := 0) rfl _) ?_
        refine ListK.bin (i := 2) (u := u8V c0) (u' := .int .u8 72) (v := .bool false) rfl (by simp [hz]) (by simp) (by rw [← hv2]; exact neq5n c0 72 _) ?_
        refine ListK.move (i := 3) (v := .bool false) rfl (by simp [hz]) ?_
        refine ListK.move (i := 4) (v := strV [c0, c1, c2, c3, c4, c5, c6]) rfl (by simp [t0]) ?_ (hw := wanted_g (e := 45) (b' := false) rfl (by simp [hz]) rfl)
        refine ListK.call (i := 5) (vs := #[strV [c0, c1, c2, c3, c4, c5, c6], .int .i64 1]) rfl (enters_of Try.func65 (by kernel_rfl) rfl) (by simp [hz]) ((num_any [c0, c1, c2, c3, c4, c5, c6] 1 c1 c2 rfl rfl (by omega) W).mono ?_) (hw := wanted_g (e := 45) (b' := false) rfl (by simp [hz]) rfl)
        rintro _ W2 ⟨rfl, hb2⟩
        refine ⟨_, rfl, ?_⟩
        refine ListK.call (i := 6) (vs := #[.int .i64 (num2 c1 c2 : Int), .int .i64 1, .int .i64 40]) rfl (enters_of Try.func63 (by kernel_rfl) rfl) (by simp [hz]) ((refIn_any (num2 c1 c2 : Int) 1 40 W2).mono ?_) (hw := wanted_g (e := 45) (b' := false) rfl (by simp [hz]) rfl)
        rintro _ _ ⟨rfl, rfl⟩
        rw [hA]
        refine ⟨_, rfl, ?_⟩
        refine ListK.move (i := 7) (v := .bool true) rfl (by simp [hz]) ?_ (hw := wanted_g (e := 45) (b' := false) rfl (by simp [hz]) rfl)
        refine ListK.move (i := 8) (v := strV [c0, c1, c2, c3, c4, c5, c6]) rfl (by simp [t0]) ?_ (hw := wanted_g (e := 49) (b' := true) rfl (by simp [hz]) rfl)
        refine ListK.indexVW (i := 9) (u := strV [c0, c1, c2, c3, c4, c5, c6]) (u' := .int .i64 3) (v := u8V c3) rfl (by simp [hz]) (by simp) (ix9 (k := 3) rfl _) ?_ (hw := wanted_g (e := 49) (b' := true) rfl (by simp [hz]) rfl)
        refine ListK.bin (i := 10) (u := u8V c3) (u' := .int .u8 48) (v := .int .u8 (dig c3 : Int)) rfl (by simp [hz]) (by simp) (subu8 c3 _) ?_ (hw := wanted_g (e := 49) (b' := true) rfl (by simp [hz]) rfl)
        refine ListK.conv (i := 11) (u := .int .u8 (dig c3 : Int)) (v := .int .i64 (dig c3 : Int)) rfl (by simp [hz]) (cv53 (by omega) (by omega) _) ?_ (hw := wanted_g (e := 49) (b' := true) rfl (by simp [hz]) rfl)
        refine ListK.call (i := 12) (vs := #[.int .i64 (dig c3 : Int), .int .i64 2, .int .i64 8]) rfl (enters_of Try.func63 (by kernel_rfl) rfl) (by simp [hz]) ((refIn_any (dig c3 : Int) 2 8 W2).mono ?_) (hw := wanted_g (e := 49) (b' := true) rfl (by simp [hz]) rfl)
        rintro _ _ ⟨rfl, rfl⟩
        rw [hC]
        refine ⟨_, rfl, ?_⟩
        refine ListK.pickW (i := 13) (b := true) (v := .bool false) rfl (by simp [hz]) (by simp [hz]) ?_ (hw := wanted_g (e := 45) (b' := false) rfl (by simp [hz]) rfl)
        refine ListK.move (i := 14) (v := .bool false) rfl (by simp [hz]) ?_ (hw := wanted_g (e := 45) (b' := false) rfl (by simp [hz]) rfl)
        refine ListK.passG (i := 15) (e := 56) (b' := false) rfl rfl (by simp [hz]) rfl ?_
        refine ListK.passG (i := 16) (e := 56) (b' := false) rfl rfl (by simp [hz]) rfl ?_
        refine ListK.passG (i := 17) (e := 56) (b' := false) rfl rfl (by simp [hz]) rfl ?_
        refine ListK.passG (i := 18) (e := 56) (b' := false) rfl rfl (by simp [hz]) rfl ?_
        refine ListK.passG (i := 19) (e := 56) (b' := false) rfl rfl (by simp [hz]) rfl ?_
        refine ListK.pickW (i := 20) (b := false) (v := .bool false) rfl (by simp [hz]) (by simp) ?_ (hw := wanted_g (e := 45) (b' := false) rfl (by simp [hz]) rfl)
        refine ListK.pick (i := 21) (b := false) (v := .bool false) rfl (by simp [hz]) (by simp [hz]) ?_
        refine ListK.assign (i := 22) (v := .bool false) rfl (by simp [hz]) ?_
        refine ListK.done (hK _ _ (wpIn_ret ?_))
        exact bodyPost_ret (v := .bool (isGood [c0, c1, c2, c3, c4, c5, c6])) (res1 Try.results60 (by rw [hv]; exact (by simp [hz]))) (by simp only [defers_put, hd_a]) ⟨rfl, hB.trans (hb2.mono hB.size)⟩
      · have hv : isGood [c0, c1, c2, c3, c4, c5, c6] = inR (dig c4 : Int) 1 9 := by rw [hg]; simp [h72, headOk, hA, hC]
        refine wpIn_seq (region_p 23 ?_)
        intro K hK
        refine ListK.move (i := 0) (v := strV [c0, c1, c2, c3, c4, c5, c6]) rfl (by simp [t0]) ?_
        refine ListK.indexV (i := 1) (u := strV [c0, c1, c2, c3, c4, c5, c6]) (u' := .int .i64 0) (v := u8V c0) rfl (by simp [hz]) (by simp) (ix9 (k := 0) rfl _) ?_
        refine ListK.bin (i := 2) (u := u8V c0) (u' := .int .u8 72) (v := .bool false) rfl (by simp [hz]) (by simp) (by rw [← hv2]; exact neq5n c0 72 _) ?_
        refine ListK.move (i := 3) (v := .bool false) rfl (by simp [hz]) ?_
        refine ListK.move (i := 4) (v := strV [c0, c1, c2, c3, c4, c5, c6]) rfl (by simp [t0]) ?_ (hw := wanted_g (e := 45) (b' := false) rfl (by simp [hz]) rfl)
        refine ListK.call (i := 5) (vs := #[strV [c0, c1, c2, c3, c4, c5, c6], .int .i64 1]) rfl (enters_of Try.func65 (by kernel_rfl) rfl) (by simp [hz]) ((num_any [c0, c1, c2, c3, c4, c5, c6] 1 c1 c2 rfl rfl (by omega) W).mono ?_) (hw := wanted_g (e := 45) (b' := false) rfl (by simp [hz]) rfl)
        rintro _ W2 ⟨rfl, hb2⟩
        refine ⟨_, rfl, ?_⟩
        refine ListK.call (i := 6) (vs := #[.int .i64 (num2 c1 c2 : Int), .int .i64 1, .int .i64 40]) rfl (enters_of Try.func63 (by kernel_rfl) rfl) (by simp [hz]) ((refIn_any (num2 c1 c2 : Int) 1 40 W2).mono ?_) (hw := wanted_g (e := 45) (b' := false) rfl (by simp [hz]) rfl)
        rintro _ _ ⟨rfl, rfl⟩
        rw [hA]
        refine ⟨_, rfl, ?_⟩
        refine ListK.move (i := 7) (v := .bool true) rfl (by simp [hz]) ?_ (hw := wanted_g (e := 45) (b' := false) rfl (by simp [hz]) rfl)
        refine ListK.move (i := 8) (v := strV [c0, c1, c2, c3, c4, c5, c6]) rfl (by simp [t0]) ?_ (hw := wanted_g (e := 49) (b' := true) rfl (by simp [hz]) rfl)
        refine ListK.indexVW (i := 9) (u := strV [c0, c1, c2, c3, c4, c5, c6]) (u' := .int .i64 3) (v := u8V c3) rfl (by simp [hz]) (by simp) (ix9 (k := 3) rfl _) ?_ (hw := wanted_g (e := 49) (b' := true) rfl (by simp [hz]) rfl)
        refine ListK.bin (i := 10) (u := u8V c3) (u' := .int .u8 48) (v := .int .u8 (dig c3 : Int)) rfl (by simp [hz]) (by simp) (subu8 c3 _) ?_ (hw := wanted_g (e := 49) (b' := true) rfl (by simp [hz]) rfl)
        refine ListK.conv (i := 11) (u := .int .u8 (dig c3 : Int)) (v := .int .i64 (dig c3 : Int)) rfl (by simp [hz]) (cv53 (by omega) (by omega) _) ?_ (hw := wanted_g (e := 49) (b' := true) rfl (by simp [hz]) rfl)
        refine ListK.call (i := 12) (vs := #[.int .i64 (dig c3 : Int), .int .i64 2, .int .i64 8]) rfl (enters_of Try.func63 (by kernel_rfl) rfl) (by simp [hz]) ((refIn_any (dig c3 : Int) 2 8 W2).mono ?_) (hw := wanted_g (e := 49) (b' := true) rfl (by simp [hz]) rfl)
        rintro _ _ ⟨rfl, rfl⟩
        rw [hC]
        refine ⟨_, rfl, ?_⟩
        refine ListK.pickW (i := 13) (b := true) (v := .bool true) rfl (by simp [hz]) (by simp [hz]) ?_ (hw := wanted_g (e := 45) (b' := false) rfl (by simp [hz]) rfl)
        refine ListK.move (i := 14) (v := .bool true) rfl (by simp [hz]) ?_ (hw := wanted_g (e := 45) (b' := false) rfl (by simp [hz]) rfl)
        refine ListK.move (i := 15) (v := strV [c0, c1, c2, c3, c4, c5, c6]) rfl (by simp [t0]) ?_ (hw := wanted_g (e := 56) (b' := true) rfl (by simp [hz]) rfl)
        refine ListK.indexVW (i := 16) (u := strV [c0, c1, c2, c3, c4, c5, c6]) (u' := .int .i64 4) (v := u8V c4) rfl (by simp [hz]) (by simp) (ix9 (k := 4) rfl _) ?_ (hw := wanted_g (e := 56) (b' := true) rfl (by simp [hz]) rfl)
        refine ListK.bin (i := 17) (u := u8V c4) (u' := .int .u8 48) (v := .int .u8 (dig c4 : Int)) rfl (by simp [hz]) (by simp) (subu8 c4 _) ?_ (hw := wanted_g (e := 56) (b' := true) rfl (by simp [hz]) rfl)
        refine ListK.conv (i := 18) (u := .int .u8 (dig c4 : Int)) (v := .int .i64 (dig c4 : Int)) rfl (by simp [hz]) (cv53 (by omega) (by omega) _) ?_ (hw := wanted_g (e := 56) (b' := true) rfl (by simp [hz]) rfl)
        refine ListK.call (i := 19) (vs := #[.int .i64 (dig c4 : Int), .int .i64 1, .int .i64 9]) rfl (enters_of Try.func63 (by kernel_rfl) rfl) (by simp [hz]) ((refIn_any (dig c4 : Int) 1 9 W2).mono ?_) (hw := wanted_g (e := 56) (b' := true) rfl (by simp [hz]) rfl)
        rintro _ _ ⟨rfl, rfl⟩
        refine ⟨_, rfl, ?_⟩
        refine ListK.pickW (i := 20) (b := true) (v := .bool (inR (dig c4 : Int) 1 9)) rfl (by simp [hz]) (by simp [hz]) ?_ (hw := wanted_g (e := 45) (b' := false) rfl (by simp [hz]) rfl)
        refine ListK.pick (i := 21) (b := false) (v := .bool (inR (dig c4 : Int) 1 9)) rfl (by simp [hz]) (by simp [hz]) ?_
        refine ListK.assign (i := 22) (v := .bool (inR (dig c4 : Int) 1 9)) rfl (by simp [hz]) ?_
        refine ListK.done (hK _ _ (wpIn_ret ?_))
        exact bodyPost_ret (v := .bool (isGood [c0, c1, c2, c3, c4, c5, c6])) (res1 Try.results60 (by rw [hv]; exact (by simp [hz]))) (by simp only [defers_put, hd_a]) ⟨rfl, hB.trans (hb2.mono hB.size)⟩
  · have hv2 : (!decide (c0 = 72)) = true := by simp [h72]
    have hv : isGood [c0, c1, c2, c3, c4, c5, c6] = true := by rw [hg]; simp [h72]
    refine wpIn_seq (region_p 23 ?_)
    intro K hK
    refine ListK.move (i := 0) (v := strV [c0, c1, c2, c3, c4, c5, c6]) rfl (by simp [t0]) ?_
    refine ListK.indexV (i := 1) (u := strV [c0, c1, c2, c3, c4, c5, c6]) (u' := .int .i64 0) (v := u8V c0) rfl (by simp [hz]) (by simp) (ix9 (k := 0) rfl _) ?_
    refine ListK.bin (i := 2) (u := u8V c0) (u' := .int .u8 72) (v := .bool true) rfl (by simp [hz]) (by simp) (by rw [← hv2]; exact neq5n c0 72 _) ?_
    refine ListK.move (i := 3) (v := .bool true) rfl (by simp [hz]) ?_
    refine ListK.passG (i := 4) (e := 45) (b' := true) rfl rfl (by simp [hz]) rfl ?_
    refine ListK.passG (i := 5) (e := 45) (b' := true) rfl rfl (by simp [hz]) rfl ?_
    refine ListK.passG (i := 6) (e := 45) (b' := true) rfl rfl (by simp [hz]) rfl ?_
    refine ListK.passG (i := 7) (e := 45) (b' := true) rfl rfl (by simp [hz]) rfl ?_
    refine ListK.passU (i := 8) (e := 49) rfl rfl (by simp [hz]) ?_
    refine ListK.passU (i := 9) (e := 49) rfl rfl (by simp [hz]) ?_
    refine ListK.passU (i := 10) (e := 49) rfl rfl (by simp [hz]) ?_
    refine ListK.passU (i := 11) (e := 49) rfl rfl (by simp [hz]) ?_
    refine ListK.passU (i := 12) (e := 49) rfl rfl (by simp [hz]) ?_
    refine ListK.passG (i := 13) (e := 45) (b' := true) rfl rfl (by simp [hz]) rfl ?_
    refine ListK.passG (i := 14) (e := 45) (b' := true) rfl rfl (by simp [hz]) rfl ?_
    refine ListK.passU (i := 15) (e := 56) rfl rfl (by simp [hz]) ?_
    refine ListK.passU (i := 16) (e := 56) rfl rfl (by simp [hz]) ?_
    refine ListK.passU (i := 17) (e := 56) rfl rfl (by simp [hz]) ?_
    refine ListK.passU (i := 18) (e := 56) rfl rfl (by simp [hz]) ?_
    refine ListK.passU (i := 19) (e := 56) rfl rfl (by simp [hz]) ?_
    refine ListK.passG (i := 20) (e := 45) (b' := true) rfl rfl (by simp [hz]) rfl ?_
    refine ListK.pick (i := 21) (b := true) (v := .bool true) rfl (by simp [hz]) (by simp) ?_
    refine ListK.assign (i := 22) (v := .bool true) rfl (by simp [hz]) ?_
    refine ListK.done (hK _ _ (wpIn_ret ?_))
    exact bodyPost_ret (v := .bool (isGood [c0, c1, c2, c3, c4, c5, c6])) (res1 Try.results60 (by rw [hv]; exact (by simp [hz]))) (by simp only [defers_put, hd_a]) ⟨rfl, hB⟩
set_option maxHeartbeats 400000 in
theorem ig_c_any {a : Act} {W0 : World} (h0 : c0 = 72 ∨ c0 = 82 ∨ c0 = 80) (hdg : ∀ j x, 1 ≤ j → [c0, c1, c2, c3, c4, c5, c6][j]? = some x → isDig x = true)
    (hz : a.tmps.size = 64) (hd_a : a.defers = []) (t0 : a.eval (.tmp 0) = strV [c0, c1, c2, c3, c4, c5, c6]) :
    ig_c.wpIn Fence.wide 5 Try.prog (bodyPost Try.prog Try.f60 (EvP W0 (.bool (isGood [c0, c1, c2, c3, c4, c5, c6])))) a W0 := by
  have g1 := hdg 1 c1 (by omega) rfl
  have g2 := hdg 2 c2 (by omega) rfl
  have g3 := hdg 3 c3 (by omega) rfl
  have g4 := hdg 4 c4 (by omega) rfl
  have g5 := hdg 5 c5 (by omega) rfl
  have g6 := hdg 6 c6 (by omega) rfl
  have hck := chk5_lt c0 c1 c2 c3 c4
  have h2 := two_eq g5 g6 (n := chk5 c0 c1 c2 c3 c4) (by omega)
  have hk : (c0 == 72 || c0 == 82 || c0 == 80) = true := by rcases h0 with rfl | rfl | rfl <;> decide
  have hne : (c0 != 72) = decide (c0 ≠ 72) := by by_cases h : c0 = 72 <;> simp [h]
  have hg : isGood [c0, c1, c2, c3, c4, c5, c6] = ((num2 c5 c6 == chk5 c0 c1 c2 c3 c4) && (decide (c0 ≠ 72) || headOk (num2 c1 c2) (dig c3) (dig c4))) := by
    show good7 c0 c1 c2 c3 c4 c5 c6 = _
    unfold good7
    rw [hk, g1, g2, g3, g4, g5, g6, hne]
    simp
  rw [← h2] at hg
  unfold ig_c
  refine wpIn_seq (wpIn_seq (region_K (KpR (fun w : World => Below W0.heap.size W0 w) (fun _ => false)) (wideF_plain _) (by kernel_rfl) Try.mixed ?_))
  change AnyK _ _ _ _ 6 (Array.replicate 6 false) _ _
  have hR : (fun w : World => Below W0.heap.size W0 w) W0.drew := (Below.refl W0.heap.size W0).drew
  refine AnyK.move (i := 0) may_o (v := strV [c0, c1, c2, c3, c4, c5, c6]) (by simp [t0]) hR ?_
  refine AnyK.sliceL (i := 1) may_o (u := strV [c0, c1, c2, c3, c4, c5, c6]) (u' := .int .i64 (5)) (v := strV [c5, c6]) (by simp [hz]) (by simp) (fun w => sl9L (l := [c0, c1, c2, c3, c4, c5, c6]) (a := 5) (by simp) w) hR ?_
  refine AnyK.move (i := 2) may_o (v := strV [c0, c1, c2, c3, c4, c5, c6]) (by simp [t0]) hR ?_
  refine AnyK.sliceH (i := 3) may_o (u := strV [c0, c1, c2, c3, c4, c5, c6]) (u' := .int .i64 (5)) (v := strV [c0, c1, c2, c3, c4]) (by simp [hz]) (by simp) (fun w => sl9H (l := [c0, c1, c2, c3, c4, c5, c6]) (a := 5) (by simp) w) hR ?_
  refine AnyK.pick1 (i := 4) (by kernel_rfl) ?_
  refine StepK.call (i := 4) (f := 57) (vs := #[strV [c0, c1, c2, c3, c4]]) rfl (enters_of Try.func57 (by kernel_rfl) rfl) rfl (by simp [hz]) ((refCheck_any c0 c1 c2 c3 c4 _).mono ?_)
  rintro _ V4 ⟨rfl, hb4⟩
  replace hR : (fun w : World => Below W0.heap.size W0 w) V4 := hR.trans (hb4.mono hR.size)
  refine ⟨_, rfl, fun _ _ => hR, ?_⟩
  refine AnyK.bin (i := 5) may_o (u := strV [c5, c6]) (u' := strV (twoL (chk5 c0 c1 c2 c3 c4))) (v := .bool (!decide ([c5, c6] = twoL (chk5 c0 c1 c2 c3 c4)))) (by simp [hz]) (by simp [hz]) (fun w => neq9n _ _ w) hR ?_
  refine AnyK.done (by kernel_rfl) ?_
  by_cases hq : [c5, c6] = [hi2 (chk5 c0 c1 c2 c3 c4), lo2 (chk5 c0 c1 c2 c3 c4)]
  · rw [decide_eq_true hq, Bool.true_and] at hg
    have hq2 : (!decide ([c5, c6] = twoL (chk5 c0 c1 c2 c3 c4))) = false := by rw [show decide ([c5, c6] = twoL (chk5 c0 c1 c2 c3 c4)) = true from decide_eq_true hq]; rfl
    rw [hq2]
    refine wpIn_cond (t := false) (by simp [hz]) (wpIn_skip ?_)
    exact ig_e_any hg (by simp only [size_put, hz]) (by simp only [defers_put, hd_a]) (by simp [t0]) hR
  · rw [decide_eq_false hq, Bool.false_and] at hg
    have hq2 : (!decide ([c5, c6] = twoL (chk5 c0 c1 c2 c3 c4))) = true := by rw [show decide ([c5, c6] = twoL (chk5 c0 c1 c2 c3 c4)) = false from decide_eq_false hq]; rfl
    rw [hq2]
    refine wpIn_cond (t := true) (by simp [hz]) ?_
    generalize hA : Act.put _ _ _ = a2
    have hz_a2 : a2.tmps.size = 64 := by rw [← hA]; simp only [size_put, hz]
    have v0 : a2.eval (.tmp 0) = strV [c0, c1, c2, c3, c4, c5, c6] := by rw [← hA]; exact (by simp [t0])
    have hd_a2 : a2.defers = [] := by rw [← hA]; simp only [defers_put, hd_a]
    clear hA
    refine wpIn_seq (region_p 1 ?_)
    intro K hK
    refine ListK.assign (i := 0) (v := .bool false) rfl (by simp) ?_
    refine ListK.done (hK _ _ (wpIn_ret ?_))
    exact bodyPost_ret (v := .bool (isGood [c0, c1, c2, c3, c4, c5, c6])) (res1 Try.results60 (by rw [hg]; exact (by simp [hz_a2]))) (by simp only [defers_put, hd_a2]) ⟨rfl, hR⟩
set_option maxHeartbeats 400000 in
theorem ig_b_any {a : Act} {W : World} (h0 : c0 = 72 ∨ c0 = 82 ∨ c0 = 80)
    (hz : a.tmps.size = 64) (hd_a : a.defers = []) (t0 : a.eval (.tmp 0) = strV [c0, c1, c2, c3, c4, c5, c6]) :
    ig_b.wpIn Fence.wide 5 Try.prog (bodyPost Try.prog Try.f60 (EvP W (.bool (isGood [c0, c1, c2, c3, c4, c5, c6])))) a W := by
  unfold ig_b
  refine wpIn_seq (wpIn_seq (region_p 1 ?_))
  intro K hK
  refine ListK.assign (i := 0) (v := .int .i64 1) rfl (by simp) ?_
  refine ListK.done (hK _ _ ?_)
  clear hK K
  generalize hA : Act.put _ _ _ = a1
  have hz_a1 : a1.tmps.size = 64 := by rw [← hA]; simp only [size_put, hz]
  have u0 : a1.eval (.tmp 0) = strV [c0, c1, c2, c3, c4, c5, c6] := by rw [← hA]; exact (by simp [t0])
  have u3 : a1.eval (.tmp 3) = .int .i64 1 := by rw [← hA]; exact (by simp [hz])
  have hd_a1 : a1.defers = [] := by rw [← hA]; simp only [defers_put, hd_a]
  clear hA
  refine wpIn_block (wpIn_loop (fun a W' => ∃ k : Nat, W' = W ∧ 1 ≤ k ∧ k ≤ 7 ∧ (∀ j x, 1 ≤ j → j < k → [c0, c1, c2, c3, c4, c5, c6][j]? = some x → isDig x = true) ∧ a.tmps.size = 64 ∧ a.defers = [] ∧ a.eval (.tmp 0) = strV [c0, c1, c2, c3, c4, c5, c6] ∧ a.eval (.tmp 3) = .int .i64 (k : Int)) (fun a _ => 7 - (intOf (a.eval (.tmp 3))).toNat)
    ⟨1, rfl, Nat.le_refl _, by omega, fun j x h1 h2 => by omega, hz_a1, hd_a1, u0, u3⟩ ?_)
  rintro b1 W1 ⟨k, hW1, hk1, hk7, hdg, hz_b1, hd_b1, s0, s3⟩
  subst hW1
  unfold ig_l
  by_cases hlt : k < 7
  · skip
    refine wpIn_seq (wpIn_seq (region_p 2 ?_))
    intro K hK
    refine ListK.move (i := 0) (v := .int .i64 (k : Int)) rfl (by simp [s3]) ?_
    refine ListK.bin (i := 1) (u := .int .i64 (k : Int)) (u' := .int .i64 7) (v := .bool true) rfl (by simp [hz_b1]) (by simp) (lssT3 (by omega) _) ?_
    refine ListK.done (hK _ _ ?_)
    clear hK K
    refine wpIn_cond (t := true) (by simp [hz_b1]) (wpIn_skip ?_)
    generalize hA : Act.put _ _ _ = b2
    have hz_b2 : b2.tmps.size = 64 := by rw [← hA]; simp only [size_put, hz_b1]
    have v0 : b2.eval (.tmp 0) = strV [c0, c1, c2, c3, c4, c5, c6] := by rw [← hA]; exact (by simp [s0])
    have v3 : b2.eval (.tmp 3) = .int .i64 (k : Int) := by rw [← hA]; exact (by simp [s3])
    have hd_b2 : b2.defers = [] := by rw [← hA]; simp only [defers_put, hd_b1]
    clear hA
    refine wpIn_seq (wpIn_block ?_)
    obtain ⟨b, hb⟩ : ∃ b, [c0, c1, c2, c3, c4, c5, c6][k]? = some b := ⟨_, List.getElem?_eq_getElem (by simpa using hlt)⟩
    have hbad : isDig b = false → isGood [c0, c1, c2, c3, c4, c5, c6] = false := by
      intro hn
      refine Bool.eq_false_iff.2 fun hgd => ?_
      have : isDig c1 = true ∧ isDig c2 = true ∧ isDig c3 = true ∧ isDig c4 = true ∧ isDig c5 = true ∧ isDig c6 = true := by
        have hgd : good7 c0 c1 c2 c3 c4 c5 c6 = true := hgd
        simp only [good7, Bool.and_eq_true] at hgd
        obtain ⟨⟨⟨_, ⟨⟨⟨⟨⟨x1, x2⟩, x3⟩, x4⟩, x5⟩, x6⟩⟩, _⟩, _⟩ := hgd
        exact ⟨x1, x2, x3, x4, x5, x6⟩
      obtain ⟨x1, x2, x3, x4, x5, x6⟩ := this
      have hx : isDig b = true := by
        rcases k with _ | _ | _ | _ | _ | _ | _ | k
        · omega
        · cases hb; exact x1
        · cases hb; exact x2
        · cases hb; exact x3
        · cases hb; exact x4
        · cases hb; exact x5
        · cases hb; exact x6
        · omega
      rw [hn] at hx
      cases hx
    by_cases hlo : b.toNat < 48
    · have hn : isDig b = false := decide_eq_false (by omega)
      have hd1 : decide ((b.toNat : Int) < 48) = true := by simp; omega
      refine wpIn_seq (region_p 10 ?_)
      intro K hK
      refine ListK.move (i := 0) (v := strV [c0, c1, c2, c3, c4, c5, c6]) rfl (by simp [v0]) ?_
      refine ListK.move (i := 1) (v := .int .i64 (k : Int)) rfl (by simp [v3]) ?_
      refine ListK.indexV (i := 2) (u := strV [c0, c1, c2, c3, c4, c5, c6]) (u' := .int .i64 (k : Int)) (v := u8V b) rfl (by simp [hz_b2]) (by simp [hz_b2]) (ix9 hb _) ?_
      refine ListK.bin (i := 3) (u := u8V b) (u' := .int .u8 48) (v := .bool true) rfl (by simp [hz_b2]) (by simp) (by rw [← hd1]; exact lss5n b 48 _) ?_
      refine ListK.move (i := 4) (v := .bool true) rfl (by simp [hz_b2]) ?_
      refine ListK.passG (i := 5) (e := 30) (b' := true) rfl rfl (by simp [hz_b2]) rfl ?_
      refine ListK.passG (i := 6) (e := 30) (b' := true) rfl rfl (by simp [hz_b2]) rfl ?_
      refine ListK.passG (i := 7) (e := 30) (b' := true) rfl rfl (by simp [hz_b2]) rfl ?_
      refine ListK.passG (i := 8) (e := 30) (b' := true) rfl rfl (by simp [hz_b2]) rfl ?_
      refine ListK.pick (i := 9) (b := true) (v := .bool true) rfl (by simp [hz_b2]) (by simp) ?_
      refine ListK.done (hK _ _ ?_)
      clear hK K
      refine wpIn_cond (t := true) (by simp [hz_b2]) ?_
      generalize hA : Act.put _ _ _ = b3
      have hz_b3 : b3.tmps.size = 64 := by rw [← hA]; simp only [size_put, hz_b2]
      have q0 : b3.eval (.tmp 0) = strV [c0, c1, c2, c3, c4, c5, c6] := by rw [← hA]; exact (by simp [v0])
      have hd_b3 : b3.defers = [] := by rw [← hA]; simp only [defers_put, hd_b2]
      clear hA
      refine wpIn_seq (region_p 1 ?_)
      intro K hK
      refine ListK.assign (i := 0) (v := .bool false) rfl (by simp) ?_
      refine ListK.done (hK _ _ (wpIn_ret ?_))
      exact bodyPost_ret (v := .bool (isGood [c0, c1, c2, c3, c4, c5, c6])) (res1 Try.results60 (by rw [hbad hn]; exact (by simp [hz_b3]))) (by simp only [defers_put, hd_b3]) ⟨rfl, Below.refl _ _⟩
    · have hd1 : decide ((b.toNat : Int) < 48) = false := by simp; omega
      by_cases hhi : 57 < b.toNat
      · have hn : isDig b = false := decide_eq_false (by omega)
        have hd2 : decide (57 < (b.toNat : Int)) = true := by simp; omega
        refine wpIn_seq (region_p 10 ?_)
        intro K hK
        refine ListK.move (i := 0) (v := strV [c0, c1, c2, c3, c4, c5, c6]) rfl (by simp [v0]) ?_
        refine ListK.move (i := 1) (v := .int .i64 (k : Int)) rfl (by simp [v3]) ?_
        refine ListK.indexV (i := 2) (u := strV [c0, c1, c2, c3, c4, c5, c6]) (u' := .int .i64 (k : Int)) (v := u8V b) rfl (by simp [hz_b2]) (by simp [hz_b2]) (ix9 hb _) ?_
        refine ListK.bin (i := 3) (u := u8V b) (u' := .int .u8 48) (v := .bool false) rfl (by simp [hz_b2]) (by simp) (by rw [← hd1]; exact lss5n b 48 _) ?_
        refine ListK.move (i := 4) (v := .bool false) rfl (by simp [hz_b2]) ?_
        refine ListK.move (i := 5) (v := strV [c0, c1, c2, c3, c4, c5, c6]) rfl (by simp [v0]) ?_ (hw := wanted_g (e := 30) (b' := false) rfl (by simp [hz_b2]) rfl)
        refine ListK.move (i := 6) (v := .int .i64 (k : Int)) rfl (by simp [v3]) ?_ (hw := wanted_g (e := 30) (b' := false) rfl (by simp [hz_b2]) rfl)
        refine ListK.indexVW (i := 7) (u := strV [c0, c1, c2, c3, c4, c5, c6]) (u' := .int .i64 (k : Int)) (v := u8V b) rfl (by simp [hz_b2]) (by simp [hz_b2]) (ix9 hb _) ?_ (hw := wanted_g (e := 30) (b' := false) rfl (by simp [hz_b2]) rfl)
        refine ListK.bin (i := 8) (u := u8V b) (u' := .int .u8 57) (v := .bool true) rfl (by simp [hz_b2]) (by simp) (by rw [← hd2]; exact gtr5n b 57 _) ?_ (hw := wanted_g (e := 30) (b' := false) rfl (by simp [hz_b2]) rfl)
        refine ListK.pick (i := 9) (b := false) (v := .bool true) rfl (by simp [hz_b2]) (by simp [hz_b2]) ?_
        refine ListK.done (hK _ _ ?_)
        clear hK K
        refine wpIn_cond (t := true) (by simp [hz_b2]) ?_
        generalize hA : Act.put _ _ _ = b3
        have hz_b3 : b3.tmps.size = 64 := by rw [← hA]; simp only [size_put, hz_b2]
        have q0 : b3.eval (.tmp 0) = strV [c0, c1, c2, c3, c4, c5, c6] := by rw [← hA]; exact (by simp [v0])
        have hd_b3 : b3.defers = [] := by rw [← hA]; simp only [defers_put, hd_b2]
        clear hA
        refine wpIn_seq (region_p 1 ?_)
        intro K hK
        refine ListK.assign (i := 0) (v := .bool false) rfl (by simp) ?_
        refine ListK.done (hK _ _ (wpIn_ret ?_))
        exact bodyPost_ret (v := .bool (isGood [c0, c1, c2, c3, c4, c5, c6])) (res1 Try.results60 (by rw [hbad hn]; exact (by simp [hz_b3]))) (by simp only [defers_put, hd_b3]) ⟨rfl, Below.refl _ _⟩
      · have hy : isDig b = true := decide_eq_true (by omega)
        have hd2 : decide (57 < (b.toNat : Int)) = false := by simp; omega
        refine wpIn_seq (region_p 10 ?_)
        intro K hK
        refine ListK.move (i := 0) (v := strV [c0, c1, c2, c3, c4, c5, c6]) rfl (by simp [v0]) ?_
        refine ListK.move (i := 1) (v := .int .i64 (k : Int)) rfl (by simp [v3]) ?_
        refine ListK.indexV (i := 2) (u := strV [c0, c1, c2, c3, c4, c5, c6]) (u' := .int .i64 (k : Int)) (v := u8V b) rfl (by simp [hz_b2]) (by simp [hz_b2]) (ix9 hb _) ?_
        refine ListK.bin (i := 3) (u := u8V b) (u' := .int .u8 48) (v := .bool false) rfl (by simp [hz_b2]) (by simp) (by rw [← hd1]; exact lss5n b 48 _) ?_
        refine ListK.move (i := 4) (v := .bool false) rfl (by simp [hz_b2]) ?_
        refine ListK.move (i := 5) (v := strV [c0, c1, c2, c3, c4, c5, c6]) rfl (by simp [v0]) ?_ (hw := wanted_g (e := 30) (b' := false) rfl (by simp [hz_b2]) rfl)
        refine ListK.move (i := 6) (v := .int .i64 (k : Int)) rfl (by simp [v3]) ?_ (hw := wanted_g (e := 30) (b' := false) rfl (by simp [hz_b2]) rfl)
        refine ListK.indexVW (i := 7) (u := strV [c0, c1, c2, c3, c4, c5, c6]) (u' := .int .i64 (k : Int)) (v := u8V b) rfl (by simp [hz_b2]) (by simp [hz_b2]) (ix9 hb _) ?_ (hw := wanted_g (e := 30) (b' := false) rfl (by simp [hz_b2]) rfl)
        refine ListK.bin (i := 8) (u := u8V b) (u' := .int .u8 57) (v := .bool false) rfl (by simp [hz_b2]) (by simp) (by rw [← hd2]; exact gtr5n b 57 _) ?_ (hw := wanted_g (e := 30) (b' := false) rfl (by simp [hz_b2]) rfl)
        refine ListK.pick (i := 9) (b := false) (v := .bool false) rfl (by simp [hz_b2]) (by simp [hz_b2]) ?_
        refine ListK.done (hK _ _ ?_)
        clear hK K
        refine wpIn_cond (t := false) (by simp [hz_b2]) (wpIn_skip ?_)
        generalize hA : Act.put _ _ _ = b3
        have hz_b3 : b3.tmps.size = 64 := by rw [← hA]; simp only [size_put, hz_b2]
        have q0 : b3.eval (.tmp 0) = strV [c0, c1, c2, c3, c4, c5, c6] := by rw [← hA]; exact (by simp [v0])
        have q3 : b3.eval (.tmp 3) = .int .i64 (k : Int) := by rw [← hA]; exact (by simp [v3])
        have hd_b3 : b3.defers = [] := by rw [← hA]; simp only [defers_put, hd_b2]
        clear hA
        refine region_p 3 ?_
        intro K hK
        refine ListK.move (i := 0) (v := .int .i64 (k : Int)) rfl (by simp [q3]) ?_
        refine ListK.bin (i := 1) (u := .int .i64 (k : Int)) (u' := .int .i64 1) (v := .int .i64 ((k + 1 : Nat) : Int)) rfl (by simp [hz_b3]) (by simp) (add3 (by omega) (by omega) _) ?_
        refine ListK.assign (i := 2) (v := .int .i64 ((k + 1 : Nat) : Int)) rfl (by simp [hz_b3]) ?_
        refine ListK.done (hK _ _ ?_)
        clear hK K
        refine ⟨⟨k + 1, rfl, by omega, by omega, fun j x h1 h2 h3 => ?_, (by simp only [size_put, hz_b3]), (by simp only [defers_put, hd_b3]), (by simp [q0]), (by simp [hz_b3])⟩, ?_⟩
        · by_cases hjk : j = k
          · subst hjk
            rw [hb] at h3
            cases h3
            exact hy
          · exact hdg j x h1 (by omega) h3
        · rw [s3, show (Act.put _ _ _).eval (.tmp 3) = .int .i64 ((k + 1 : Nat) : Int) from (by simp [hz_b3])]
          simp only [intOf]
          omega
  · have hk : k = 7 := by omega
    refine wpIn_seq (wpIn_seq (region_p 2 ?_))
    intro K hK
    refine ListK.move (i := 0) (v := .int .i64 (k : Int)) rfl (by simp [s3]) ?_
    refine ListK.bin (i := 1) (u := .int .i64 (k : Int)) (u' := .int .i64 7) (v := .bool false) rfl (by simp [hz_b1]) (by simp) (lssF3 (by omega) _) ?_
    refine ListK.done (hK _ _ ?_)
    clear hK K
    refine wpIn_cond (t := false) (by simp [hz_b1]) (wpIn_exit ?_)
    show ig_c.wpIn _ _ _ _ _ _
    refine ig_c_any h0 (fun j x h1 h2 => hdg j x h1 ?_ h2) (by simp only [size_put, hz_b1]) (by simp only [defers_put, hd_b1]) (by simp [s0])
    have := (List.getElem?_eq_some_iff.1 h2).1
    simp only [List.length_cons, List.length_nil] at this
    omega
end
set_option maxHeartbeats 400000 in
theorem isGood_any (l : List UInt8) (hl : l.length ≤ 100000) (W : World) : Calls Try.prog 60 #[strV l] W (EvP W (.bool (isGood l))) := by
  refine (callsIn_wide (n := 5)).1 (callsIn_of_wp Try.func60 body60 trivial ?_ rfl)
  obtain ⟨a, ha⟩ : ∃ a : Act, a = { tmps := #[strV l] ++ Array.replicate (Try.f60.ntmps - (#[strV l] : Array Value).size) undef, defers := [] } := ⟨_, rfl⟩
  have hsz : a.tmps.size = 64 := by rw [ha]; simp [Try.ntmps60]
  have t0 : a.eval (.tmp 0) = strV l := by rw [ha]; simp [Act.eval]
  have hd_a : a.defers = [] := by rw [ha]
  rw [← ha]
  clear ha
  unfold code60
  refine wpIn_seq (region_p 1 ?_)
  intro K hK
  refine ListK.assign (i := 0) (v := .bool false) rfl (by simp) ?_
  refine ListK.done (hK _ _ ?_)
  clear hK K
  generalize hA : Act.put _ _ _ = a1
  have hz_a1 : a1.tmps.size = 64 := by rw [← hA]; simp only [size_put, hsz]
  have u0 : a1.eval (.tmp 0) = strV l := by rw [← hA]; exact (by simp [t0])
  have hd_a1 : a1.defers = [] := by rw [← hA]; simp only [defers_put, hd_a]
  clear hA
  by_cases h7 : l.length = 7
  · obtain ⟨c0, c1, c2, c3, c4, c5, c6, rfl⟩ := len7 h7
    by_cases h1 : c0 = 72
    · have d1 : (!decide (c0 = 72)) = false := by simp [h1]
      refine wpIn_seq (wpIn_seq (region_p 18 ?_))
      intro K hK
      refine ListK.move (i := 0) (v := strV [c0, c1, c2, c3, c4, c5, c6]) rfl (by simp [u0]) ?_
      refine ListK.len (i := 1) (u := strV [c0, c1, c2, c3, c4, c5, c6]) (v := .int .i64 (([c0, c1, c2, c3, c4, c5, c6]).length : Int)) rfl (by simp [hz_a1]) (ln9 _ _ _) rfl ?_
      refine ListK.bin (i := 2) (u := .int .i64 (([c0, c1, c2, c3, c4, c5, c6]).length : Int)) (u' := .int .i64 7) (v := .bool false) rfl (by simp [hz_a1]) (by simp) (neqF (by simp) _) ?_
      refine ListK.move (i := 3) (v := .bool false) rfl (by simp [hz_a1]) ?_
      refine ListK.move (i := 4) (v := strV [c0, c1, c2, c3, c4, c5, c6]) rfl (by simp [u0]) ?_ (hw := wanted_g (e := 7) (b' := false) rfl (by simp [hz_a1]) rfl)
      refine ListK.indexVW (i := 5) (u := strV [c0, c1, c2, c3, c4, c5, c6]) (u' := .int .i64 0) (v := u8V c0) rfl (by simp [hz_a1]) (by simp) (ix9 (k := 0) rfl _) ?_ (hw := wanted_g (e := 7) (b' := false) rfl (by simp [hz_a1]) rfl)
      refine ListK.bin (i := 6) (u := u8V c0) (u' := .int .u8 72) (v := .bool false) rfl (by simp [hz_a1]) (by simp) (by rw [← d1]; exact neq5n c0 72 _) ?_ (hw := wanted_g (e := 7) (b' := false) rfl (by simp [hz_a1]) rfl)
      refine ListK.move (i := 7) (v := .bool false) rfl (by simp [hz_a1]) ?_ (hw := wanted_g (e := 7) (b' := false) rfl (by simp [hz_a1]) rfl)
      refine ListK.passG (i := 8) (e := 11) (b' := false) rfl rfl (by simp [hz_a1]) rfl ?_
      refine ListK.passG (i := 9) (e := 11) (b' := false) rfl rfl (by simp [hz_a1]) rfl ?_
      refine ListK.passG (i := 10) (e := 11) (b' := false) rfl rfl (by simp [hz_a1]) rfl ?_
      refine ListK.pickW (i := 11) (b := false) (v := .bool false) rfl (by simp [hz_a1]) (by simp) ?_ (hw := wanted_g (e := 7) (b' := false) rfl (by simp [hz_a1]) rfl)
      refine ListK.move (i := 12) (v := .bool false) rfl (by simp [hz_a1]) ?_ (hw := wanted_g (e := 7) (b' := false) rfl (by simp [hz_a1]) rfl)
      refine ListK.passG (i := 13) (e := 16) (b' := false) rfl rfl (by simp [hz_a1]) rfl ?_
      refine ListK.passG (i := 14) (e := 16) (b' := false) rfl rfl (by simp [hz_a1]) rfl ?_
      refine ListK.passG (i := 15) (e := 16) (b' := false) rfl rfl (by simp [hz_a1]) rfl ?_
      refine ListK.pickW (i := 16) (b := false) (v := .bool false) rfl (by simp [hz_a1]) (by simp) ?_ (hw := wanted_g (e := 7) (b' := false) rfl (by simp [hz_a1]) rfl)
      refine ListK.pick (i := 17) (b := false) (v := .bool false) rfl (by simp [hz_a1]) (by simp [hz_a1]) ?_
      refine ListK.done (hK _ _ ?_)
      clear hK K
      refine wpIn_cond (t := false) (by simp [hz_a1]) (wpIn_skip ?_)
      exact ig_b_any (.inl h1) (by simp only [size_put, hz_a1]) (by simp only [defers_put, hd_a1]) (by simp [u0])
    · have d1 : (!decide (c0 = 72)) = true := by simp [h1]
      by_cases h2 : c0 = 82
      · have d2 : (!decide (c0 = 82)) = false := by simp [h2]
        refine wpIn_seq (wpIn_seq (region_p 18 ?_))
        intro K hK
        refine ListK.move (i := 0) (v := strV [c0, c1, c2, c3, c4, c5, c6]) rfl (by simp [u0]) ?_
        refine ListK.len (i := 1) (u := strV [c0, c1, c2, c3, c4, c5, c6]) (v := .int .i64 (([c0, c1, c2, c3, c4, c5, c6]).length : Int)) rfl (by simp [hz_a1]) (ln9 _ _ _) rfl ?_
        refine ListK.bin (i := 2) (u := .int .i64 (([c0, c1, c2, c3, c4, c5, c6]).length : Int)) (u' := .int .i64 7) (v := .bool false) rfl (by simp [hz_a1]) (by simp) (neqF (by simp) _) ?_
        refine ListK.move (i := 3) (v := .bool false) rfl (by simp [hz_a1]) ?_
        refine ListK.move (i := 4) (v := strV [c0, c1, c2, c3, c4, c5, c6]) rfl (by simp [u0]) ?_ (hw := wanted_g (e := 7) (b' := false) rfl (by simp [hz_a1]) rfl)
        refine ListK.indexVW (i := 5) (u := strV [c0, c1, c2, c3, c4, c5, c6]) (u' := .int .i64 0) (v := u8V c0) rfl (by simp [hz_a1]) (by simp) (ix9 (k := 0) rfl _) ?_ (hw := wanted_g (e := 7) (b' := false) rfl (by simp [hz_a1]) rfl)
        refine ListK.bin (i := 6) (u := u8V c0) (u' := .int .u8 72) (v := .bool true) rfl (by simp [hz_a1]) (by simp) (by rw [← d1]; exact neq5n c0 72 _) ?_ (hw := wanted_g (e := 7) (b' := false) rfl (by simp [hz_a1]) rfl)
        refine ListK.move (i := 7) (v := .bool true) rfl (by simp [hz_a1]) ?_ (hw := wanted_g (e := 7) (b' := false) rfl (by simp [hz_a1]) rfl)
        refine ListK.move (i := 8) (v := strV [c0, c1, c2, c3, c4, c5, c6]) rfl (by simp [u0]) ?_ (hw := wanted_g (e := 11) (b' := true) rfl (by simp [hz_a1]) rfl)
        refine ListK.indexVW (i := 9) (u := strV [c0, c1, c2, c3, c4, c5, c6]) (u' := .int .i64 0) (v := u8V c0) rfl (by simp [hz_a1]) (by simp) (ix9 (k := 0) rfl _) ?_ (hw := wanted_g (e := 11) (b' := true) rfl (by simp [hz_a1]) rfl)
        refine ListK.bin (i := 10) (u := u8V c0) (u' := .int .u8 82) (v := .bool false) rfl (by simp [hz_a1]) (by simp) (by rw [← d2]; exact neq5n c0 82 _) ?_ (hw := wanted_g (e := 11) (b' := true) rfl (by simp [hz_a1]) rfl)
        refine ListK.pickW (i := 11) (b := true) (v := .bool false) rfl (by simp [hz_a1]) (by simp [hz_a1]) ?_ (hw := wanted_g (e := 7) (b' := false) rfl (by simp [hz_a1]) rfl)
        refine ListK.move (i := 12) (v := .bool false) rfl (by simp [hz_a1]) ?_ (hw := wanted_g (e := 7) (b' := false) rfl (by simp [hz_a1]) rfl)
        refine ListK.passG (i := 13) (e := 16) (b' := false) rfl rfl (by simp [hz_a1]) rfl ?_
        refine ListK.passG (i := 14) (e := 16) (b' := false) rfl rfl (by simp [hz_a1]) rfl ?_
        refine ListK.passG (i := 15) (e := 16) (b' := false) rfl rfl (by simp [hz_a1]) rfl ?_
        refine ListK.pickW (i := 16) (b := false) (v := .bool false) rfl (by simp [hz_a1]) (by simp) ?_ (hw := wanted_g (e := 7) (b' := false) rfl (by simp [hz_a1]) rfl)
        refine ListK.pick (i := 17) (b := false) (v := .bool false) rfl (by simp [hz_a1]) (by simp [hz_a1]) ?_
        refine ListK.done (hK _ _ ?_)
        clear hK K
        refine wpIn_cond (t := false) (by simp [hz_a1]) (wpIn_skip ?_)
        exact ig_b_any (.inr (.inl h2)) (by simp only [size_put, hz_a1]) (by simp only [defers_put, hd_a1]) (by simp [u0])
      · have d2 : (!decide (c0 = 82)) = true := by simp [h2]
        by_cases h3 : c0 = 80
        · have d3 : (!decide (c0 = 80)) = false := by simp [h3]
          refine wpIn_seq (wpIn_seq (region_p 18 ?_))
          intro K hK
          refine ListK.move (i := 0) (v := strV [c0, c1, c2, c3, c4, c5, c6]) rfl (by simp [u0]) ?_
          refine ListK.len (i := 1) (u := strV [c0, c1, c2, c3, c4, c5, c6]) (v := .int .i64 (([c0, c1, c2, c3, c4, c5, c6]).length : Int)) rfl (by simp [hz_a1]) (ln9 _ _ _) rfl ?_
          refine ListK.bin (i := 2) (u := .int .i64 (([c0, c1, c2, c3, c4, c5, c6]).length : Int)) (u' := .int .i64 7) (v := .bool false) rfl (by simp [hz_a1]) (by simp) (neqF (by simp) _) ?_
          refine ListK.move (i := 3) (v := .bool false) rfl (by simp [hz_a1]) ?_
          refine ListK.move (i := 4) (v := strV [c0, c1, c2, c3, c4, c5, c6]) rfl (by simp [u0]) ?_ (hw := wanted_g (e := 7) (b' := false) rfl (by simp [hz_a1]) rfl)
          refine ListK.indexVW (i := 5) (u := strV [c0, c1, c2, c3, c4, c5, c6]) (u' := .int .i64 0) (v := u8V c0) rfl (by simp [hz_a1]) (by simp) (ix9 (k := 0) rfl _) ?_ (hw := wanted_g (e := 7) (b' := false) rfl (by simp [hz_a1]) rfl)
          refine ListK.bin (i := 6) (u := u8V c0) (u' := .int .u8 72) (v := .bool true) rfl (by simp [hz_a1]) (by simp) (by rw [← d1]; exact neq5n c0 72 _) ?_ (hw := wanted_g (e := 7) (b' := false) rfl (by simp [hz_a1]) rfl)
          refine ListK.move (i := 7) (v := .bool true) rfl (by simp [hz_a1]) ?_ (hw := wanted_g (e := 7) (b' := false) rfl (by simp [hz_a1]) rfl)
          refine ListK.move (i := 8) (v := strV [c0, c1, c2, c3, c4, c5, c6]) rfl (by simp [u0]) ?_ (hw := wanted_g (e := 11) (b' := true) rfl (by simp [hz_a1]) rfl)
          refine ListK.indexVW (i := 9) (u := strV [c0, c1, c2, c3, c4, c5, c6]) (u' := .int .i64 0) (v := u8V c0) rfl (by simp [hz_a1]) (by simp) (ix9 (k := 0) rfl _) ?_ (hw := wanted_g (e := 11) (b' := true) rfl (by simp [hz_a1]) rfl)
          refine ListK.bin (i := 10) (u := u8V c0) (u' := .int .u8 82) (v := .bool true) rfl (by simp [hz_a1]) (by simp) (by rw [← d2]; exact neq5n c0 82 _) ?_ (hw := wanted_g (e := 11) (b' := true) rfl (by simp [hz_a1]) rfl)
          refine ListK.pickW (i := 11) (b := true) (v := .bool true) rfl (by simp [hz_a1]) (by simp [hz_a1]) ?_ (hw := wanted_g (e := 7) (b' := false) rfl (by simp [hz_a1]) rfl)
          refine ListK.move (i := 12) (v := .bool true) rfl (by simp [hz_a1]) ?_ (hw := wanted_g (e := 7) (b' := false) rfl (by simp [hz_a1]) rfl)
          refine ListK.move (i := 13) (v := strV [c0, c1, c2, c3, c4, c5, c6]) rfl (by simp [u0]) ?_ (hw := wanted_g (e := 16) (b' := true) rfl (by simp [hz_a1]) rfl)
          refine ListK.indexVW (i := 14) (u := strV [c0, c1, c2, c3, c4, c5, c6]) (u' := .int .i64 0) (v := u8V c0) rfl (by simp [hz_a1]) (by simp) (ix9 (k := 0) rfl _) ?_ (hw := wanted_g (e := 16) (b' := true) rfl (by simp [hz_a1]) rfl)
          refine ListK.bin (i := 15) (u := u8V c0) (u' := .int .u8 80) (v := .bool false) rfl (by simp [hz_a1]) (by simp) (by rw [← d3]; exact neq5n c0 80 _) ?_ (hw := wanted_g (e := 16) (b' := true) rfl (by simp [hz_a1]) rfl)
          refine ListK.pickW (i := 16) (b := true) (v := .bool false) rfl (by simp [hz_a1]) (by simp [hz_a1]) ?_ (hw := wanted_g (e := 7) (b' := false) rfl (by simp [hz_a1]) rfl)
          refine ListK.pick (i := 17) (b := false) (v := .bool false) rfl (by simp [hz_a1]) (by simp [hz_a1]) ?_
          refine ListK.done (hK _ _ ?_)
          clear hK K
          refine wpIn_cond (t := false) (by simp [hz_a1]) (wpIn_skip ?_)
          exact ig_b_any (.inr (.inr h3)) (by simp only [size_put, hz_a1]) (by simp only [defers_put, hd_a1]) (by simp [u0])
        · have d3 : (!decide (c0 = 80)) = true := by simp [h3]
          have hv : isGood [c0, c1, c2, c3, c4, c5, c6] = false := by
            show good7 c0 c1 c2 c3 c4 c5 c6 = false
            simp [good7, h1, h2, h3]
          refine wpIn_seq (wpIn_seq (region_p 18 ?_))
          intro K hK
          refine ListK.move (i := 0) (v := strV [c0, c1, c2, c3, c4, c5, c6]) rfl (by simp [u0]) ?_
          refine ListK.len (i := 1) (u := strV [c0, c1, c2, c3, c4, c5, c6]) (v := .int .i64 (([c0, c1, c2, c3, c4, c5, c6]).length : Int)) rfl (by simp [hz_a1]) (ln9 _ _ _) rfl ?_
          refine ListK.bin (i := 2) (u := .int .i64 (([c0, c1, c2, c3, c4, c5, c6]).length : Int)) (u' := .int .i64 7) (v := .bool false) rfl (by simp [hz_a1]) (by simp) (neqF (by simp) _) ?_
          refine ListK.move (i := 3) (v := .bool false) rfl (by simp [hz_a1]) ?_
          refine ListK.move (i := 4) (v := strV [c0, c1, c2, c3, c4, c5, c6]) rfl (by simp [u0]) ?_ (hw := wanted_g (e := 7) (b' := false) rfl (by simp [hz_a1]) rfl)
          refine ListK.indexVW (i := 5) (u := strV [c0, c1, c2, c3, c4, c5, c6]) (u' := .int .i64 0) (v := u8V c0) rfl (by simp [hz_a1]) (by simp) (ix9 (k := 0) rfl _) ?_ (hw := wanted_g (e := 7) (b' := false) rfl (by simp [hz_a1]) rfl)
          refine ListK.bin (i := 6) (u := u8V c0) (u' := .int .u8 72) (v := .bool true) rfl (by simp [hz_a1]) (by simp) (by rw [← d1]; exact neq5n c0 72 _) ?_ (hw := wanted_g (e := 7) (b' := false) rfl (by simp [hz_a1]) rfl)
          refine ListK.move (i := 7) (v := .bool true) rfl (by simp [hz_a1]) ?_ (hw := wanted_g (e := 7) (b' := false) rfl (by simp [hz_a1]) rfl)
          refine ListK.move (i := 8) (v := strV [c0, c1, c2, c3, c4, c5, c6]) rfl (by simp [u0]) ?_ (hw := wanted_g (e := 11) (b' := true) rfl (by simp [hz_a1]) rfl)
          refine ListK.indexVW (i := 9) (u := strV [c0, c1, c2, c3, c4, c5, c6]) (u' := .int .i64 0) (v := u8V c0) rfl (by simp [hz_a1]) (by simp) (ix9 (k := 0) rfl _) ?_ (hw := wanted_g (e := 11) (b' := true) rfl (by simp [hz_a1]) rfl)
          refine ListK.bin (i := 10) (u := u8V c0) (u' := .int .u8 82) (v := .bool true) rfl (by simp [hz_a1]) (by simp) (by rw [← d2]; exact neq5n c0 82 _) ?_ (hw := wanted_g (e := 11) (b' := true) rfl (by simp [hz_a1]) rfl)
          refine ListK.pickW (i := 11) (b := true) (v := .bool true) rfl (by simp [hz_a1]) (by simp [hz_a1]) ?_ (hw := wanted_g (e := 7) (b' := false) rfl (by simp [hz_a1]) rfl)
          refine ListK.move (i := 12) (v := .bool true) rfl (by simp [hz_a1]) ?_ (hw := wanted_g (e := 7) (b' := false) rfl (by simp [hz_a1]) rfl)
          refine ListK.move (i := 13) (v := strV [c0, c1, c2, c3, c4, c5, c6]) rfl (by simp [u0]) ?_ (hw := wanted_g (e := 16) (b' := true) rfl (by simp [hz_a1]) rfl)
          refine ListK.indexVW (i := 14) (u := strV [c0, c1, c2, c3, c4, c5, c6]) (u' := .int .i64 0) (v := u8V c0) rfl (by simp [hz_a1]) (by simp) (ix9 (k := 0) rfl _) ?_ (hw := wanted_g (e := 16) (b' := true) rfl (by simp [hz_a1]) rfl)
          refine ListK.bin (i := 15) (u := u8V c0) (u' := .int .u8 80) (v := .bool true) rfl (by simp [hz_a1]) (by simp) (by rw [← d3]; exact neq5n c0 80 _) ?_ (hw := wanted_g (e := 16) (b' := true) rfl (by simp [hz_a1]) rfl)
          refine ListK.pickW (i := 16) (b := true) (v := .bool true) rfl (by simp [hz_a1]) (by simp [hz_a1]) ?_ (hw := wanted_g (e := 7) (b' := false) rfl (by simp [hz_a1]) rfl)
          refine ListK.pick (i := 17) (b := false) (v := .bool true) rfl (by simp [hz_a1]) (by simp [hz_a1]) ?_
          refine ListK.done (hK _ _ ?_)
          clear hK K
          refine wpIn_cond (t := true) (by simp [hz_a1]) ?_
          generalize hA : Act.put _ _ _ = a2
          have hz_a2 : a2.tmps.size = 64 := by rw [← hA]; simp only [size_put, hz_a1]
          have v0 : a2.eval (.tmp 0) = strV [c0, c1, c2, c3, c4, c5, c6] := by rw [← hA]; exact (by simp [u0])
          have hd_a2 : a2.defers = [] := by rw [← hA]; simp only [defers_put, hd_a1]
          clear hA
          refine wpIn_seq (region_p 1 ?_)
          intro K hK
          refine ListK.assign (i := 0) (v := .bool false) rfl (by simp) ?_
          refine ListK.done (hK _ _ (wpIn_ret ?_))
          exact bodyPost_ret (v := .bool (isGood [c0, c1, c2, c3, c4, c5, c6])) (res1 Try.results60 (by rw [hv]; exact (by simp [hz_a2]))) (by simp only [defers_put, hd_a2]) ⟨rfl, Below.refl _ _⟩
  · have hv : isGood l = false := by
      unfold isGood
      split
      · exact (h7 rfl).elim
      · rfl
    refine wpIn_seq (wpIn_seq (region_p 18 ?_))
    intro K hK
    refine ListK.move (i := 0) (v := strV l) rfl (by simp [u0]) ?_
    refine ListK.len (i := 1) (u := strV l) (v := .int .i64 ((l).length : Int)) rfl (by simp [hz_a1]) (ln9 _ _ _) rfl ?_
    refine ListK.bin (i := 2) (u := .int .i64 ((l).length : Int)) (u' := .int .i64 7) (v := .bool true) rfl (by simp [hz_a1]) (by simp) (neqT (by omega) _) ?_
    refine ListK.move (i := 3) (v := .bool true) rfl (by simp [hz_a1]) ?_
    refine ListK.passG (i := 4) (e := 7) (b' := true) rfl rfl (by simp [hz_a1]) rfl ?_
    refine ListK.passG (i := 5) (e := 7) (b' := true) rfl rfl (by simp [hz_a1]) rfl ?_
    refine ListK.passG (i := 6) (e := 7) (b' := true) rfl rfl (by simp [hz_a1]) rfl ?_
    refine ListK.passG (i := 7) (e := 7) (b' := true) rfl rfl (by simp [hz_a1]) rfl ?_
    refine ListK.passU (i := 8) (e := 11) rfl rfl (by simp [hz_a1]) ?_
    refine ListK.passU (i := 9) (e := 11) rfl rfl (by simp [hz_a1]) ?_
    refine ListK.passU (i := 10) (e := 11) rfl rfl (by simp [hz_a1]) ?_
    refine ListK.passG (i := 11) (e := 7) (b' := true) rfl rfl (by simp [hz_a1]) rfl ?_
    refine ListK.passG (i := 12) (e := 7) (b' := true) rfl rfl (by simp [hz_a1]) rfl ?_
    refine ListK.passU (i := 13) (e := 16) rfl rfl (by simp [hz_a1]) ?_
    refine ListK.passU (i := 14) (e := 16) rfl rfl (by simp [hz_a1]) ?_
    refine ListK.passU (i := 15) (e := 16) rfl rfl (by simp [hz_a1]) ?_
    refine ListK.passG (i := 16) (e := 7) (b' := true) rfl rfl (by simp [hz_a1]) rfl ?_
    refine ListK.pick (i := 17) (b := true) (v := .bool true) rfl (by simp [hz_a1]) (by simp) ?_
    refine ListK.done (hK _ _ ?_)
    clear hK K
    refine wpIn_cond (t := true) (by simp [hz_a1]) ?_
    generalize hA : Act.put _ _ _ = a2
    have hz_a2 : a2.tmps.size = 64 := by rw [← hA]; simp only [size_put, hz_a1]
    have v0 : a2.eval (.tmp 0) = strV l := by rw [← hA]; exact (by simp [u0])
    have hd_a2 : a2.defers = [] := by rw [← hA]; simp only [defers_put, hd_a1]
    clear hA
    refine wpIn_seq (region_p 1 ?_)
    intro K hK
    refine ListK.assign (i := 0) (v := .bool false) rfl (by simp) ?_
    refine ListK.done (hK _ _ (wpIn_ret ?_))
    exact bodyPost_ret (v := .bool (isGood l)) (res1 Try.results60 (by rw [hv]; exact (by simp [hz_a2]))) (by simp only [defers_put, hd_a2]) ⟨rfl, Below.refl _ _⟩
end Go.Proofs.YtmdlmmfbcnkanaaR
namespace Go.Proofs.YtmdlmmfbcnkanaaR
open Go.RowKit Go.Shelf
theorem StrsAt.drop {w : World} {B b off : Nat} {L : List (List UInt8)} (k : Nat) (h : StrsAt w B (some ⟨b, off, none⟩) L) : StrsAt w B (some ⟨b, off + k, none⟩) (L.drop k) := by
  intro i l hl
  rw [List.getElem?_drop] at hl
  obtain ⟨b', o', e, h1, h2⟩ := h (k + i) l hl
  cases e
  exact ⟨b, off + k, rfl, h1, by rw [Nat.add_assoc]; exact h2⟩
theorem StrsAt.take {w : World} {B : Nat} {A : Option Addr} {L : List (List UInt8)} (k : Nat) (h : StrsAt w B A L) : StrsAt w B A (L.take k) := by
  intro i l hl
  rw [List.getElem?_take] at hl
  split at hl
  · exact h i l hl
  · cases hl
end Go.Proofs.YtmdlmmfbcnkanaaR
namespace Go.Proofs.YtmdlmmfbcnkanaaR
open Go.RowKit Go.Shelf
section
variable {ops : Array Oper} {K : Act → World → Prop} {Kp : Nat → World → World → Prop} {fuel d i : Nat} {listed : Array Bool} {a : Act} {w w' : World} {ty : TypeId} {pos : String} {aft : Array Edge} {v v2 v' : Value}
theorem StepK.app36 {s z : Operand} (hi : ops[i]? = some ⟨some d, .call { callee := .builtin .append, args := #[s, z], argTypes := #[36, 36] }, ty, pos, aft, none⟩) (hs : a.eval s = v) (hx : a.eval z = v2)
    (hr : (Builtin.append_ #[36, 36] ty #[v, v2]).run Try.prog w = .ok v' w') (hk : Kp i w w') (h : AnyK Try.prog ops K Kp fuel (listed.setIfInBounds i true) (a.put (some d) v') w') : StepK Try.prog ops K Kp fuel listed a w i := by
  unfold StepK opG
  simp only [hi]
  rw [if_pos (show Region.wanted _ _ = true from rfl)]
  simp [Oper.wp, execOp, resolve, invoke, builtin, hs, hx, hr, Oper.upon]
  exact ⟨hk, h⟩
end
/-- What is left of some records. -/
structure Tn (L : List (List UInt8)) (i : Nat) (T : List (List UInt8)) : Prop where
  sub : ∀ r, r ∈ T → r ∈ L
  hd : 0 < i → ∀ h, L[0]? = some h → h ∈ T
  len : T.length ≤ 2 * i
theorem Tn.skip {L : List (List UInt8)} {i : Nat} {T : List (List UInt8)} (t : Tn L i T) (hi : 0 < i) : Tn L (i + 1) T := ⟨t.sub, fun _ => t.hd hi, by have := t.len; omega⟩
theorem Tn.one {L : List (List UInt8)} {i : Nat} {T : List (List UInt8)} {l : List UInt8} (t : Tn L i T) (hl : L[i]? = some l) : Tn L (i + 1) (T ++ [l]) := by
  refine ⟨fun r hr => ?_, fun _ h hh => ?_, by have := t.len; simp; omega⟩
  · rcases List.mem_append.1 hr with hr | hr
    · exact t.sub r hr
    · simp at hr
      rw [hr]
      exact List.mem_of_getElem? hl
  · by_cases h0 : i = 0
    · subst h0
      rw [hl] at hh
      cases hh
      simp
    · exact List.mem_append_left _ (t.hd (by omega) h hh)
theorem Tn.two {L : List (List UInt8)} {i : Nat} {T : List (List UInt8)} {l : List UInt8} (t : Tn L i T) (hl : L[i]? = some l) : Tn L (i + 1) (T ++ [l, l]) := by
  have h1 := t.one hl
  refine ⟨fun r hr => h1.sub r (by simpa using hr), fun h0 h hh => by simpa using h1.hd h0 h hh, by have := t.len; simp; omega⟩
theorem WordsAt.below {w w' : World} {B : Nat} {A : Option Addr} {l : List Nat} (h : WordsAt w B A l) (hb : Below B w w') : WordsAt w' B A l := by
  intro k x hx
  obtain ⟨h1, b, off, e, h2, h3⟩ := h k x hx
  exact ⟨h1, b, off, e, h2, by rw [hb.cell (show Addr.block ⟨b, off + k, none⟩ < B from h2)]; exact h3⟩
theorem WordsAt.more {w : World} {B B' : Nat} {A : Option Addr} {l : List Nat} (h : WordsAt w B A l) (hb : B ≤ B') : WordsAt w B' A l := by
  intro k x hx
  obtain ⟨h1, b, off, e, h2, h3⟩ := h k x hx
  exact ⟨h1, b, off, e, Nat.lt_of_lt_of_le h2 hb, h3⟩
theorem os_none (W : World) : OS W (.slice none 0 0) [] W := ⟨Below.refl _ _, rfl, .inl ⟨rfl, rfl⟩⟩
theorem StrsAt.wide {w : World} {B B' : Nat} {A : Option Addr} {L : List (List UInt8)} (h : StrsAt w B A L) (hb : B ≤ B') : StrsAt w B' A L := by
  intro i l hl
  obtain ⟨b, o, e1, e2, e3⟩ := h i l hl
  exact ⟨b, o, e1, Nat.lt_of_lt_of_le e2 hb, e3⟩
section
attribute [local irreducible] AnyK StepK
variable {L : List (List UInt8)} {A Aw : Option Addr} {c cw by_ : Nat} {lw : List Nat} {W : World}
end
end Go.Proofs.YtmdlmmfbcnkanaaR
namespace Go.Proofs.YtmdlmmfbcnkanaaR
open Go.RowKit Go.Shelf
noncomputable def opsGo30 : Array Oper := (Try.f32.body.bind (regionOf 0)).getD #[]
noncomputable def opsGo31 : Array Oper := (Try.f32.body.bind (regionOf 1)).getD #[]
noncomputable def opsGo32 : Array Oper := (Try.f32.body.bind (regionOf 2)).getD #[]
noncomputable def opsGo33 : Array Oper := (Try.f32.body.bind (regionOf 3)).getD #[]
noncomputable def opsGo34 : Array Oper := (Try.f32.body.bind (regionOf 4)).getD #[]
noncomputable def opsGo35 : Array Oper := (Try.f32.body.bind (regionOf 5)).getD #[]
noncomputable def opsGo36 : Array Oper := (Try.f32.body.bind (regionOf 6)).getD #[]
noncomputable def opsGo37 : Array Oper := (Try.f32.body.bind (regionOf 7)).getD #[]
noncomputable def gd_l : Code := (.seq (.seq (.region 3 opsGo33 false) (.cond (.tmp 8) .skip (.exit 0))) (.seq (.block 1 (.seq (.region 5 opsGo35 false) (.cond (.tmp 15) (.region 6 opsGo36 false) .skip))) (.region 4 opsGo34 false)))
noncomputable def code32 : Code := (.seq (.region 0 opsGo30 false) (.seq (.region 1 opsGo31 false) (.seq (.seq (.region 2 opsGo32 false) (.block 0 (.loop gd_l))) (.seq (.region 7 opsGo37 false) .ret))))
theorem body32 : Try.f32.body = some code32 := by kernel_rfl
set_option maxHeartbeats 400000 in
theorem refGood_any (A : Option Addr) (c : Nat) (L : List (List UInt8)) (hL : L.length ≤ 90000) (hx8 : ∀ x, x ∈ L → x.length ≤ 100000) (W : World) (hst : StrsAt W W.heap.size A L) : Calls Try.prog 32 #[.slice A L.length c] W (fun e w' => ∃ v, e = .returned v ∧ OS W v (L.filter isGood) w') := by
  refine (callsIn_wide (n := 5)).1 (callsIn_of_wp Try.func32 body32 trivial ?_ rfl)
  obtain ⟨a, ha⟩ : ∃ a : Act, a = { tmps := #[.slice A L.length c] ++ Array.replicate (Try.f32.ntmps - (#[.slice A L.length c] : Array Value).size) undef, defers := [] } := ⟨_, rfl⟩
  have hsz : a.tmps.size = 24 := by rw [ha]; simp [Try.ntmps32]
  have t0 : a.eval (.tmp 0) = .slice A L.length c := by rw [ha]; simp [Act.eval]
  have hd_a : a.defers = [] := by rw [ha]
  rw [← ha]
  clear ha
  unfold code32
  refine wpIn_seq (region_p 1 ?_)
  intro K hK
  refine ListK.assign (i := 0) (v := .slice none 0 0) rfl (by simp) ?_
  refine ListK.done (hK _ _ ?_)
  clear hK K
  refine wpIn_seq (region_p 1 ?_)
  intro K hK
  refine ListK.assign (i := 0) (v := .slice none 0 0) rfl (by simp) ?_
  refine ListK.done (hK _ _ ?_)
  clear hK K
  refine wpIn_seq (wpIn_seq (region_p 1 ?_))
  intro K hK
  refine ListK.assign (i := 0) (v := .int .i64 0) rfl (by simp) ?_
  refine ListK.done (hK _ _ ?_)
  clear hK K
  generalize hA : Act.put _ _ _ = a1
  have hz_a1 : a1.tmps.size = 24 := by rw [← hA]; simp only [size_put, hsz]
  have u0 : a1.eval (.tmp 0) = .slice A L.length c := by rw [← hA]; exact (by simp [t0])
  have u3 : a1.eval (.tmp 3) = .slice none 0 0 := by rw [← hA]; exact (by simp [hsz])
  have u4 : a1.eval (.tmp 4) = .int .i64 0 := by rw [← hA]; exact (by simp [hsz])
  have hd_a1 : a1.defers = [] := by rw [← hA]; simp only [defers_put, hd_a]
  clear hA
  refine wpIn_block (wpIn_loop (fun a W' => ∃ (i : Nat) (v : Value), i ≤ L.length ∧ OS W v ((L.take i).filter isGood) W' ∧ a.tmps.size = 24 ∧ a.defers = [] ∧ a.eval (.tmp 0) = .slice A L.length c ∧ a.eval (.tmp 3) = v ∧ a.eval (.tmp 4) = .int .i64 (i : Int)) (fun a _ => L.length - (intOf (a.eval (.tmp 4))).toNat)
    ⟨0, _, Nat.zero_le _, os_none W, hz_a1, hd_a1, u0, u3, u4⟩ ?_)
  rintro b1 W1 ⟨i, v, hi, os, hz_b1, hd_b1, s0, s3, s4⟩
  unfold gd_l
  by_cases hlt : i < L.length
  · have hx := List.getElem?_eq_getElem hlt
    obtain ⟨gb, off, hA, hgb, hc⟩ := hst i _ hx
    have hc1 := (os.low.cell (p := ⟨gb, off + i, none⟩) hgb).trans hc
    have hxl := hx8 L[i] (List.getElem_mem hlt)
    obtain ⟨x, hxe⟩ : ∃ x, L[i] = x := ⟨_, rfl⟩
    rw [hxe] at hx hc hc1 hxl
    have htk : L.take (i + 1) = L.take i ++ [x] := by rw [List.take_add_one, hx]; rfl
    have hnext : ∀ (b : Act) (W' : World) (v' : Value), b.tmps.size = 24 → b.defers = [] → b.eval (.tmp 0) = .slice A L.length c → b.eval (.tmp 3) = v' → b.eval (.tmp 4) = .int .i64 (i : Int) → OS W v' ((L.take (i + 1)).filter isGood) W' →
        (Code.region 4 opsGo34 false).wpIn Fence.wide 5 Try.prog (fun e a' w' => e = .normal ∧ (∃ (i : Nat) (v : Value), i ≤ L.length ∧ OS W v ((L.take i).filter isGood) w' ∧ a'.tmps.size = 24 ∧ a'.defers = [] ∧ a'.eval (.tmp 0) = .slice A L.length c ∧ a'.eval (.tmp 3) = v ∧ a'.eval (.tmp 4) = .int .i64 (i : Int)) ∧ L.length - (intOf (a'.eval (.tmp 4))).toNat < L.length - (intOf (b1.eval (.tmp 4))).toNat) b W' := by
      intro b W' v' hz_b hd_b p0 p3 p4 os'
      refine region_p 3 ?_
      intro K hK
      refine ListK.move (i := 0) (v := .int .i64 (i : Int)) rfl (by simp [p4]) ?_
      refine ListK.bin (i := 1) (u := .int .i64 (i : Int)) (u' := .int .i64 1) (v := .int .i64 ((i + 1 : Nat) : Int)) rfl (by simp [hz_b]) (by simp) (add3 (by omega) (by omega) _) ?_
      refine ListK.assign (i := 2) (v := .int .i64 ((i + 1 : Nat) : Int)) rfl (by simp [hz_b]) ?_
      refine ListK.done (hK _ _ ?_)
      clear hK K
      refine ⟨rfl, ⟨i + 1, v', by omega, os', (by simp only [size_put, hz_b]), (by simp only [defers_put, hd_b]), (by simp [p0]), (by simp [p3]), (by simp [hz_b])⟩, ?_⟩
      rw [s4, show (Act.put _ _ _).eval (.tmp 4) = .int .i64 ((i + 1 : Nat) : Int) from (by simp [hz_b])]
      simp only [intOf]
      omega
    subst hA
    refine wpIn_seq (wpIn_seq (region_p 4 ?_))
    intro K hK
    refine ListK.move (i := 0) (v := .int .i64 (i : Int)) rfl (by simp [s4]) ?_
    refine ListK.move (i := 1) (v := .slice (some ⟨gb, off, none⟩) L.length c) rfl (by simp [s0]) ?_
    refine ListK.len (i := 2) (u := .slice (some ⟨gb, off, none⟩) L.length c) (v := .int .i64 L.length) rfl (by simp [hz_b1]) (ln36 _ _ _ _ _) rfl ?_
    refine ListK.bin (i := 3) (u := .int .i64 (i : Int)) (u' := .int .i64 L.length) (v := .bool true) rfl (by simp [hz_b1]) (by simp [hz_b1]) (lssT3 (by omega) _) ?_
    refine ListK.done (hK _ _ ?_)
    clear hK K
    refine wpIn_cond (t := true) (by simp [hz_b1]) (wpIn_skip ?_)
    generalize hA : Act.put _ _ _ = b2
    have hz_b2 : b2.tmps.size = 24 := by rw [← hA]; simp only [size_put, hz_b1]
    have o0 : b2.eval (.tmp 0) = .slice (some ⟨gb, off, none⟩) L.length c := by rw [← hA]; exact (by simp [s0])
    have o3 : b2.eval (.tmp 3) = v := by rw [← hA]; exact (by simp [s3])
    have o4 : b2.eval (.tmp 4) = .int .i64 (i : Int) := by rw [← hA]; exact (by simp [s4])
    have hd_b2 : b2.defers = [] := by rw [← hA]; simp only [defers_put, hd_b1]
    clear hA
    refine wpIn_seq (wpIn_block ?_)
    refine wpIn_seq (region_p 5 ?_)
    intro K hK
    refine ListK.move (i := 0) (v := .slice (some ⟨gb, off, none⟩) L.length c) rfl (by simp [o0]) ?_
    refine ListK.move (i := 1) (v := .int .i64 (i : Int)) rfl (by simp [o4]) ?_
    refine ListK.index (i := 2) (u := .slice (some ⟨gb, off, none⟩) L.length c) (u' := .int .i64 (i : Int)) (v := .pointer (some ⟨gb, off + i, none⟩)) rfl (by simp [hz_b2]) (by simp [hz_b2]) (ix36 hlt _) ?_
    refine ListK.load (i := 3) (p := ⟨gb, off + i, none⟩) (v := strV x) rfl (by simp [hz_b2]) (ld9 (hc1)) ?_
    refine ListK.call (i := 4) (vs := #[strV x]) rfl (enters_of Try.func60 (by kernel_rfl) rfl) (by simp [hz_b2]) ((isGood_any x hxl W1).mono ?_)
    rintro _ W2 ⟨rfl, hb2⟩
    refine ⟨_, rfl, ?_⟩
    refine ListK.done (hK _ _ ?_)
    clear hK K
    have os2 := os.below hb2
    cases hg : isGood x
    · refine wpIn_cond (t := false) (by rw [← hg]; exact (by simp [hz_b2])) (wpIn_skip ?_)
      refine Go.Code.wpIn_mono (fun e a'' w'' hq => ?_) (hnext _ W2 v (by simp only [size_put, hz_b2]) (by simp only [defers_put, hd_b2]) (by simp [o0]) (by simp [o3]) (by simp [o4]) (by rw [htk, List.filter_append, List.filter_cons_of_neg (by rw [hg]; decide)]; simpa using os2))
      obtain ⟨rfl, h1, h2⟩ := hq
      exact ⟨h1, h2⟩
    · refine wpIn_cond (t := true) (by rw [← hg]; exact (by simp [hz_b2])) ?_
      generalize hA : Act.put _ _ _ = b3
      have hz_b3 : b3.tmps.size = 24 := by rw [← hA]; simp only [size_put, hz_b2]
      have q0 : b3.eval (.tmp 0) = .slice (some ⟨gb, off, none⟩) L.length c := by rw [← hA]; exact (by simp [o0])
      have q3 : b3.eval (.tmp 3) = v := by rw [← hA]; exact (by simp [o3])
      have q4 : b3.eval (.tmp 4) = .int .i64 (i : Int) := by rw [← hA]; exact (by simp [o4])
      have hd_b3 : b3.defers = [] := by rw [← hA]; simp only [defers_put, hd_b2]
      clear hA
      have hc2 := (os2.low.cell (p := ⟨gb, off + i, none⟩) hgb).trans hc
      have hfl : ((L.take i).filter isGood).length ≤ 90000 := by
        have h1 := List.length_filter_le isGood (L.take i)
        rw [List.length_take] at h1
        omega
      obtain ⟨v4, W4, hap4, os4⟩ := app36_run (l := x) (b := W2.heap.size) (c := 1) (ty := 36) (os2.below ((Below.refl W2.heap.size W2).alloc (Nat.le_refl _) (.cells #[strV x] 9))) ((Whole.new W2 9 #[strV x]).cell 0) (by omega)
      refine region_p 8 ?_
      intro K hK
      refine ListK.move (i := 0) (v := v) rfl (by simp [q3]) ?_
      refine ListK.move (i := 1) (v := .slice (some ⟨gb, off, none⟩) L.length c) rfl (by simp [q0]) ?_
      refine ListK.move (i := 2) (v := .int .i64 (i : Int)) rfl (by simp [q4]) ?_
      refine ListK.index (i := 3) (u := .slice (some ⟨gb, off, none⟩) L.length c) (u' := .int .i64 (i : Int)) (v := .pointer (some ⟨gb, off + i, none⟩)) rfl (by simp [hz_b3]) (by simp [hz_b3]) (ix36 hlt _) ?_
      refine ListK.load (i := 4) (p := ⟨gb, off + i, none⟩) (v := strV x) rfl (by simp [hz_b3]) (ld9 (hc2)) ?_
      refine ListK.bsl (i := 5) (ps := #[(0, strV x)]) (v := .slice (some ⟨W2.heap.size, 0, none⟩) 1 1) rfl (by simp [hz_b3]) (bs36_1 _ W2) ?_
      refine ListK.app36 (i := 6) rfl (by simp [hz_b3]) (by simp [hz_b3]) hap4 ?_
      refine ListK.assign (i := 7) (v := v4) rfl (by simp [hz_b3]) ?_
      refine ListK.done (hK _ _ ?_)
      clear hK K
      refine Go.Code.wpIn_mono (fun e a'' w'' hq => ?_) (hnext _ W4 v4 (by simp only [size_put, hz_b3]) (by simp only [defers_put, hd_b3]) (by simp [q0]) (by simp [hz_b3]) (by simp [q4]) (by rw [htk, List.filter_append, List.filter_cons_of_pos hg]; exact os4))
      obtain ⟨rfl, h1, h2⟩ := hq
      exact ⟨h1, h2⟩
  · have hie : i = L.length := by omega
    refine wpIn_seq (wpIn_seq (region_p 4 ?_))
    intro K hK
    refine ListK.move (i := 0) (v := .int .i64 (i : Int)) rfl (by simp [s4]) ?_
    refine ListK.move (i := 1) (v := .slice A L.length c) rfl (by simp [s0]) ?_
    refine ListK.len (i := 2) (u := .slice A L.length c) (v := .int .i64 L.length) rfl (by simp [hz_b1]) (ln36 _ _ _ _ _) rfl ?_
    refine ListK.bin (i := 3) (u := .int .i64 (i : Int)) (u' := .int .i64 L.length) (v := .bool false) rfl (by simp [hz_b1]) (by simp [hz_b1]) (lssF3 (by omega) _) ?_
    refine ListK.done (hK _ _ ?_)
    clear hK K
    refine wpIn_cond (t := false) (by simp [hz_b1]) (wpIn_exit ?_)
    show (Code.wpIn _ _ _ (Code.seq _ _) _ _ _)
    rw [hie, List.take_length] at os
    refine wpIn_seq (region_p 2 ?_)
    intro K hK
    refine ListK.move (i := 0) (v := v) rfl (by simp [s3]) ?_
    refine ListK.assign (i := 1) (v := v) rfl (by simp [hz_b1]) ?_
    refine ListK.done (hK _ _ (wpIn_ret ?_))
    exact bodyPost_ret (v := v) (res1 Try.results32 (by simp [hz_b1])) (by simp only [defers_put, hd_b1]) ⟨v, rfl, os⟩
section
attribute [local irreducible] AnyK StepK
variable {L O : List (List UInt8)} {W : World} {x : List UInt8} {c gb off i : Nat} {v : Value}
end
end Go.Proofs.YtmdlmmfbcnkanaaR
namespace Go.Proofs.YtmdlmmfbcnkanaaR

/-- A reading as a number. -/
def rdN (s : Ser) (i : Nat) : Nat := (s.rd.getD i 0).toNat
def smN (s : Ser) (b : Nat) : Nat := (sumB s b).toNat
def hdR (s : Ser) : List UInt8 := made 72 s.rd.length (10 * s.width.toNat + s.step.toNat)
def hdH (s : Ser) : Head := ⟨s.rd.length, s.width.toNat, s.step.toNat⟩
theorem mem_recsTo {s : Ser} : ∀ {k : Nat} {r : List UInt8}, r ∈ recsTo s k ↔ r = hdR s ∨ (∃ i, i < k ∧ r = made 82 i (rdN s i)) ∨ (∃ i, i < k ∧ closesB s.rd.length s.width i = true ∧ r = made 80 (i / s.width.toNat) (smN s (i / s.width.toNat)))
  | 0, r => by simp [recsTo, hdR]
  | k + 1, r => by
    unfold recsTo
    rw [List.mem_append, List.mem_append, mem_recsTo (k := k)]
    constructor
    · rintro (((h | ⟨i, h1, h2⟩ | ⟨i, h1, h2, h3⟩) | h) | h)
      · exact .inl h
      · exact .inr (.inl ⟨i, by omega, h2⟩)
      · exact .inr (.inr ⟨i, by omega, h2, h3⟩)
      · simp at h
        exact .inr (.inl ⟨k, by omega, h⟩)
      · split at h
        · rename_i hc
          simp at h
          exact .inr (.inr ⟨k, by omega, hc, h⟩)
        · simp at h
    · rintro (h | ⟨i, h1, h2⟩ | ⟨i, h1, h2, h3⟩)
      · exact .inl (.inl (.inl h))
      · by_cases e : i = k
        · subst e
          exact .inl (.inr (List.mem_singleton.2 h2))
        · exact .inl (.inl (.inr (.inl ⟨i, by omega, h2⟩)))
      · by_cases e : i = k
        · subst e
          refine .inr ?_
          rw [if_pos h2]
          exact List.mem_singleton.2 h3
        · exact .inl (.inl (.inr (.inr ⟨i, by omega, h2, h3⟩)))
/-- What a valid series is like, in numbers. -/
structure SerN (s : Ser) : Prop where
  len : 1 ≤ s.rd.length ∧ s.rd.length ≤ 40
  wd : 2 ≤ s.width.toNat ∧ s.width.toNat ≤ 8 ∧ s.width = (s.width.toNat : Int)
  st : 1 ≤ s.step.toNat ∧ s.step.toNat ≤ 9 ∧ s.step = (s.step.toNat : Int)
  rd : ∀ i, i < s.rd.length → rdN s i ≤ 99 ∧ s.rd[i]? = some (rdN s i : Int)
  sm : ∀ b, smN s b ≤ 99 ∧ sumB s b = (smN s b : Int)
  near : ∀ i, i + 1 < s.rd.length → rdN s (i + 1) ≤ rdN s i + s.step.toNat ∧ rdN s i ≤ rdN s (i + 1) + s.step.toNat
theorem div_le40 {s : Ser} (n : SerN s) {i : Nat} (hi : i < s.rd.length) : i / s.width.toNat ≤ 40 := by
  have := Nat.div_le_self i s.width.toNat
  have := n.len
  omega
theorem hdR_ok {s : Ser} (n : SerN s) : isGood (hdR s) = true ∧ nameOf (hdR s) = (72, 0) ∧ headOf (hdR s) = hdH s ∧ (10 : UInt8) ∉ hdR s := by
  have h1 := n.len
  have h2 := n.wd
  have h3 := n.st
  have hb : 10 * s.width.toNat + s.step.toNat ≤ 99 := by omega
  refine ⟨made_good (.inl rfl) (by omega) hb (fun _ => headOk_iff.2 ⟨by omega, by omega, by omega⟩), ?_, made_head (by omega) (by omega) (by omega), made_no10 (by decide) (by omega) hb⟩
  unfold hdR
  rw [made_name (by omega), if_pos rfl]
theorem recR_ok {s : Ser} (n : SerN s) {i : Nat} (hi : i < s.rd.length) : isGood (made 82 i (rdN s i)) = true ∧ nameOf (made 82 i (rdN s i)) = (82, i) ∧ valOf (made 82 i (rdN s i)) = rdN s i ∧ (10 : UInt8) ∉ made 82 i (rdN s i) := by
  have h1 := n.len
  have h2 := (n.rd i hi).1
  refine ⟨made_good (.inr (.inl rfl)) (by omega) h2 (fun h => by cases h), ?_, made_val h2, made_no10 (by decide) (by omega) h2⟩
  rw [made_name (by omega), if_neg (by decide)]
theorem recP_ok {s : Ser} (n : SerN s) {b : Nat} (hb : b ≤ 40) : isGood (made 80 b (smN s b)) = true ∧ nameOf (made 80 b (smN s b)) = (80, b) ∧ valOf (made 80 b (smN s b)) = smN s b ∧ (10 : UInt8) ∉ made 80 b (smN s b) := by
  have h2 := (n.sm b).1
  refine ⟨made_good (.inr (.inr rfl)) (by omega) h2 (fun h => by cases h), ?_, made_val h2, made_no10 (by decide) (by omega) h2⟩
  rw [made_name (by omega), if_neg (by decide)]
theorem file_func {s : Ser} (n : SerN s) : Func (fileL s) := by
  intro a b ha hb he
  rcases mem_recsTo.1 ha with rfl | ⟨i, h1, rfl⟩ | ⟨i, h1, _, rfl⟩ <;> rcases mem_recsTo.1 hb with rfl | ⟨j, h2, rfl⟩ | ⟨j, h2, _, rfl⟩
  · rfl
  · rw [(hdR_ok n).2.1, (recR_ok n h2).2.1] at he
    cases he
  · rw [(hdR_ok n).2.1, (recP_ok n (div_le40 n h2)).2.1] at he
    cases he
  · rw [(hdR_ok n).2.1, (recR_ok n h1).2.1] at he
    cases he
  · rw [(recR_ok n h1).2.1, (recR_ok n h2).2.1] at he
    simp at he
    rw [he]
  · rw [(recR_ok n h1).2.1, (recP_ok n (div_le40 n h2)).2.1] at he
    cases he
  · rw [(hdR_ok n).2.1, (recP_ok n (div_le40 n h1)).2.1] at he
    cases he
  · rw [(recP_ok n (div_le40 n h1)).2.1, (recR_ok n h2).2.1] at he
    cases he
  · rw [(recP_ok n (div_le40 n h1)).2.1, (recP_ok n (div_le40 n h2)).2.1] at he
    simp at he
    rw [he]
/-- What is read of some records of a file. -/
structure RdM (s : Ser) (m : List (List UInt8)) : Prop where
  sub : ∀ r, r ∈ m → r ∈ fileL s
  hd : hdR s ∈ m
theorem RdM.func {s : Ser} {m : List (List UInt8)} (h : RdM s m) (n : SerN s) : Func m := (file_func n).of_sub h.sub
theorem RdM.find {s : Ser} {m : List (List UInt8)} (h : RdM s m) (n : SerN s) : find m (72, 0) = some (hdR s) := (find_iff (h.func n)).2 ⟨h.hd, (hdR_ok n).2.1⟩
end Go.Proofs.YtmdlmmfbcnkanaaR
namespace Go.Proofs.YtmdlmmfbcnkanaaR

end Go.Proofs.YtmdlmmfbcnkanaaR
namespace Go.Proofs.YtmdlmmfbcnkanaaR

theorem recsTo_zero (s : Ser) : ∀ k, (recsTo s k)[0]? = some (hdR s)
  | 0 => rfl
  | k + 1 => by
    have h := recsTo_zero s k
    have hp : 0 < (recsTo s k).length := by
      rcases Nat.eq_zero_or_pos (recsTo s k).length with h0 | h0
      · rw [List.eq_nil_of_length_eq_zero h0] at h
        cases h
      · exact h0
    unfold recsTo
    rw [List.getElem?_append_left (by simp), List.getElem?_append_left hp]
    exact h
/-- What is left of a file. -/
structure TornF (s : Ser) (T : List (List UInt8)) : Prop where
  sub : ∀ r, r ∈ T → r ∈ fileL s
  hd : hdR s ∈ T
  len : T.length ≤ 162
  bytes : (linesL T).length = 8 * T.length
end Go.Proofs.YtmdlmmfbcnkanaaR
namespace Go.Proofs.YtmdlmmfbcnkanaaR

/-- Two lots of records that say the same but for a reading. -/
structure SameBut (h : Head) (m m' : List (List UInt8)) (k n : Nat) : Prop where
  other : ∀ j s x, j ≠ k → after h m' j s x = after h m j s x
  at_ : ∀ s, after h m' k s n = after h m k s n
end Go.Proofs.YtmdlmmfbcnkanaaR
namespace Go.Proofs.YtmdlmmfbcnkanaaR

section
variable {s : Ser} (n : SerN s)
def nbS (s : Ser) (b : Nat) : Nat := min s.width.toNat (s.rd.length - b * s.width.toNat)
def recB (s : Ser) (b j : Nat) : List UInt8 := if j < nbS s b then made 82 (b * s.width.toNat + j) (rdN s (b * s.width.toNat + j)) else made 80 b (smN s b)
def blS (s : Ser) : Nat := (s.rd.length + s.width.toNat - 1) / s.width.toNat
def iB (s : Ser) (b : Nat) : Nat := if b * s.width.toNat < s.rd.length then 1 + b * (s.width.toNat + 1) else 1 + s.rd.length + blS s
include n
theorem bl_iff (b : Nat) : b < blS s ↔ b * s.width.toNat < s.rd.length := by
  have hw := n.wd
  unfold blS
  have h := Nat.le_div_iff_mul_le (x := b + 1) (y := s.rd.length + s.width.toNat - 1) (show 0 < s.width.toNat by omega)
  rw [Nat.add_mul] at h
  omega
theorem iB_next {b : Nat} (hb : b * s.width.toNat < s.rd.length) : iB s b + (nbS s b + 1) = iB s (b + 1) := by
  have hw := n.wd
  have e1 : b * (s.width.toNat + 1) = b * s.width.toNat + b := by rw [Nat.mul_add, Nat.mul_one]
  have e2 : (b + 1) * (s.width.toNat + 1) = b * s.width.toNat + b + s.width.toNat + 1 := by rw [Nat.add_mul, e1]; omega
  have e3 : (b + 1) * s.width.toNat = b * s.width.toNat + s.width.toNat := by rw [Nat.add_mul, Nat.one_mul]
  have hnb : nbS s b = min s.width.toNat (s.rd.length - b * s.width.toNat) := rfl
  unfold iB
  rw [if_pos hb, e1, e2, e3]
  split
  · omega
  · have h1 := bl_iff n b
    have h2 := bl_iff n (b + 1)
    rw [e3] at h2
    omega
end
/-- Some blocks of a file, of each of which one record at most is lost. -/
structure OneO (s : Ser) (b : Nat) (O : List (List UInt8)) : Prop where
  sub : ∀ r, r ∈ O → r ∈ fileL s
  hd : hdR s ∈ O
  len : O.length ≤ iB s b
  one : ∀ b', b' < b → ∃ k, ∀ j, j ≤ nbS s b' → j ≠ k → recB s b' j ∈ O
theorem OneO.start {s : Ser} (n : SerN s) : OneO s 0 [hdR s] :=
  ⟨fun r hr => by
    simp at hr
    rw [hr]
    exact List.mem_of_getElem? (recsTo_zero s s.rd.length), by simp, by have := n.len; unfold iB; rw [if_pos (by omega)]; simp, fun b' h => absurd h (by omega)⟩
theorem OneO.torn {s : Ser} (n : SerN s) {b : Nat} {O : List (List UInt8)} (o : OneO s b O) (hb : iB s b ≤ 162) : TornF s O :=
  ⟨o.sub, o.hd, by have := o.len; omega, linesL_len (fun r hr => recsTo_seven s _ r (o.sub r hr))⟩
/-- Part of a block besides. -/
structure OneJ (s : Ser) (b k j : Nat) (O O' : List (List UInt8)) : Prop where
  sub : ∀ r, r ∈ O' → r ∈ fileL s
  old : ∀ r, r ∈ O → r ∈ O'
  len : O'.length ≤ O.length + j
  got : ∀ i, i < j → i ≠ k → recB s b i ∈ O'
theorem OneJ.done {s : Ser} {b k : Nat} {O O' : List (List UInt8)} (n : SerN s) (hb : b * s.width.toNat < s.rd.length) (o : OneO s b O) (h : OneJ s b k (nbS s b + 1) O O') : OneO s (b + 1) O' :=
  ⟨h.sub, h.old _ o.hd, by have := o.len; have := h.len; have := iB_next n hb; omega, fun b' hb' => by
    by_cases e : b' = b
    · subst e
      exact ⟨k, fun j hj hne => h.got j (by omega) hne⟩
    · obtain ⟨k', hk'⟩ := o.one b' (by omega)
      exact ⟨k', fun j hj hne => h.old _ (hk' j hj hne)⟩⟩
theorem OneJ.skip {s : Ser} {b k j : Nat} {O O' : List (List UInt8)} (h : OneJ s b k j O O') (hj : j = k) : OneJ s b k (j + 1) O O' :=
  ⟨h.sub, h.old, by have := h.len; omega, fun i hi hne => h.got i (by omega) hne⟩
end Go.Proofs.YtmdlmmfbcnkanaaR
namespace Go.Proofs.YtmdlmmfbcnkanaaR

section
variable {s : Ser} (n : SerN s)
include n
end

theorem good_len {r : List UInt8} (h : isGood r = true) : r.length = 7 := by
  unfold isGood at h
  split at h
  · rfl
  · cases h
theorem dig_of {b : UInt8} (h : isDig b = true) : dig b = b.toNat - 48 ∧ 48 ≤ b.toNat ∧ b.toNat ≤ 57 := by
  have h1 := of_decide_eq_true h
  refine ⟨?_, h1.1, h1.2⟩
  unfold dig
  rw [UInt8.toNat_sub_of_le _ _ (by rw [UInt8.le_iff_toNat_le]; exact h1.1)]
  rfl
end Go.Proofs.YtmdlmmfbcnkanaaR
namespace Go.Proofs.YtmdlmmfbcnkanaaR
open Go.RowKit Go.Shelf
/-- Does a series say what a record says? -/
def okRec (s : Ser) (r : List UInt8) : Bool := !(((nameOf r).1 == 82 && decide (s.rd[(nameOf r).2]? ≠ some (valOf r : Int))) || ((nameOf r).1 == 80 && decide (sumB s (nameOf r).2 ≠ (valOf r : Int))))
def headEqB (s : Ser) (h : Head) : Bool := decide ((s.rd.length : Int) = h.many) && (decide (s.width = h.width) && decide (s.step = h.step))
def fitsC (l : List UInt8) (s : Ser) : Bool := match readM l with
  | none => false
  | some (h, m) => decide (faultS s = 0) && (headEqB s h && m.all (okRec s))
theorem IntsAt.cell3 {w : World} {B b off k : Nat} {l : List Int} {x : Int} (h : IntsAt w B (some ⟨b, off, none⟩) l) (hx : l[k]? = some x) : w.cell? ⟨b, off + k, none⟩ = some (.int .i64 x) := by
  obtain ⟨b', o', e, _, hc⟩ := h k x hx
  cases e
  exact hc
noncomputable def opsFits0 : Array Oper := (Try.f31.body.bind (regionOf 0)).getD #[]
noncomputable def opsFits1 : Array Oper := (Try.f31.body.bind (regionOf 1)).getD #[]
noncomputable def opsFits2 : Array Oper := (Try.f31.body.bind (regionOf 2)).getD #[]
noncomputable def opsFits3 : Array Oper := (Try.f31.body.bind (regionOf 3)).getD #[]
noncomputable def opsFits4 : Array Oper := (Try.f31.body.bind (regionOf 4)).getD #[]
noncomputable def opsFits5 : Array Oper := (Try.f31.body.bind (regionOf 5)).getD #[]
noncomputable def opsFits6 : Array Oper := (Try.f31.body.bind (regionOf 6)).getD #[]
noncomputable def opsFits7 : Array Oper := (Try.f31.body.bind (regionOf 7)).getD #[]
noncomputable def opsFits8 : Array Oper := (Try.f31.body.bind (regionOf 8)).getD #[]
noncomputable def opsFits9 : Array Oper := (Try.f31.body.bind (regionOf 9)).getD #[]
noncomputable def fit_l : Code := (.seq (.region 5 opsFits5 false) (.seq (.cond (.tmp 37) .skip (.exit 0)) (.block 1 (.seq (.region 6 opsFits6 false) (.seq (.region 7 opsFits7 true) (.cond (.tmp 68) (.seq (.region 8 opsFits8 false) .ret) .skip))))))
noncomputable def fit_b : Code := (.seq (.seq (.region 4 opsFits4 false) (.block 0 (.loop fit_l))) (.seq (.region 9 opsFits9 false) .ret))
noncomputable def code31 : Code := (.seq (.region 0 opsFits0 false) (.seq (.region 1 opsFits1 false) (.seq (.seq (.region 2 opsFits2 true) (.cond (.tmp 30) (.seq (.region 3 opsFits3 false) .ret) .skip)) fit_b)))
theorem body31 : Try.f31.body = some code31 := by kernel_rfl
section
variable {s : Ser} {A : Option Addr} {c : Nat} {h : Head}
attribute [local irreducible] AnyK StepK
set_option maxHeartbeats 400000 in
theorem ft_7 {b3 b7 b8 r0 : Nat} {c0 c1 c2 c3 c4 c5 c6 : UInt8} {nm : UInt8 × Nat} {vl : Nat} {a : Act} {W : World} {Q : Exit → Act → World → Prop} (hf : faultS s = 0) (hnm : nameOf [c0, c1, c2, c3, c4, c5, c6] = nm) (hvl : num2 c3 c4 = vl) (h82 : nm.1 = 82 → nm.2 < s.rd.length) (h80 : nm.1 = 80 → nm.2 ≤ 100)
    (hsz : a.tmps.size = 69) (t3 : a.eval (.tmp 3) = ptr b3) (t7 : a.eval (.tmp 7) = ptr b7) (t8 : a.eval (.tmp 8) = ptr b8) (t35 : a.eval (.tmp 35) = ptr r0) (w3 : Whole W b3 29 #[.int .i64 s.width, .int .i64 s.step, .slice A s.rd.length c]) (hs : IntsAt W W.heap.size A s.rd) (w7 : Whole W b7 97 #[u8V nm.1, .int .i64 (nm.2 : Int)]) (w8 : Whole W b8 83 (r7 c0 c1 c2 c3 c4 c5 c6))
    (hQ : ∀ a' W', a'.tmps.size = 69 → a'.defers = a.defers → a'.eval (.tmp 3) = ptr b3 → a'.eval (.tmp 35) = ptr r0 → a'.eval (.tmp 68) = .bool (!okRec s [c0, c1, c2, c3, c4, c5, c6]) → Below W.heap.size W W' → Q .normal a' W') :
    (Code.region 7 opsFits7 true).wpIn Fence.wide 5 Try.prog Q a W := by
  obtain ⟨hlen, hwd, hsp, hin, _⟩ := ser_valid hf
  have hok : okRec s [c0, c1, c2, c3, c4, c5, c6] = !((nm.1 == 82 && decide (s.rd[nm.2]? ≠ some (vl : Int))) || (nm.1 == 80 && decide (sumB s nm.2 ≠ (vl : Int)))) := by
    unfold okRec
    rw [hnm]
    show _ = _
    have : valOf [c0, c1, c2, c3, c4, c5, c6] = vl := hvl
    rw [this]
  rw [hok, Bool.not_not] at hQ
  have hbd := (Below.refl W.heap.size W).drew
  have hgr : ∀ w w', (fun w : World => (Whole w b3 29 #[.int .i64 s.width, .int .i64 s.step, .slice A s.rd.length c] ∧ IntsAt w W.heap.size A s.rd) ∧ Whole w b7 97 #[u8V nm.1, .int .i64 (nm.2 : Int)] ∧ Whole w b8 83 (r7 c0 c1 c2 c3 c4 c5 c6) ∧ Below W.heap.size W w) w → Below w.heap.size w w' → (fun w : World => (Whole w b3 29 #[.int .i64 s.width, .int .i64 s.step, .slice A s.rd.length c] ∧ IntsAt w W.heap.size A s.rd) ∧ Whole w b7 97 #[u8V nm.1, .int .i64 (nm.2 : Int)] ∧ Whole w b8 83 (r7 c0 c1 c2 c3 c4 c5 c6) ∧ Below W.heap.size W w) w' := fun w w' h hb => ⟨⟨h.1.1.below hb h.1.1.lt, h.1.2.below (hb.mono h.2.2.2.size) (Nat.le_refl _)⟩, h.2.1.below hb h.2.1.lt, h.2.2.1.below hb h.2.2.1.lt, h.2.2.2.trans (hb.mono h.2.2.2.size)⟩
  have hR0 : (fun w : World => (Whole w b3 29 #[.int .i64 s.width, .int .i64 s.step, .slice A s.rd.length c] ∧ IntsAt w W.heap.size A s.rd) ∧ Whole w b7 97 #[u8V nm.1, .int .i64 (nm.2 : Int)] ∧ Whole w b8 83 (r7 c0 c1 c2 c3 c4 c5 c6) ∧ Below W.heap.size W w) W.drew := hgr W _ ⟨⟨w3, hs⟩, w7, w8, Below.refl _ _⟩ hbd
  by_cases e82 : nm.1 = 82
  · have en : ((nm.1.toNat : Int)) = 82 := by rw [e82]; rfl
    have en2 : ((nm.1.toNat : Int)) ≠ 80 := by rw [e82]; decide
    have hk := h82 e82
    have hx := List.getElem?_eq_getElem hk
    obtain ⟨gb, off, hA, _, _⟩ := hs nm.2 _ hx
    have hcA : ∀ w, IntsAt w W.heap.size A s.rd → w.cell? ⟨gb, off + nm.2, none⟩ = some (.int .i64 s.rd[nm.2]) := fun w h => by rw [hA] at h; exact h.cell3 hx
    by_cases hv : s.rd[nm.2] = (vl : Int)
    · have hd : decide (s.rd[nm.2]? ≠ some (vl : Int)) = false := by rw [hx, hv]; simp
      refine region_K (KpR (fun w : World => (Whole w b3 29 #[.int .i64 s.width, .int .i64 s.step, .slice A s.rd.length c] ∧ IntsAt w W.heap.size A s.rd) ∧ Whole w b7 97 #[u8V nm.1, .int .i64 (nm.2 : Int)] ∧ Whole w b8 83 (r7 c0 c1 c2 c3 c4 c5 c6) ∧ Below W.heap.size W w) (fun _ => false)) (wideF_plain _) (by kernel_rfl) Try.mixed ?_
      change AnyK _ _ _ _ 28 (Array.replicate 28 false) _ _
      have hR : (fun w : World => (Whole w b3 29 #[.int .i64 s.width, .int .i64 s.step, .slice A s.rd.length c] ∧ IntsAt w W.heap.size A s.rd) ∧ Whole w b7 97 #[u8V nm.1, .int .i64 (nm.2 : Int)] ∧ Whole w b8 83 (r7 c0 c1 c2 c3 c4 c5 c6) ∧ Below W.heap.size W w) W.drew := hR0
      refine AnyK.field (i := 0) may_o (u := .pointer (some ⟨b7, 0, none⟩)) (v := .pointer (some ⟨b7, 0, none⟩)) (by simp [t7]) (fun w => fa97_0 w) hR ?_
      refine AnyK.load (i := 1) may_o (p := ⟨b7, 0, none⟩) (v := u8V nm.1) (by simp [hsz]) (fun w hw => ld5 (hw.2.1.cell 0)) hR ?_
      refine AnyK.bin (i := 2) may_o (u := u8V nm.1) (u' := .int .u8 82) (v := .bool true) (by simp [hsz]) (by simp) (fun w => eql5T en w) hR ?_
      refine AnyK.move (i := 3) may_o (v := .bool true) (by simp [hsz]) hR ?_
      refine AnyK.field (i := 4) may_o (u := .pointer (some ⟨b3, 0, none⟩)) (v := .pointer (some ⟨b3, 2, none⟩)) (by simp [t3]) (fun w => fa29_2 w) hR (hw := (by exact wanted_g (e := 44) (b' := true) rfl (by simp [hsz]) rfl)) ?_
      refine AnyK.load (i := 5) may_o (p := ⟨b3, 2, none⟩) (v := .slice (some ⟨gb, off, none⟩) s.rd.length c) (by simp [hsz]) (fun w hw => ld22 ((hw.1.1.cell 2).trans (by rw [hA]; rfl))) hR (hw := (by exact wanted_g (e := 44) (b' := true) rfl (by simp [hsz]) rfl)) ?_
      refine AnyK.field (i := 6) may_o (u := .pointer (some ⟨b7, 0, none⟩)) (v := .pointer (some ⟨b7, 1, none⟩)) (by simp [t7]) (fun w => fa97_1 w) hR (hw := (by exact wanted_g (e := 44) (b' := true) rfl (by simp [hsz]) rfl)) ?_
      refine AnyK.load (i := 7) may_o (p := ⟨b7, 1, none⟩) (v := .int .i64 (nm.2 : Int)) (by simp [hsz]) (fun w hw => ld3 (hw.2.1.cell 1)) hR (hw := (by exact wanted_g (e := 44) (b' := true) rfl (by simp [hsz]) rfl)) ?_
      refine AnyK.index (i := 8) may_o (u := .slice (some ⟨gb, off, none⟩) s.rd.length c) (u' := .int .i64 (nm.2 : Int)) (v := .pointer (some ⟨gb, off + nm.2, none⟩)) (by simp [hsz]) (by simp [hsz]) (fun w => ix22 hk w) hR (hw := (by exact wanted_g (e := 44) (b' := true) rfl (by simp [hsz]) rfl)) ?_
      refine AnyK.load (i := 9) may_o (p := ⟨gb, off + nm.2, none⟩) (v := .int .i64 (s.rd[nm.2])) (by simp [hsz]) (fun w hw => ld3 (hcA _ hw.1.2)) hR (hw := (by exact wanted_g (e := 44) (b' := true) rfl (by simp [hsz]) rfl)) ?_
      refine AnyK.load (i := 10) may_o (p := ⟨b8, 0, none⟩) (v := rV c0 c1 c2 c3 c4 c5 c6) (by simp [t8]) (fun w hw => ld83 hw.2.2.1) hR (hw := (by exact wanted_g (e := 44) (b' := true) rfl (by simp [hsz]) rfl)) ?_
      refine AnyK.pick1 (i := 11) (by kernel_rfl) ?_
      refine StepK.call (i := 11) (f := 59) (vs := #[rV c0 c1 c2 c3 c4 c5 c6, .int .i64 (3)]) rfl (enters_of Try.func59 (by kernel_rfl) rfl) rfl (by simp [hsz]) (((show Calls Try.prog 59 #[rV c0 c1 c2 c3 c4 c5 c6, .int .i64 3] _ (fun e w' => e = .returned (.int .i64 (vl : Int)) ∧ _) from by rw [← hvl]; exact number3 c0 c1 c2 c3 c4 c5 c6 _)).mono ?_) (hw := (by exact wanted_g (e := 44) (b' := true) rfl (by simp [hsz]) rfl))
      rintro _ V11 ⟨rfl, hv11⟩
      replace hR : (fun w : World => (Whole w b3 29 #[.int .i64 s.width, .int .i64 s.step, .slice A s.rd.length c] ∧ IntsAt w W.heap.size A s.rd) ∧ Whole w b7 97 #[u8V nm.1, .int .i64 (nm.2 : Int)] ∧ Whole w b8 83 (r7 c0 c1 c2 c3 c4 c5 c6) ∧ Below W.heap.size W w) V11 := hgr _ _ hR hv11
      refine ⟨_, rfl, fun _ _ => hR, ?_⟩
      refine AnyK.bin (i := 12) may_o (u := .int .i64 (s.rd[nm.2])) (u' := .int .i64 (vl : Int)) (v := .bool false) (by simp [hsz]) (by simp [hsz]) (fun w => neqF hv w) hR (hw := (by exact wanted_g (e := 44) (b' := true) rfl (by simp [hsz]) rfl)) ?_
      refine AnyK.pick (i := 13) may_o (b := true) (v := .bool false) (by simp [hsz]) (by simp [hsz]) hR ?_
      refine AnyK.move (i := 14) may_o (v := .bool false) (by simp [hsz]) hR ?_
      refine AnyK.field (i := 15) may_o (u := .pointer (some ⟨b7, 0, none⟩)) (v := .pointer (some ⟨b7, 0, none⟩)) (by simp [t7]) (fun w => fa97_0 w) hR (hw := (by exact wanted_g (e := 55) (b' := false) rfl (by simp [hsz]) rfl)) ?_
      refine AnyK.load (i := 16) may_o (p := ⟨b7, 0, none⟩) (v := u8V nm.1) (by simp [hsz]) (fun w hw => ld5 (hw.2.1.cell 0)) hR (hw := (by exact wanted_g (e := 55) (b' := false) rfl (by simp [hsz]) rfl)) ?_
      refine AnyK.bin (i := 17) may_o (u := u8V nm.1) (u' := .int .u8 80) (v := .bool false) (by simp [hsz]) (by simp) (fun w => eql5F en2 w) hR (hw := (by exact wanted_g (e := 55) (b' := false) rfl (by simp [hsz]) rfl)) ?_
      refine AnyK.move (i := 18) may_o (v := .bool false) (by simp [hsz]) hR (hw := (by exact wanted_g (e := 55) (b' := false) rfl (by simp [hsz]) rfl)) ?_
      refine AnyK.passG (i := 19) may_o (e := 59) (b' := false) rfl (by simp [hsz]) rfl hR ?_
      refine AnyK.passG (i := 20) may_o (e := 59) (b' := false) rfl (by simp [hsz]) rfl hR ?_
      refine AnyK.passG (i := 21) may_o (e := 59) (b' := false) rfl (by simp [hsz]) rfl hR ?_
      refine AnyK.passG (i := 22) may_o (e := 59) (b' := false) rfl (by simp [hsz]) rfl hR ?_
      refine AnyK.passG (i := 23) may_o (e := 59) (b' := false) rfl (by simp [hsz]) rfl hR ?_
      refine AnyK.passG (i := 24) may_o (e := 59) (b' := false) rfl (by simp [hsz]) rfl hR ?_
      refine AnyK.passG (i := 25) may_o (e := 59) (b' := false) rfl (by simp [hsz]) rfl hR ?_
      refine AnyK.pick (i := 26) may_o (b := false) (v := .bool false) (by simp [hsz]) (by simp) hR (hw := (by exact wanted_g (e := 55) (b' := false) rfl (by simp [hsz]) rfl)) ?_
      refine AnyK.pick (i := 27) may_o (b := false) (v := .bool false) (by simp [hsz]) (by simp [hsz]) hR ?_
      refine AnyK.done (by kernel_rfl) ?_
      exact hQ _ _ (by simp only [size_put, hsz]) (by simp only [defers_put]) (by simp [t3]) (by simp [t35]) (by rw [e82, hd]; exact (by simp [hsz])) hR.2.2.2
    · have hd : decide (s.rd[nm.2]? ≠ some (vl : Int)) = true := by rw [hx]; simp [hv]
      refine region_K (KpR (fun w : World => (Whole w b3 29 #[.int .i64 s.width, .int .i64 s.step, .slice A s.rd.length c] ∧ IntsAt w W.heap.size A s.rd) ∧ Whole w b7 97 #[u8V nm.1, .int .i64 (nm.2 : Int)] ∧ Whole w b8 83 (r7 c0 c1 c2 c3 c4 c5 c6) ∧ Below W.heap.size W w) (fun _ => false)) (wideF_plain _) (by kernel_rfl) Try.mixed ?_
      change AnyK _ _ _ _ 28 (Array.replicate 28 false) _ _
      have hR : (fun w : World => (Whole w b3 29 #[.int .i64 s.width, .int .i64 s.step, .slice A s.rd.length c] ∧ IntsAt w W.heap.size A s.rd) ∧ Whole w b7 97 #[u8V nm.1, .int .i64 (nm.2 : Int)] ∧ Whole w b8 83 (r7 c0 c1 c2 c3 c4 c5 c6) ∧ Below W.heap.size W w) W.drew := hR0
      refine AnyK.field (i := 0) may_o (u := .pointer (some ⟨b7, 0, none⟩)) (v := .pointer (some ⟨b7, 0, none⟩)) (by simp [t7]) (fun w => fa97_0 w) hR ?_
      refine AnyK.load (i := 1) may_o (p := ⟨b7, 0, none⟩) (v := u8V nm.1) (by simp [hsz]) (fun w hw => ld5 (hw.2.1.cell 0)) hR ?_
      refine AnyK.bin (i := 2) may_o (u := u8V nm.1) (u' := .int .u8 82) (v := .bool true) (by simp [hsz]) (by simp) (fun w => eql5T en w) hR ?_
      refine AnyK.move (i := 3) may_o (v := .bool true) (by simp [hsz]) hR ?_
      refine AnyK.field (i := 4) may_o (u := .pointer (some ⟨b3, 0, none⟩)) (v := .pointer (some ⟨b3, 2, none⟩)) (by simp [t3]) (fun w => fa29_2 w) hR (hw := (by exact wanted_g (e := 44) (b' := true) rfl (by simp [hsz]) rfl)) ?_
      refine AnyK.load (i := 5) may_o (p := ⟨b3, 2, none⟩) (v := .slice (some ⟨gb, off, none⟩) s.rd.length c) (by simp [hsz]) (fun w hw => ld22 ((hw.1.1.cell 2).trans (by rw [hA]; rfl))) hR (hw := (by exact wanted_g (e := 44) (b' := true) rfl (by simp [hsz]) rfl)) ?_
      refine AnyK.field (i := 6) may_o (u := .pointer (some ⟨b7, 0, none⟩)) (v := .pointer (some ⟨b7, 1, none⟩)) (by simp [t7]) (fun w => fa97_1 w) hR (hw := (by exact wanted_g (e := 44) (b' := true) rfl (by simp [hsz]) rfl)) ?_
      refine AnyK.load (i := 7) may_o (p := ⟨b7, 1, none⟩) (v := .int .i64 (nm.2 : Int)) (by simp [hsz]) (fun w hw => ld3 (hw.2.1.cell 1)) hR (hw := (by exact wanted_g (e := 44) (b' := true) rfl (by simp [hsz]) rfl)) ?_
      refine AnyK.index (i := 8) may_o (u := .slice (some ⟨gb, off, none⟩) s.rd.length c) (u' := .int .i64 (nm.2 : Int)) (v := .pointer (some ⟨gb, off + nm.2, none⟩)) (by simp [hsz]) (by simp [hsz]) (fun w => ix22 hk w) hR (hw := (by exact wanted_g (e := 44) (b' := true) rfl (by simp [hsz]) rfl)) ?_
      refine AnyK.load (i := 9) may_o (p := ⟨gb, off + nm.2, none⟩) (v := .int .i64 (s.rd[nm.2])) (by simp [hsz]) (fun w hw => ld3 (hcA _ hw.1.2)) hR (hw := (by exact wanted_g (e := 44) (b' := true) rfl (by simp [hsz]) rfl)) ?_
      refine AnyK.load (i := 10) may_o (p := ⟨b8, 0, none⟩) (v := rV c0 c1 c2 c3 c4 c5 c6) (by simp [t8]) (fun w hw => ld83 hw.2.2.1) hR (hw := (by exact wanted_g (e := 44) (b' := true) rfl (by simp [hsz]) rfl)) ?_
      refine AnyK.pick1 (i := 11) (by kernel_rfl) ?_
      refine StepK.call (i := 11) (f := 59) (vs := #[rV c0 c1 c2 c3 c4 c5 c6, .int .i64 (3)]) rfl (enters_of Try.func59 (by kernel_rfl) rfl) rfl (by simp [hsz]) (((show Calls Try.prog 59 #[rV c0 c1 c2 c3 c4 c5 c6, .int .i64 3] _ (fun e w' => e = .returned (.int .i64 (vl : Int)) ∧ _) from by rw [← hvl]; exact number3 c0 c1 c2 c3 c4 c5 c6 _)).mono ?_) (hw := (by exact wanted_g (e := 44) (b' := true) rfl (by simp [hsz]) rfl))
      rintro _ V11 ⟨rfl, hv11⟩
      replace hR : (fun w : World => (Whole w b3 29 #[.int .i64 s.width, .int .i64 s.step, .slice A s.rd.length c] ∧ IntsAt w W.heap.size A s.rd) ∧ Whole w b7 97 #[u8V nm.1, .int .i64 (nm.2 : Int)] ∧ Whole w b8 83 (r7 c0 c1 c2 c3 c4 c5 c6) ∧ Below W.heap.size W w) V11 := hgr _ _ hR hv11
      refine ⟨_, rfl, fun _ _ => hR, ?_⟩
      refine AnyK.bin (i := 12) may_o (u := .int .i64 (s.rd[nm.2])) (u' := .int .i64 (vl : Int)) (v := .bool true) (by simp [hsz]) (by simp [hsz]) (fun w => neqT hv w) hR (hw := (by exact wanted_g (e := 44) (b' := true) rfl (by simp [hsz]) rfl)) ?_
      refine AnyK.pick (i := 13) may_o (b := true) (v := .bool true) (by simp [hsz]) (by simp [hsz]) hR ?_
      refine AnyK.move (i := 14) may_o (v := .bool true) (by simp [hsz]) hR ?_
      refine AnyK.passG (i := 15) may_o (e := 55) (b' := true) rfl (by simp [hsz]) rfl hR ?_
      refine AnyK.passG (i := 16) may_o (e := 55) (b' := true) rfl (by simp [hsz]) rfl hR ?_
      refine AnyK.passG (i := 17) may_o (e := 55) (b' := true) rfl (by simp [hsz]) rfl hR ?_
      refine AnyK.passG (i := 18) may_o (e := 55) (b' := true) rfl (by simp [hsz]) rfl hR ?_
      refine AnyK.passU (i := 19) may_o (e := 59) rfl (by simp [hsz]) hR ?_
      refine AnyK.passU (i := 20) may_o (e := 59) rfl (by simp [hsz]) hR ?_
      refine AnyK.passU (i := 21) may_o (e := 59) rfl (by simp [hsz]) hR ?_
      refine AnyK.passU (i := 22) may_o (e := 59) rfl (by simp [hsz]) hR ?_
      refine AnyK.passU (i := 23) may_o (e := 59) rfl (by simp [hsz]) hR ?_
      refine AnyK.passU (i := 24) may_o (e := 59) rfl (by simp [hsz]) hR ?_
      refine AnyK.passU (i := 25) may_o (e := 59) rfl (by simp [hsz]) hR ?_
      refine AnyK.passG (i := 26) may_o (e := 55) (b' := true) rfl (by simp [hsz]) rfl hR ?_
      refine AnyK.pick (i := 27) may_o (b := true) (v := .bool true) (by simp [hsz]) (by simp) hR ?_
      refine AnyK.done (by kernel_rfl) ?_
      exact hQ _ _ (by simp only [size_put, hsz]) (by simp only [defers_put]) (by simp [t3]) (by simp [t35]) (by rw [e82, hd]; exact (by simp [hsz])) hR.2.2.2
  · have en : ((nm.1.toNat : Int)) ≠ 82 := fun e => e82 (UInt8.toNat_inj.1 (show nm.1.toNat = 82 by omega))
    have b82 : (nm.1 == 82) = false := by simpa using e82
    by_cases e80 : nm.1 = 80
    · have en2 : ((nm.1.toNat : Int)) = 80 := by rw [e80]; rfl
      have hk := h80 e80
      by_cases hv : sumB s nm.2 = (vl : Int)
      · have hd : decide (sumB s nm.2 ≠ (vl : Int)) = false := by simp [hv]
        refine region_K (KpR (fun w : World => (Whole w b3 29 #[.int .i64 s.width, .int .i64 s.step, .slice A s.rd.length c] ∧ IntsAt w W.heap.size A s.rd) ∧ Whole w b7 97 #[u8V nm.1, .int .i64 (nm.2 : Int)] ∧ Whole w b8 83 (r7 c0 c1 c2 c3 c4 c5 c6) ∧ Below W.heap.size W w) (fun _ => false)) (wideF_plain _) (by kernel_rfl) Try.mixed ?_
        change AnyK _ _ _ _ 28 (Array.replicate 28 false) _ _
        have hR : (fun w : World => (Whole w b3 29 #[.int .i64 s.width, .int .i64 s.step, .slice A s.rd.length c] ∧ IntsAt w W.heap.size A s.rd) ∧ Whole w b7 97 #[u8V nm.1, .int .i64 (nm.2 : Int)] ∧ Whole w b8 83 (r7 c0 c1 c2 c3 c4 c5 c6) ∧ Below W.heap.size W w) W.drew := hR0
        refine AnyK.field (i := 0) may_o (u := .pointer (some ⟨b7, 0, none⟩)) (v := .pointer (some ⟨b7, 0, none⟩)) (by simp [t7]) (fun w => fa97_0 w) hR ?_
        refine AnyK.load (i := 1) may_o (p := ⟨b7, 0, none⟩) (v := u8V nm.1) (by simp [hsz]) (fun w hw => ld5 (hw.2.1.cell 0)) hR ?_
        refine AnyK.bin (i := 2) may_o (u := u8V nm.1) (u' := .int .u8 82) (v := .bool false) (by simp [hsz]) (by simp) (fun w => eql5F en w) hR ?_
        refine AnyK.move (i := 3) may_o (v := .bool false) (by simp [hsz]) hR ?_
        refine AnyK.passG (i := 4) may_o (e := 44) (b' := false) rfl (by simp [hsz]) rfl hR ?_
        refine AnyK.passG (i := 5) may_o (e := 44) (b' := false) rfl (by simp [hsz]) rfl hR ?_
        refine AnyK.passG (i := 6) may_o (e := 44) (b' := false) rfl (by simp [hsz]) rfl hR ?_
        refine AnyK.passG (i := 7) may_o (e := 44) (b' := false) rfl (by simp [hsz]) rfl hR ?_
        refine AnyK.passG (i := 8) may_o (e := 44) (b' := false) rfl (by simp [hsz]) rfl hR ?_
        refine AnyK.passG (i := 9) may_o (e := 44) (b' := false) rfl (by simp [hsz]) rfl hR ?_
        refine AnyK.passG (i := 10) may_o (e := 44) (b' := false) rfl (by simp [hsz]) rfl hR ?_
        refine AnyK.passG (i := 11) may_o (e := 44) (b' := false) rfl (by simp [hsz]) rfl hR ?_
        refine AnyK.passG (i := 12) may_o (e := 44) (b' := false) rfl (by simp [hsz]) rfl hR ?_
        refine AnyK.pick (i := 13) may_o (b := false) (v := .bool false) (by simp [hsz]) (by simp) hR ?_
        refine AnyK.move (i := 14) may_o (v := .bool false) (by simp [hsz]) hR ?_
        refine AnyK.field (i := 15) may_o (u := .pointer (some ⟨b7, 0, none⟩)) (v := .pointer (some ⟨b7, 0, none⟩)) (by simp [t7]) (fun w => fa97_0 w) hR (hw := (by exact wanted_g (e := 55) (b' := false) rfl (by simp [hsz]) rfl)) ?_
        refine AnyK.load (i := 16) may_o (p := ⟨b7, 0, none⟩) (v := u8V nm.1) (by simp [hsz]) (fun w hw => ld5 (hw.2.1.cell 0)) hR (hw := (by exact wanted_g (e := 55) (b' := false) rfl (by simp [hsz]) rfl)) ?_
        refine AnyK.bin (i := 17) may_o (u := u8V nm.1) (u' := .int .u8 80) (v := .bool true) (by simp [hsz]) (by simp) (fun w => eql5T en2 w) hR (hw := (by exact wanted_g (e := 55) (b' := false) rfl (by simp [hsz]) rfl)) ?_
        refine AnyK.move (i := 18) may_o (v := .bool true) (by simp [hsz]) hR (hw := (by exact wanted_g (e := 55) (b' := false) rfl (by simp [hsz]) rfl)) ?_
        refine AnyK.load (i := 19) may_o (p := ⟨b3, 0, none⟩) (v := serV s A c) (by simp [t3]) (fun w hw => ld29 ⟨hw.1.1.cell 0, hw.1.1.cell 1, hw.1.1.cell 2⟩) hR (hw := (by exact wanted_g (e := 59) (b' := true) rfl (by simp [hsz]) rfl)) ?_
        refine AnyK.field (i := 20) may_o (u := .pointer (some ⟨b7, 0, none⟩)) (v := .pointer (some ⟨b7, 1, none⟩)) (by simp [t7]) (fun w => fa97_1 w) hR (hw := (by exact wanted_g (e := 59) (b' := true) rfl (by simp [hsz]) rfl)) ?_
        refine AnyK.load (i := 21) may_o (p := ⟨b7, 1, none⟩) (v := .int .i64 (nm.2 : Int)) (by simp [hsz]) (fun w hw => ld3 (hw.2.1.cell 1)) hR (hw := (by exact wanted_g (e := 59) (b' := true) rfl (by simp [hsz]) rfl)) ?_
        refine AnyK.load (i := 23) may_o (p := ⟨b8, 0, none⟩) (v := rV c0 c1 c2 c3 c4 c5 c6) (by simp [t8]) (fun w hw => ld83 hw.2.2.1) hR (hw := (by exact wanted_g (e := 59) (b' := true) rfl (by simp [hsz]) rfl)) ?_
        refine AnyK.pick1 (i := 22) (by kernel_rfl) ?_
        refine StepK.call (i := 22) (f := 52) (vs := #[serV s A c, .int .i64 (nm.2 : Int)]) rfl (enters_of Try.func52 (by kernel_rfl) rfl) rfl (by simp [hsz]) ((sum_any s A c nm.2 _ (by omega) (by omega) (by omega) hk hin (hR.1.2.more hR.2.2.2.size)).mono ?_) (hw := (by exact wanted_g (e := 59) (b' := true) rfl (by simp [hsz]) rfl))
        rintro _ V22 ⟨rfl, hv22⟩
        replace hR : (fun w : World => (Whole w b3 29 #[.int .i64 s.width, .int .i64 s.step, .slice A s.rd.length c] ∧ IntsAt w W.heap.size A s.rd) ∧ Whole w b7 97 #[u8V nm.1, .int .i64 (nm.2 : Int)] ∧ Whole w b8 83 (r7 c0 c1 c2 c3 c4 c5 c6) ∧ Below W.heap.size W w) V22 := hgr _ _ hR hv22
        refine ⟨_, rfl, fun _ _ => hR, ?_⟩
        refine AnyK.pick1 (i := 24) (by kernel_rfl) ?_
        refine StepK.call (i := 24) (f := 59) (vs := #[rV c0 c1 c2 c3 c4 c5 c6, .int .i64 (3)]) rfl (enters_of Try.func59 (by kernel_rfl) rfl) rfl (by simp [hsz]) (((show Calls Try.prog 59 #[rV c0 c1 c2 c3 c4 c5 c6, .int .i64 3] _ (fun e w' => e = .returned (.int .i64 (vl : Int)) ∧ _) from by rw [← hvl]; exact number3 c0 c1 c2 c3 c4 c5 c6 _)).mono ?_) (hw := (by exact wanted_g (e := 59) (b' := true) rfl (by simp [hsz]) rfl))
        rintro _ V24 ⟨rfl, hv24⟩
        replace hR : (fun w : World => (Whole w b3 29 #[.int .i64 s.width, .int .i64 s.step, .slice A s.rd.length c] ∧ IntsAt w W.heap.size A s.rd) ∧ Whole w b7 97 #[u8V nm.1, .int .i64 (nm.2 : Int)] ∧ Whole w b8 83 (r7 c0 c1 c2 c3 c4 c5 c6) ∧ Below W.heap.size W w) V24 := hgr _ _ hR hv24
        refine ⟨_, rfl, fun _ _ => hR, ?_⟩
        refine AnyK.bin (i := 25) may_o (u := .int .i64 (sumB s nm.2)) (u' := .int .i64 (vl : Int)) (v := .bool false) (by simp [hsz]) (by simp [hsz]) (fun w => neqF hv w) hR (hw := (by exact wanted_g (e := 59) (b' := true) rfl (by simp [hsz]) rfl)) ?_
        refine AnyK.pick (i := 26) may_o (b := true) (v := .bool false) (by simp [hsz]) (by simp [hsz]) hR (hw := (by exact wanted_g (e := 55) (b' := false) rfl (by simp [hsz]) rfl)) ?_
        refine AnyK.pick (i := 27) may_o (b := false) (v := .bool false) (by simp [hsz]) (by simp [hsz]) hR ?_
        refine AnyK.done (by kernel_rfl) ?_
        exact hQ _ _ (by simp only [size_put, hsz]) (by simp only [defers_put]) (by simp [t3]) (by simp [t35]) (by rw [b82, e80, hd]; exact (by simp [hsz])) hR.2.2.2
      · have hd : decide (sumB s nm.2 ≠ (vl : Int)) = true := by simp [hv]
        refine region_K (KpR (fun w : World => (Whole w b3 29 #[.int .i64 s.width, .int .i64 s.step, .slice A s.rd.length c] ∧ IntsAt w W.heap.size A s.rd) ∧ Whole w b7 97 #[u8V nm.1, .int .i64 (nm.2 : Int)] ∧ Whole w b8 83 (r7 c0 c1 c2 c3 c4 c5 c6) ∧ Below W.heap.size W w) (fun _ => false)) (wideF_plain _) (by kernel_rfl) Try.mixed ?_
        change AnyK _ _ _ _ 28 (Array.replicate 28 false) _ _
        have hR : (fun w : World => (Whole w b3 29 #[.int .i64 s.width, .int .i64 s.step, .slice A s.rd.length c] ∧ IntsAt w W.heap.size A s.rd) ∧ Whole w b7 97 #[u8V nm.1, .int .i64 (nm.2 : Int)] ∧ Whole w b8 83 (r7 c0 c1 c2 c3 c4 c5 c6) ∧ Below W.heap.size W w) W.drew := hR0
        refine AnyK.field (i := 0) may_o (u := .pointer (some ⟨b7, 0, none⟩)) (v := .pointer (some ⟨b7, 0, none⟩)) (by simp [t7]) (fun w => fa97_0 w) hR ?_
        refine AnyK.load (i := 1) may_o (p := ⟨b7, 0, none⟩) (v := u8V nm.1) (by simp [hsz]) (fun w hw => ld5 (hw.2.1.cell 0)) hR ?_
        refine AnyK.bin (i := 2) may_o (u := u8V nm.1) (u' := .int .u8 82) (v := .bool false) (by simp [hsz]) (by simp) (fun w => eql5F en w) hR ?_
        refine AnyK.move (i := 3) may_o (v := .bool false) (by simp [hsz]) hR ?_
        refine AnyK.passG (i := 4) may_o (e := 44) (b' := false) rfl (by simp [hsz]) rfl hR ?_
        refine AnyK.passG (i := 5) may_o (e := 44) (b' := false) rfl (by simp [hsz]) rfl hR ?_
        refine AnyK.passG (i := 6) may_o (e := 44) (b' := false) rfl (by simp [hsz]) rfl hR ?_
        refine AnyK.passG (i := 7) may_o (e := 44) (b' := false) rfl (by simp [hsz]) rfl hR ?_
        refine AnyK.passG (i := 8) may_o (e := 44) (b' := false) rfl (by simp [hsz]) rfl hR ?_
        refine AnyK.passG (i := 9) may_o (e := 44) (b' := false) rfl (by simp [hsz]) rfl hR ?_
        refine AnyK.passG (i := 10) may_o (e := 44) (b' := false) rfl (by simp [hsz]) rfl hR ?_
        refine AnyK.passG (i := 11) may_o (e := 44) (b' := false) rfl (by simp [hsz]) rfl hR ?_
        refine AnyK.passG (i := 12) may_o (e := 44) (b' := false) rfl (by simp [hsz]) rfl hR ?_
        refine AnyK.pick (i := 13) may_o (b := false) (v := .bool false) (by simp [hsz]) (by simp) hR ?_
        refine AnyK.move (i := 14) may_o (v := .bool false) (by simp [hsz]) hR ?_
        refine AnyK.field (i := 15) may_o (u := .pointer (some ⟨b7, 0, none⟩)) (v := .pointer (some ⟨b7, 0, none⟩)) (by simp [t7]) (fun w => fa97_0 w) hR (hw := (by exact wanted_g (e := 55) (b' := false) rfl (by simp [hsz]) rfl)) ?_
        refine AnyK.load (i := 16) may_o (p := ⟨b7, 0, none⟩) (v := u8V nm.1) (by simp [hsz]) (fun w hw => ld5 (hw.2.1.cell 0)) hR (hw := (by exact wanted_g (e := 55) (b' := false) rfl (by simp [hsz]) rfl)) ?_
        refine AnyK.bin (i := 17) may_o (u := u8V nm.1) (u' := .int .u8 80) (v := .bool true) (by simp [hsz]) (by simp) (fun w => eql5T en2 w) hR (hw := (by exact wanted_g (e := 55) (b' := false) rfl (by simp [hsz]) rfl)) ?_
        refine AnyK.move (i := 18) may_o (v := .bool true) (by simp [hsz]) hR (hw := (by exact wanted_g (e := 55) (b' := false) rfl (by simp [hsz]) rfl)) ?_
        refine AnyK.load (i := 19) may_o (p := ⟨b3, 0, none⟩) (v := serV s A c) (by simp [t3]) (fun w hw => ld29 ⟨hw.1.1.cell 0, hw.1.1.cell 1, hw.1.1.cell 2⟩) hR (hw := (by exact wanted_g (e := 59) (b' := true) rfl (by simp [hsz]) rfl)) ?_
        refine AnyK.field (i := 20) may_o (u := .pointer (some ⟨b7, 0, none⟩)) (v := .pointer (some ⟨b7, 1, none⟩)) (by simp [t7]) (fun w => fa97_1 w) hR (hw := (by exact wanted_g (e := 59) (b' := true) rfl (by simp [hsz]) rfl)) ?_
        refine AnyK.load (i := 21) may_o (p := ⟨b7, 1, none⟩) (v := .int .i64 (nm.2 : Int)) (by simp [hsz]) (fun w hw => ld3 (hw.2.1.cell 1)) hR (hw := (by exact wanted_g (e := 59) (b' := true) rfl (by simp [hsz]) rfl)) ?_
        refine AnyK.load (i := 23) may_o (p := ⟨b8, 0, none⟩) (v := rV c0 c1 c2 c3 c4 c5 c6) (by simp [t8]) (fun w hw => ld83 hw.2.2.1) hR (hw := (by exact wanted_g (e := 59) (b' := true) rfl (by simp [hsz]) rfl)) ?_
        refine AnyK.pick1 (i := 22) (by kernel_rfl) ?_
        refine StepK.call (i := 22) (f := 52) (vs := #[serV s A c, .int .i64 (nm.2 : Int)]) rfl (enters_of Try.func52 (by kernel_rfl) rfl) rfl (by simp [hsz]) ((sum_any s A c nm.2 _ (by omega) (by omega) (by omega) hk hin (hR.1.2.more hR.2.2.2.size)).mono ?_) (hw := (by exact wanted_g (e := 59) (b' := true) rfl (by simp [hsz]) rfl))
        rintro _ V22 ⟨rfl, hv22⟩
        replace hR : (fun w : World => (Whole w b3 29 #[.int .i64 s.width, .int .i64 s.step, .slice A s.rd.length c] ∧ IntsAt w W.heap.size A s.rd) ∧ Whole w b7 97 #[u8V nm.1, .int .i64 (nm.2 : Int)] ∧ Whole w b8 83 (r7 c0 c1 c2 c3 c4 c5 c6) ∧ Below W.heap.size W w) V22 := hgr _ _ hR hv22
        refine ⟨_, rfl, fun _ _ => hR, ?_⟩
        refine AnyK.pick1 (i := 24) (by kernel_rfl) ?_
        refine StepK.call (i := 24) (f := 59) (vs := #[rV c0 c1 c2 c3 c4 c5 c6, .int .i64 (3)]) rfl (enters_of Try.func59 (by kernel_rfl) rfl) rfl (by simp [hsz]) (((show Calls Try.prog 59 #[rV c0 c1 c2 c3 c4 c5 c6, .int .i64 3] _ (fun e w' => e = .returned (.int .i64 (vl : Int)) ∧ _) from by rw [← hvl]; exact number3 c0 c1 c2 c3 c4 c5 c6 _)).mono ?_) (hw := (by exact wanted_g (e := 59) (b' := true) rfl (by simp [hsz]) rfl))
        rintro _ V24 ⟨rfl, hv24⟩
        replace hR : (fun w : World => (Whole w b3 29 #[.int .i64 s.width, .int .i64 s.step, .slice A s.rd.length c] ∧ IntsAt w W.heap.size A s.rd) ∧ Whole w b7 97 #[u8V nm.1, .int .i64 (nm.2 : Int)] ∧ Whole w b8 83 (r7 c0 c1 c2 c3 c4 c5 c6) ∧ Below W.heap.size W w) V24 := hgr _ _ hR hv24
        refine ⟨_, rfl, fun _ _ => hR, ?_⟩
        refine AnyK.bin (i := 25) may_o (u := .int .i64 (sumB s nm.2)) (u' := .int .i64 (vl : Int)) (v := .bool true) (by simp [hsz]) (by simp [hsz]) (fun w => neqT hv w) hR (hw := (by exact wanted_g (e := 59) (b' := true) rfl (by simp [hsz]) rfl)) ?_
        refine AnyK.pick (i := 26) may_o (b := true) (v := .bool true) (by simp [hsz]) (by simp [hsz]) hR (hw := (by exact wanted_g (e := 55) (b' := false) rfl (by simp [hsz]) rfl)) ?_
        refine AnyK.pick (i := 27) may_o (b := false) (v := .bool true) (by simp [hsz]) (by simp [hsz]) hR ?_
        refine AnyK.done (by kernel_rfl) ?_
        exact hQ _ _ (by simp only [size_put, hsz]) (by simp only [defers_put]) (by simp [t3]) (by simp [t35]) (by rw [b82, e80, hd]; exact (by simp [hsz])) hR.2.2.2
    · have en2 : ((nm.1.toNat : Int)) ≠ 80 := fun e => e80 (UInt8.toNat_inj.1 (show nm.1.toNat = 80 by omega))
      have b80 : (nm.1 == 80) = false := by simpa using e80
      refine region_K (KpR (fun w : World => (Whole w b3 29 #[.int .i64 s.width, .int .i64 s.step, .slice A s.rd.length c] ∧ IntsAt w W.heap.size A s.rd) ∧ Whole w b7 97 #[u8V nm.1, .int .i64 (nm.2 : Int)] ∧ Whole w b8 83 (r7 c0 c1 c2 c3 c4 c5 c6) ∧ Below W.heap.size W w) (fun _ => false)) (wideF_plain _) (by kernel_rfl) Try.mixed ?_
      change AnyK _ _ _ _ 28 (Array.replicate 28 false) _ _
      have hR : (fun w : World => (Whole w b3 29 #[.int .i64 s.width, .int .i64 s.step, .slice A s.rd.length c] ∧ IntsAt w W.heap.size A s.rd) ∧ Whole w b7 97 #[u8V nm.1, .int .i64 (nm.2 : Int)] ∧ Whole w b8 83 (r7 c0 c1 c2 c3 c4 c5 c6) ∧ Below W.heap.size W w) W.drew := hR0
      refine AnyK.field (i := 0) may_o (u := .pointer (some ⟨b7, 0, none⟩)) (v := .pointer (some ⟨b7, 0, none⟩)) (by simp [t7]) (fun w => fa97_0 w) hR ?_
      refine AnyK.load (i := 1) may_o (p := ⟨b7, 0, none⟩) (v := u8V nm.1) (by simp [hsz]) (fun w hw => ld5 (hw.2.1.cell 0)) hR ?_
      refine AnyK.bin (i := 2) may_o (u := u8V nm.1) (u' := .int .u8 82) (v := .bool false) (by simp [hsz]) (by simp) (fun w => eql5F en w) hR ?_
      refine AnyK.move (i := 3) may_o (v := .bool false) (by simp [hsz]) hR ?_
      refine AnyK.passG (i := 4) may_o (e := 44) (b' := false) rfl (by simp [hsz]) rfl hR ?_
      refine AnyK.passG (i := 5) may_o (e := 44) (b' := false) rfl (by simp [hsz]) rfl hR ?_
      refine AnyK.passG (i := 6) may_o (e := 44) (b' := false) rfl (by simp [hsz]) rfl hR ?_
      refine AnyK.passG (i := 7) may_o (e := 44) (b' := false) rfl (by simp [hsz]) rfl hR ?_
      refine AnyK.passG (i := 8) may_o (e := 44) (b' := false) rfl (by simp [hsz]) rfl hR ?_
      refine AnyK.passG (i := 9) may_o (e := 44) (b' := false) rfl (by simp [hsz]) rfl hR ?_
      refine AnyK.passG (i := 10) may_o (e := 44) (b' := false) rfl (by simp [hsz]) rfl hR ?_
      refine AnyK.passG (i := 11) may_o (e := 44) (b' := false) rfl (by simp [hsz]) rfl hR ?_
      refine AnyK.passG (i := 12) may_o (e := 44) (b' := false) rfl (by simp [hsz]) rfl hR ?_
      refine AnyK.pick (i := 13) may_o (b := false) (v := .bool false) (by simp [hsz]) (by simp) hR ?_
      refine AnyK.move (i := 14) may_o (v := .bool false) (by simp [hsz]) hR ?_
      refine AnyK.field (i := 15) may_o (u := .pointer (some ⟨b7, 0, none⟩)) (v := .pointer (some ⟨b7, 0, none⟩)) (by simp [t7]) (fun w => fa97_0 w) hR (hw := (by exact wanted_g (e := 55) (b' := false) rfl (by simp [hsz]) rfl)) ?_
      refine AnyK.load (i := 16) may_o (p := ⟨b7, 0, none⟩) (v := u8V nm.1) (by simp [hsz]) (fun w hw => ld5 (hw.2.1.cell 0)) hR (hw := (by exact wanted_g (e := 55) (b' := false) rfl (by simp [hsz]) rfl)) ?_
      refine AnyK.bin (i := 17) may_o (u := u8V nm.1) (u' := .int .u8 80) (v := .bool false) (by simp [hsz]) (by simp) (fun w => eql5F en2 w) hR (hw := (by exact wanted_g (e := 55) (b' := false) rfl (by simp [hsz]) rfl)) ?_
      refine AnyK.move (i := 18) may_o (v := .bool false) (by simp [hsz]) hR (hw := (by exact wanted_g (e := 55) (b' := false) rfl (by simp [hsz]) rfl)) ?_
      refine AnyK.passG (i := 19) may_o (e := 59) (b' := false) rfl (by simp [hsz]) rfl hR ?_
      refine AnyK.passG (i := 20) may_o (e := 59) (b' := false) rfl (by simp [hsz]) rfl hR ?_
      refine AnyK.passG (i := 21) may_o (e := 59) (b' := false) rfl (by simp [hsz]) rfl hR ?_
      refine AnyK.passG (i := 22) may_o (e := 59) (b' := false) rfl (by simp [hsz]) rfl hR ?_
      refine AnyK.passG (i := 23) may_o (e := 59) (b' := false) rfl (by simp [hsz]) rfl hR ?_
      refine AnyK.passG (i := 24) may_o (e := 59) (b' := false) rfl (by simp [hsz]) rfl hR ?_
      refine AnyK.passG (i := 25) may_o (e := 59) (b' := false) rfl (by simp [hsz]) rfl hR ?_
      refine AnyK.pick (i := 26) may_o (b := false) (v := .bool false) (by simp [hsz]) (by simp) hR (hw := (by exact wanted_g (e := 55) (b' := false) rfl (by simp [hsz]) rfl)) ?_
      refine AnyK.pick (i := 27) may_o (b := false) (v := .bool false) (by simp [hsz]) (by simp [hsz]) hR ?_
      refine AnyK.done (by kernel_rfl) ?_
      exact hQ _ _ (by simp only [size_put, hsz]) (by simp only [defers_put]) (by simp [t3]) (by simp [t35]) (by rw [b82, b80]; exact (by simp [hsz])) hbd
end
end Go.Proofs.YtmdlmmfbcnkanaaR
namespace Go.Proofs.YtmdlmmfbcnkanaaR
open Go.RowKit Go.Shelf
theorem neq77 {a b : Operand} (x y z x' y' z' : Int) (w : World) : (do eqGuard .neq 77 a b (headV x y z) (headV x' y' z'); binOp .neq 77 (headV x y z) (headV x' y' z') : Sem Value).run Try.prog w = .ok (.bool (!(decide (x = x') && (decide (y = y') && decide (z = z'))))) w := by
  go_simp
  by_cases h1 : x = x' <;> by_cases h2 : y = y' <;> by_cases h3 : z = z' <;> simp [h1, h2, h3]
section
variable {s : Ser} {A : Option Addr} {c b3 ba M : Nat} {h : Head} {m : List (List UInt8)} {W0 : World}
attribute [local irreducible] AnyK StepK
set_option maxHeartbeats 400000 in
theorem fit_l_any {r0 : Nat} {D : List Nat} {a : Act} {W : World} {Q : Exit → Act → World → Prop} (hf : faultS s = 0) (hh : HeadB h) (hmany : h.many = s.rd.length) (hgd : ∀ r, r ∈ m → isGood r = true) (hout : ∀ r, r ∈ m → outOf h r = false)
    (w3 : Whole W0 b3 29 #[.int .i64 s.width, .int .i64 s.step, .slice A s.rd.length c]) (hs : IntsAt W0 W0.heap.size A s.rd) (har : ArchAt W0 ba M h m) (low : Below W0.heap.size W0 W) (it : IterAt nameV W r0 M (recMap m) D) (hr0 : W0.heap.size ≤ r0)
    (hsz : a.tmps.size = 69) (hdf : a.defers = []) (t3 : a.eval (.tmp 3) = ptr b3) (t35 : a.eval (.tmp 35) = ptr r0)
    (hN : ∀ a' W' j r, m[j]? = some r → okRec s r = true → a'.tmps.size = 69 → a'.defers = [] → a'.eval (.tmp 3) = ptr b3 → a'.eval (.tmp 35) = ptr r0 → Below W0.heap.size W0 W' → IterAt nameV W' r0 M (recMap m) (D ++ [j]) → D.length < m.length → Q .normal a' W')
    (hX : ∀ a', (∀ j, j < m.length → j ∈ D) → a'.tmps.size = 69 → a'.defers = [] → Q (.exit 0) a' W)
    (hR : ∀ a' W' r, r ∈ m → okRec s r = false → a'.defers = [] → a'.eval (.tmp 4) = .bool false → Below W0.heap.size W0 W' → Q .ret a' W') :
    fit_l.wpIn Fence.wide 5 Try.prog Q a W := by
  have hltM := har.lt.2
  unfold fit_l
  rcases it.next (by omega) 0 with ⟨hall, hnx⟩ | ⟨j, k, v, W1, hjk, hlt, hnx, it1, he1⟩
  · skip
    refine wpIn_seq (region_p 2 ?_)
    intro K hK
    refine ListK.next (i := 0) (u := ptr r0) rfl (by simp [t35]) hnx ?_
    refine ListK.extract (i := 1) (u := .tuple #[.bool false]) (v := .bool false) rfl (by simp [hsz]) (ex0s _ _) ?_
    refine ListK.done (hK _ _ ?_)
    clear hK K
    refine wpIn_seq (wpIn_cond (t := false) (by simp [hsz]) (wpIn_exit ?_))
    exact hX _ (fun j hj => hall j (by simpa [recMap] using hj)) (by simp only [size_put, hsz]) (by simp only [defers_put, hdf])
  · have low1 := low.trans (he1.below low.size (fun k hk => by omega))
    obtain ⟨r, hr, hkr, hvr⟩ : ∃ r, m[j]? = some r ∧ k = nameOf r ∧ v = .agg (recC r) := by
      simp only [recMap, List.getElem?_map, Option.map_eq_some_iff, Prod.mk.injEq] at hjk
      obtain ⟨r, h1, h2, h3⟩ := hjk
      exact ⟨r, h1, h2.symm, h3.symm⟩
    subst hkr
    have hent := it1.entry hjk
    have hlt' : D.length < m.length := by simpa [recMap] using hlt
    have hrm := List.mem_of_getElem? hr
    obtain ⟨c0, c1, c2, c3, c4, c5, c6, hre⟩ := len7 (good_seven (hgd r hrm))
    have hv7 : v = rV c0 c1 c2 c3 c4 c5 c6 := by rw [hvr, hre]; rfl
    subst hv7
    refine wpIn_seq (region_p 2 ?_)
    intro K hK
    refine ListK.next (i := 0) (u := ptr r0) rfl (by simp [t35]) hnx ?_
    refine ListK.extract (i := 1) (u := .tuple #[.bool true, nameV (nameOf r), rV c0 c1 c2 c3 c4 c5 c6]) (v := .bool true) rfl (by simp [hsz]) (ex0t _ _ _ _) ?_
    refine ListK.done (hK _ _ ?_)
    clear hK K
    refine wpIn_seq (wpIn_cond (t := true) (by simp [hsz]) (wpIn_skip ?_))
    generalize hA : Act.put _ _ _ = a1
    have hz_a1 : a1.tmps.size = 69 := by rw [← hA]; simp only [size_put, hsz]
    have u3 : a1.eval (.tmp 3) = .pointer (some ⟨b3, 0, none⟩) := by rw [← hA]; exact (by simp [t3])
    have u35 : a1.eval (.tmp 35) = .pointer (some ⟨r0, 0, none⟩) := by rw [← hA]; exact (by simp [t35])
    have hd_a1 : a1.defers = [] := by rw [← hA]; simp only [defers_put, hdf]
    clear hA
    refine wpIn_block ?_
    have hbA : Below W1.heap.size W1 (W1.alloc (.cells #[.int .u8 0, .int .i64 0] 97)) := (Below.refl _ W1).alloc (Nat.le_refl _) _
    have hbB : Below (W1.alloc (.cells #[.int .u8 0, .int .i64 0] 97)).heap.size (W1.alloc (.cells #[.int .u8 0, .int .i64 0] 97)) ((W1.alloc (.cells #[.int .u8 0, .int .i64 0] 97)).alloc (.cells z7 83)) := (Below.refl _ (W1.alloc (.cells #[.int .u8 0, .int .i64 0] 97))).alloc (Nat.le_refl _) _
    have w7b := (Whole.new W1 97 #[.int .u8 0, .int .i64 0]).below hbB (Whole.new W1 97 #[.int .u8 0, .int .i64 0]).lt
    have w8b := Whole.new (W1.alloc (.cells #[.int .u8 0, .int .i64 0] 97)) 83 z7
    have hlt78 := (Whole.new W1 97 #[.int .u8 0, .int .i64 0]).lt
    have heC : Else (fun k => k = W1.heap.size) ((W1.alloc (.cells #[.int .u8 0, .int .i64 0] 97)).alloc (.cells z7 83)) ((((W1.alloc (.cells #[.int .u8 0, .int .i64 0] 97)).alloc (.cells z7 83)).setCell ⟨W1.heap.size, 0, none⟩ (u8V (nameOf r).1)).setCell ⟨W1.heap.size, 1, none⟩ (.int .i64 ((nameOf r).2 : Int))) := ((Else.refl (fun k => k = W1.heap.size) _).setCell (p := ⟨W1.heap.size, 0, none⟩) (.inl rfl) _).setCell (p := ⟨W1.heap.size, 1, none⟩) (.inl rfl) _
    have w8c := heC.whole (by omega) w8b
    have w7c := (w7b.set 0 (u8V (nameOf r).1)).set 1 (.int .i64 ((nameOf r).2 : Int))
    refine wpIn_seq (region_p 7 ?_)
    intro K hK
    refine ListK.entry (i := 0) (u := ptr r0) rfl (by simp [u35]) hent ?_
    refine ListK.extract (i := 1) (u := .tuple #[nameV (nameOf r), rV c0 c1 c2 c3 c4 c5 c6]) (v := nameV (nameOf r)) rfl (by simp [hz_a1]) (ex0 _ _ _) ?_
    refine ListK.extract (i := 2) (u := .tuple #[nameV (nameOf r), rV c0 c1 c2 c3 c4 c5 c6]) (v := rV c0 c1 c2 c3 c4 c5 c6) rfl (by simp [hz_a1]) (ex1 _ _ _) ?_
    refine ListK.alloc (i := 3) rfl (al97 W1) ?_
    refine ListK.alloc (i := 4) rfl (al83 (W1.alloc (.cells #[.int .u8 0, .int .i64 0] 97))) ?_
    refine ListK.store (i := 5) (u := .pointer (some ⟨W1.heap.size, 0, none⟩)) (u' := nameV (nameOf r)) rfl (by simp [hz_a1]) (by simp [hz_a1]) (st97 w7b) ?_
    refine ListK.store (i := 6) (u := .pointer (some ⟨(W1.alloc (.cells #[.int .u8 0, .int .i64 0] 97)).heap.size, 0, none⟩)) (u' := rV c0 c1 c2 c3 c4 c5 c6) rfl (by simp [hz_a1]) (by simp [hz_a1]) (st83 w8c) ?_
    refine ListK.done (hK _ _ ?_)
    clear hK K
    have w8d := put7_whole w8c (u8V c0) (u8V c1) (u8V c2) (u8V c3) (u8V c4) (u8V c5) (u8V c6)
    have heD := put7_else (w := (((W1.alloc (.cells #[.int .u8 0, .int .i64 0] 97)).alloc (.cells z7 83)).setCell ⟨W1.heap.size, 0, none⟩ (u8V (nameOf r).1)).setCell ⟨W1.heap.size, 1, none⟩ (.int .i64 ((nameOf r).2 : Int))) (b := (W1.alloc (.cells #[.int .u8 0, .int .i64 0] 97)).heap.size) (u8V c0) (u8V c1) (u8V c2) (u8V c3) (u8V c4) (u8V c5) (u8V c6)
    have w7d := heD.whole (by omega) w7c
    have hszA := hbA.size
    have hszB := hbB.size
    have hb2 := (hbA.trans (hbB.mono hszA)).trans ((heC.below (B := W1.heap.size) (by omega) (fun k hk e => by omega)).trans (heD.below (B := W1.heap.size) (by simp; omega) (fun k hk e => by omega)))
    generalize (W1.alloc (.cells #[.int .u8 0, .int .i64 0] 97)).heap.size = b8 at *
    have hrl : r0 < W1.heap.size := by obtain ⟨_, _, _, _, _, _, _, _, _, h6, _⟩ := it1.ex; exact (Array.getElem?_eq_some_iff.1 h6).1
    have hs01 := low1.size
    have it2 := it1.keep (hb2.block M (by omega)) (hb2.block r0 hrl)
    have hrl2 : r0 < _ := Nat.lt_of_lt_of_le hrl hb2.size
    have low2 := low1.trans (hb2.mono low1.size)
    generalize W1.heap.size = b7 at *
    generalize put7 ((((W1.alloc (.cells #[.int .u8 0, .int .i64 0] 97)).alloc (.cells z7 83)).setCell ⟨b7, 0, none⟩ (u8V (nameOf r).1)).setCell ⟨b7, 1, none⟩ (.int .i64 ((nameOf r).2 : Int))) b8 (u8V c0) (u8V c1) (u8V c2) (u8V c3) (u8V c4) (u8V c5) (u8V c6) = W2 at *
    generalize hA : Act.put _ _ _ = a2
    have hz_a2 : a2.tmps.size = 69 := by rw [← hA]; simp only [size_put, hz_a1]
    have v3 : a2.eval (.tmp 3) = .pointer (some ⟨b3, 0, none⟩) := by rw [← hA]; exact (by simp [u3])
    have v7 : a2.eval (.tmp 7) = .pointer (some ⟨b7, 0, none⟩) := by rw [← hA]; exact (by simp [hz_a1])
    have v8 : a2.eval (.tmp 8) = .pointer (some ⟨b8, 0, none⟩) := by rw [← hA]; exact (by simp [hz_a1])
    have v35 : a2.eval (.tmp 35) = .pointer (some ⟨r0, 0, none⟩) := by rw [← hA]; exact (by simp [u35])
    have hd_a2 : a2.defers = [] := by rw [← hA]; simp only [defers_put, hd_a1]
    clear hA
    have ho := hout r hrm
    have ho2 : ((nameOf r).1 = 82 → (nameOf r).2 < s.rd.length) ∧ ((nameOf r).1 = 80 → (nameOf r).2 ≤ 100) := by
      unfold outOf at ho
      rw [Bool.or_eq_false_iff, Bool.and_eq_false_iff, Bool.and_eq_false_iff] at ho
      refine ⟨fun e => ?_, fun e => ?_⟩
      · rcases ho.1 with h1 | h1
        · rw [e] at h1
          cases h1
        · simp at h1
          omega
      · rcases ho.2 with h1 | h1
        · rw [e] at h1
          cases h1
        · simp at h1
          have hb : h.blocks ≤ 48 := by
            unfold Head.blocks
            refine Nat.le_trans (Nat.div_le_self _ _) ?_
            have := hh.many
            have := hh.width
            omega
          omega
    subst hre
    refine wpIn_seq (ft_7 hf rfl rfl ho2.1 ho2.2 hz_a2 v3 v7 v8 v35 (w3.below low2 w3.lt) ((hs.below low2 (Nat.le_refl _)).more low2.size) w7d w8d (fun a' W' y0 yd y3 y35 y68 hb3 => ?_))
    rw [hd_a2] at yd
    have it3 := it2.keep (hb3.block M (by have := low2.size; omega)) (hb3.block r0 hrl2)
    have low3 := low2.trans (hb3.mono low2.size)
    cases ho : okRec s [c0, c1, c2, c3, c4, c5, c6] with
    | true =>
      rw [ho] at y68
      refine wpIn_cond (t := false) y68 (wpIn_skip ?_)
      exact hN a' W' j _ hr ho y0 yd y3 y35 low3 it3 hlt'
    | false =>
      rw [ho] at y68
      refine wpIn_cond (t := true) y68 ?_
      refine wpIn_seq (region_p 1 ?_)
      intro K hK
      refine ListK.assign (i := 0) (v := .bool false) rfl (by simp) ?_
      refine ListK.done (hK _ _ (wpIn_ret ?_))
      exact hR _ _ _ hrm ho (by simp only [defers_put, yd]) (by simp [y0]) low3
end
end Go.Proofs.YtmdlmmfbcnkanaaR
namespace Go.Proofs.YtmdlmmfbcnkanaaR
open Go.RowKit Go.Shelf
section
variable {s : Ser} {A : Option Addr} {c b3 ba M : Nat} {h : Head} {m : List (List UInt8)} {W0 : World}
attribute [local irreducible] AnyK StepK
set_option maxHeartbeats 400000 in
theorem fit_b_any {a : Act} {W W2 : World} (hf : faultS s = 0) (hh : HeadB h) (hmany : h.many = s.rd.length) (hgd : ∀ r, r ∈ m → isGood r = true) (hout : ∀ r, r ∈ m → outOf h r = false)
    (w3 : Whole W2 b3 29 #[.int .i64 s.width, .int .i64 s.step, .slice A s.rd.length c]) (hs : IntsAt W2 W2.heap.size A s.rd) (har : ArchAt W2 ba M h m) (hB : Below W.heap.size W W2)
    (hsz : a.tmps.size = 69) (hd_a : a.defers = []) (t3 : a.eval (.tmp 3) = ptr b3) (t5 : a.eval (.tmp 5) = ptr ba) :
    fit_b.wpIn Fence.wide 5 Try.prog (bodyPost Try.prog Try.f31 (EvP W (.bool (m.all (okRec s))))) a W2 := by
  obtain ⟨o, hrun, it⟩ := IterAt.new kl97 har.map
  unfold fit_b
  refine wpIn_seq (wpIn_seq (region_p 5 ?_))
  intro K hK
  refine ListK.move (i := 0) (v := .pointer (some ⟨ba, 0, none⟩)) rfl (by simp [t5]) ?_
  refine ListK.nilCheck (i := 1) (p := ⟨ba, 0, none⟩) rfl (by simp [hsz]) ?_
  refine ListK.field (i := 2) (u := .pointer (some ⟨ba, 0, none⟩)) (v := .pointer (some ⟨ba, 3, none⟩)) rfl (by simp [hsz]) (fa95_1 _) ?_
  refine ListK.load (i := 3) (p := ⟨ba, 3, none⟩) (v := .map (some M)) rfl (by simp [hsz]) (ld93m (har.whole.cell 3)) ?_
  refine ListK.range (i := 4) (u := .map (some M)) rfl (by simp [hsz]) hrun ?_
  refine ListK.done (hK _ _ ?_)
  clear hK K
  have hb1 : Below W2.heap.size W2 (W2.alloc o) := (Below.refl _ W2).alloc (Nat.le_refl _) _
  generalize hA : Act.put _ _ _ = a1
  have hz_a1 : a1.tmps.size = 69 := by rw [← hA]; simp only [size_put, hsz]
  have u3 : a1.eval (.tmp 3) = .pointer (some ⟨b3, 0, none⟩) := by rw [← hA]; exact (by simp [t3])
  have u35 : a1.eval (.tmp 35) = .pointer (some ⟨W2.heap.size, 0, none⟩) := by rw [← hA]; exact (by simp [hsz])
  have hd_a1 : a1.defers = [] := by rw [← hA]; simp only [defers_put, hd_a]
  clear hA
  refine wpIn_block (wpIn_loop (fun a W' => ∃ D, IterAt nameV W' W2.heap.size M (recMap m) D ∧ Below W2.heap.size W2 W' ∧ (∀ j r, j ∈ D → m[j]? = some r → okRec s r = true) ∧ a.tmps.size = 69 ∧ a.defers = [] ∧ a.eval (.tmp 3) = ptr b3 ∧ a.eval (.tmp 35) = ptr W2.heap.size) (fun _ W' => m.length - seenN W' W2.heap.size)
    ⟨[], it, hb1, fun _ _ h => by simp at h, hz_a1, hd_a1, u3, u35⟩ ?_)
  rintro b1 W3 ⟨D, it2, low2, hD, z2, d2, s3, s35⟩
  refine fit_l_any hf hh hmany hgd hout w3 hs har low2 it2 (Nat.le_refl _) z2 d2 s3 s35 (fun a' W' j r hj ho y0 yd y3 y35 low' it' hlt => ?_) (fun a' hall y0 yd => ?_) (fun a' W' r hr2 ho yd y4 low' => ?_)
  · refine ⟨⟨D ++ [j], it', low', fun j' r' hj' hr' => ?_, y0, yd, y3, y35⟩, ?_⟩
    · rcases List.mem_append.1 hj' with hj' | hj'
      · exact hD j' r' hj' hr'
      · simp at hj'
        subst hj'
        rw [hj] at hr'
        cases hr'
        exact ho
    · rw [it'.seenN, it2.seenN]
      simp
      omega
  · have hno : m.all (okRec s) = true := by
      rw [List.all_eq_true]
      intro r hr2
      obtain ⟨j, hj⟩ := List.mem_iff_getElem?.1 hr2
      exact hD j r (hall j (List.getElem?_eq_some_iff.1 hj).1) hj
    rw [hno]
    show (Code.wpIn _ _ _ (Code.seq _ _) _ _ _)
    refine wpIn_seq (region_p 1 ?_)
    intro K hK
    refine ListK.assign (i := 0) (v := .bool true) rfl (by simp) ?_
    refine ListK.done (hK _ _ (wpIn_ret ?_))
    exact bodyPost_ret (v := .bool true) (res1 Try.results31 (by simp [y0])) (by simp only [defers_put, yd]) ⟨rfl, hB.trans (low2.mono hB.size)⟩
  · have hno : m.all (okRec s) = false := by
      cases hq : m.all (okRec s) with
      | false => rfl
      | true =>
        have := List.all_eq_true.1 hq r hr2
        rw [ho] at this
        cases this
    rw [hno]
    exact bodyPost_ret (v := .bool false) (res1 Try.results31 y4) yd ⟨rfl, hB.trans (low'.mono hB.size)⟩
end
section
attribute [local irreducible] AnyK StepK
set_option maxHeartbeats 400000 in
theorem fits_any (s : Ser) (A Ab : Option Addr) (c cb : Nat) (l : List UInt8) (W : World) (hlr : s.rd.length ≤ 1000000) (hs : IntsAt W W.heap.size A s.rd) (hc : l.length ≤ cb) (hl : l.length ≤ 100000) (hby : BytesAt W W.heap.size Ab l) :
    Calls Try.prog 31 #[.slice Ab l.length cb, serV s A c] W (EvP W (.bool (fitsC l s))) := by
  refine (callsIn_wide (n := 5)).1 (callsIn_of_wp Try.func31 body31 trivial ?_ rfl)
  obtain ⟨a, ha⟩ : ∃ a : Act, a = { tmps := #[.slice Ab l.length cb, serV s A c] ++ Array.replicate (Try.f31.ntmps - (#[.slice Ab l.length cb, serV s A c] : Array Value).size) undef, defers := [] } := ⟨_, rfl⟩
  have hsz : a.tmps.size = 69 := by rw [ha]; simp [Try.ntmps31]
  have t0 : a.eval (.tmp 0) = .slice Ab l.length cb := by rw [ha]; simp [Act.eval]
  have t1 : a.eval (.tmp 1) = serV s A c := by rw [ha]; simp [Act.eval]
  have hd_a : a.defers = [] := by rw [ha]
  rw [← ha]
  clear ha
  unfold code31
  refine wpIn_seq (region_p 2 ?_)
  intro K hK
  refine ListK.box (i := 0) (u := serV s A c) rfl (by simp [t1]) (bx29 W _ _ _ _ _) ?_
  refine ListK.assign (i := 1) (v := .bool false) rfl (by simp) ?_
  refine ListK.done (hK _ _ ?_)
  clear hK K
  replace hs : IntsAt (W.alloc (.cells #[.int .i64 s.width, .int .i64 s.step, .slice A s.rd.length c] 29)) W.heap.size A s.rd := hs.below ((Below.refl W.heap.size W).alloc (Nat.le_refl _) _) (Nat.le_refl _)
  replace hby : BytesAt (W.alloc (.cells #[.int .i64 s.width, .int .i64 s.step, .slice A s.rd.length c] 29)) W.heap.size Ab l := hby.below ((Below.refl W.heap.size W).alloc (Nat.le_refl _) _) (Nat.le_refl _)
  have w3 := Whole.new W 29 #[.int .i64 s.width, .int .i64 s.step, .slice A s.rd.length c]
  have hb_b3 : Below W.heap.size W (W.alloc (.cells #[.int .i64 s.width, .int .i64 s.step, .slice A s.rd.length c] 29)) := (Below.refl _ W).alloc (Nat.le_refl _) _
  have hB := hb_b3
  generalize hq_b3 : W.heap.size = b3 at *
  generalize W.alloc (.cells #[.int .i64 s.width, .int .i64 s.step, .slice A s.rd.length c] 29) = W1 at *
  have hsz1 := hB.size
  replace hs := hs.more (show b3 ≤ W1.heap.size by omega)
  replace hby := hby.more (show b3 ≤ W1.heap.size by omega)
  rw [← hq_b3] at hB
  generalize hA : Act.put _ _ _ = a1
  have hz_a1 : a1.tmps.size = 69 := by rw [← hA]; simp only [size_put, hsz]
  have u0 : a1.eval (.tmp 0) = .slice Ab l.length cb := by rw [← hA]; exact (by simp [t0])
  have u3 : a1.eval (.tmp 3) = .pointer (some ⟨b3, 0, none⟩) := by rw [← hA]; exact (by simp [hsz])
  have hd_a1 : a1.defers = [] := by rw [← hA]; simp only [defers_put, hd_a]
  clear hA
  have hb1 : Below W1.heap.size W1 (W1.alloc (.cells #[.slice Ab l.length cb] 31)) := (Below.refl _ W1).alloc (Nat.le_refl _) _
  have hrd := read_any [l] (some ⟨W1.heap.size, 0, none⟩) 1 (by simp) _ (lists_one hc hl hby)
  refine wpIn_seq (region_p 8 ?_)
  intro K hK
  refine ListK.move (i := 0) (v := .slice Ab l.length cb) rfl (by simp [u0]) ?_
  refine ListK.bsl (i := 1) (ps := #[(0, .slice Ab l.length cb)]) (v := .slice (some ⟨W1.heap.size, 0, none⟩) 1 1) rfl (by simp [hz_a1]) (bs124 _ _ _ W1) ?_
  refine ListK.call (i := 2) (vs := #[.slice (some ⟨W1.heap.size, 0, none⟩) 1 1]) rfl (enters_of Try.func58 (by kernel_rfl) rfl) (by simp [hz_a1]) ((hrd).mono ?_)
  rintro e W2 hrp
  obtain ⟨p, rfl, hb2, hok⟩ := hrp.val
  refine ⟨_, rfl, ?_⟩
  refine ListK.move (i := 3) (v := .tuple #[.pointer p, .int .i64 (readC [l])]) rfl (by simp [hz_a1]) ?_
  refine ListK.extract (i := 4) (u := .tuple #[.pointer p, .int .i64 (readC [l])]) (v := .pointer p) rfl (by simp [hz_a1]) (ex0 _ _ _) ?_
  refine ListK.extract (i := 5) (u := .tuple #[.pointer p, .int .i64 (readC [l])]) (v := .int .i64 (readC [l])) rfl (by simp [hz_a1]) (ex1 _ _ _) ?_
  refine ListK.assign (i := 6) (v := .pointer p) rfl (by simp [hz_a1]) ?_
  refine ListK.assign (i := 7) (v := .int .i64 (readC [l])) rfl (by simp [hz_a1]) ?_
  refine ListK.done (hK _ _ ?_)
  clear hK K
  have hb12 := hb1.trans (hb2.mono (by have := hb1.size; omega))
  have hB2 := hB.trans (hb12.mono hB.size)
  have w32 := w3.below hb12 w3.lt
  have hs2 := (hs.below hb12 (Nat.le_refl _)).more hb12.size
  generalize hA : Act.put _ _ _ = a2
  have hz_a2 : a2.tmps.size = 69 := by rw [← hA]; simp only [size_put, hz_a1]
  have v3 : a2.eval (.tmp 3) = .pointer (some ⟨b3, 0, none⟩) := by rw [← hA]; exact (by simp [u3])
  have v5 : a2.eval (.tmp 5) = .pointer p := by rw [← hA]; exact (by simp [hz_a1])
  have v6 : a2.eval (.tmp 6) = .int .i64 (readC [l]) := by rw [← hA]; exact (by simp [hz_a1])
  have hd_a2 : a2.defers = [] := by rw [← hA]; simp only [defers_put, hd_a1]
  clear hA
  have hbd := (Below.refl W2.heap.size W2).drew
  by_cases hz : readC [l] = 0
  · obtain ⟨b, M, hr, m, rfl, ht, hf, har, hgd, hno⟩ := hok hz
    have hfl : [l].flatMap goods = goods l := by simp
    rw [hfl] at ht
    have hh := head_b (hgd _ (find_mem hf).1) (find_mem hf).2
    have hrm : readM l = some (headOf hr, m) := by simp [readM, hz, ht, hf]
    have hfc : fitsC l s = (decide (faultS s = 0) && (headEqB s (headOf hr) && m.all (okRec s))) := by simp only [fitsC, hrm]
    rw [hfc]
    generalize headOf hr = h at *
    have hgr : ∀ w w', (fun w : World => (Whole w b3 29 #[.int .i64 s.width, .int .i64 s.step, .slice A s.rd.length c] ∧ IntsAt w W2.heap.size A s.rd) ∧ ArchAt w b M h m ∧ Below W2.heap.size W2 w) w → Below w.heap.size w w' → (fun w : World => (Whole w b3 29 #[.int .i64 s.width, .int .i64 s.step, .slice A s.rd.length c] ∧ IntsAt w W2.heap.size A s.rd) ∧ ArchAt w b M h m ∧ Below W2.heap.size W2 w) w' := fun w w' h hb => ⟨⟨h.1.1.below hb h.1.1.lt, h.1.2.below (hb.mono h.2.2.size) (Nat.le_refl _)⟩, h.2.1.below hb, h.2.2.trans (hb.mono h.2.2.size)⟩
    have hR0 : (fun w : World => (Whole w b3 29 #[.int .i64 s.width, .int .i64 s.step, .slice A s.rd.length c] ∧ IntsAt w W2.heap.size A s.rd) ∧ ArchAt w b M h m ∧ Below W2.heap.size W2 w) W2.drew := hgr W2 _ ⟨⟨w32, hs2⟩, har, Below.refl _ _⟩ hbd
    by_cases hfa : faultS s = 0
    · skip
      refine wpIn_seq (wpIn_seq (region_K (KpR (fun w : World => (Whole w b3 29 #[.int .i64 s.width, .int .i64 s.step, .slice A s.rd.length c] ∧ IntsAt w W2.heap.size A s.rd) ∧ ArchAt w b M h m ∧ Below W2.heap.size W2 w) (fun _ => false)) (wideF_plain _) (by kernel_rfl) Try.mixed ?_))
      change AnyK _ _ _ _ 16 (Array.replicate 16 false) _ _
      have hR : (fun w : World => (Whole w b3 29 #[.int .i64 s.width, .int .i64 s.step, .slice A s.rd.length c] ∧ IntsAt w W2.heap.size A s.rd) ∧ ArchAt w b M h m ∧ Below W2.heap.size W2 w) W2.drew := hR0
      refine AnyK.move (i := 0) may_o (v := .int .i64 (readC [l])) (by simp [v6]) hR ?_
      refine AnyK.bin (i := 1) may_o (u := .int .i64 (readC [l])) (u' := .int .i64 (0)) (v := .bool false) (by simp [hz_a2]) (by simp) (fun w => neq27F hz w) hR ?_
      refine AnyK.move (i := 2) may_o (v := .bool false) (by simp [hz_a2]) hR ?_
      refine AnyK.load (i := 3) may_o (p := ⟨b3, 0, none⟩) (v := serV s A c) (by simp [v3]) (fun w hw => ld29 ⟨hw.1.1.cell 0, hw.1.1.cell 1, hw.1.1.cell 2⟩) hR (hw := (by exact wanted_g (e := 17) (b' := false) rfl (by simp [hz_a2]) rfl)) ?_
      refine AnyK.pick1 (i := 4) (by kernel_rfl) ?_
      refine StepK.call (i := 4) (f := 17) (vs := #[serV s A c]) rfl (enters_of Try.func17 (by kernel_rfl) rfl) rfl (by simp [hz_a2]) ((check_any s A c _ hlr (hR.1.2.more hR.2.2.size)).mono ?_) (hw := (by exact wanted_g (e := 17) (b' := false) rfl (by simp [hz_a2]) rfl))
      rintro _ V4 ⟨rfl, hv4⟩
      replace hR : (fun w : World => (Whole w b3 29 #[.int .i64 s.width, .int .i64 s.step, .slice A s.rd.length c] ∧ IntsAt w W2.heap.size A s.rd) ∧ ArchAt w b M h m ∧ Below W2.heap.size W2 w) V4 := hgr _ _ hR hv4
      refine ⟨_, rfl, fun _ _ => hR, ?_⟩
      refine AnyK.bin (i := 5) may_o (u := .int .i64 (faultS s)) (u' := .int .i64 (0)) (v := .bool false) (by simp [hz_a2]) (by simp) (fun w => neq27F hfa w) hR (hw := (by exact wanted_g (e := 17) (b' := false) rfl (by simp [hz_a2]) rfl)) ?_
      refine AnyK.pick (i := 6) may_o (b := false) (v := .bool false) (by simp [hz_a2]) (by simp [hz_a2]) hR ?_
      refine AnyK.move (i := 7) may_o (v := .bool false) (by simp [hz_a2]) hR ?_
      refine AnyK.load (i := 8) may_o (p := ⟨b3, 0, none⟩) (v := serV s A c) (by simp [v3]) (fun w hw => ld29 ⟨hw.1.1.cell 0, hw.1.1.cell 1, hw.1.1.cell 2⟩) hR (hw := (by exact wanted_g (e := 22) (b' := false) rfl (by simp [hz_a2]) rfl)) ?_
      refine AnyK.move (i := 10) may_o (v := .pointer (some ⟨b, 0, none⟩)) (by simp [v5]) hR (hw := (by exact wanted_g (e := 22) (b' := false) rfl (by simp [hz_a2]) rfl)) ?_
      refine AnyK.nilCheck (i := 11) may_o (p := ⟨b, 0, none⟩) (by simp [hz_a2]) hR (hw := (by exact wanted_g (e := 22) (b' := false) rfl (by simp [hz_a2]) rfl)) ?_
      refine AnyK.field (i := 12) may_o (u := .pointer (some ⟨b, 0, none⟩)) (v := .pointer (some ⟨b, 0, none⟩)) (by simp [hz_a2]) (fun w => fa95_0 w) hR (hw := (by exact wanted_g (e := 22) (b' := false) rfl (by simp [hz_a2]) rfl)) ?_
      refine AnyK.load (i := 13) may_o (p := ⟨b, 0, none⟩) (v := headV (h.many : Int) (h.width : Int) (h.step : Int)) (by simp [hz_a2]) (fun w hw => ld77 ⟨hw.2.1.whole.cell 0, hw.2.1.whole.cell 1, hw.2.1.whole.cell 2⟩) hR (hw := (by exact wanted_g (e := 22) (b' := false) rfl (by simp [hz_a2]) rfl)) ?_
      refine AnyK.pick1 (i := 9) (by kernel_rfl) ?_
      refine StepK.call (i := 9) (f := 45) (vs := #[serV s A c]) rfl (enters_of Try.func45 (by kernel_rfl) rfl) rfl (by simp [hz_a2]) ((sHead_any s.width s.step A s.rd.length c _).mono ?_) (hw := (by exact wanted_g (e := 22) (b' := false) rfl (by simp [hz_a2]) rfl))
      rintro _ V9 ⟨rfl, hv9⟩
      replace hR : (fun w : World => (Whole w b3 29 #[.int .i64 s.width, .int .i64 s.step, .slice A s.rd.length c] ∧ IntsAt w W2.heap.size A s.rd) ∧ ArchAt w b M h m ∧ Below W2.heap.size W2 w) V9 := hgr _ _ hR hv9
      refine ⟨_, rfl, fun _ _ => hR, ?_⟩
      refine AnyK.bin (i := 14) may_o (u := headV (s.rd.length : Int) s.width s.step) (u' := headV (h.many : Int) (h.width : Int) (h.step : Int)) (v := .bool (!headEqB s h)) (by simp [hz_a2]) (by simp [hz_a2]) (fun w => neq77 _ _ _ _ _ _ w) hR (hw := (by exact wanted_g (e := 22) (b' := false) rfl (by simp [hz_a2]) rfl)) ?_
      refine AnyK.pick (i := 15) may_o (b := false) (v := .bool (!headEqB s h)) (by simp [hz_a2]) (by simp [hz_a2]) hR ?_
      refine AnyK.done (by kernel_rfl) ?_
      generalize hA : Act.put _ _ _ = a3
      have hz_a3 : a3.tmps.size = 69 := by rw [← hA]; simp only [size_put, hz_a2]
      have q3 : a3.eval (.tmp 3) = .pointer (some ⟨b3, 0, none⟩) := by rw [← hA]; exact (by simp [v3])
      have q5 : a3.eval (.tmp 5) = .pointer (some ⟨b, 0, none⟩) := by rw [← hA]; exact (by simp [v5])
      have q30 : a3.eval (.tmp 30) = .bool (!headEqB s h) := by rw [← hA]; exact (by simp [hz_a2])
      have hd_a3 : a3.defers = [] := by rw [← hA]; simp only [defers_put, hd_a2]
      clear hA
      have hBv := hB2.trans (hR.2.2.mono hB2.size)
      cases hhe : headEqB s h with
      | false =>
        rw [hhe] at q30
        refine wpIn_cond (t := true) q30 ?_
        refine wpIn_seq (region_p 1 ?_)
        intro K hK
        refine ListK.assign (i := 0) (v := .bool false) rfl (by simp) ?_
        refine ListK.done (hK _ _ (wpIn_ret ?_))
        exact bodyPost_ret (v := .bool false) (res1 Try.results31 (by simp [hz_a3])) (by simp only [defers_put, hd_a3]) ⟨by simp, hBv⟩
      | true =>
        rw [hhe] at q30
        refine wpIn_cond (t := false) q30 (wpIn_skip ?_)
        show fit_b.wpIn _ _ _ _ _ _
        have hmany : h.many = s.rd.length := by
          unfold headEqB at hhe
          simp at hhe
          omega
        have hval : (decide (faultS s = 0) && (true && m.all (okRec s))) = m.all (okRec s) := by rw [decide_eq_true hfa]; simp
        rw [hval]
        exact fit_b_any hfa hh hmany hgd (fun r hr => by simpa using List.any_eq_false.1 hno r hr) hR.1.1 (hR.1.2.more hR.2.2.size) hR.2.1 hBv hz_a3 hd_a3 q3 q5
    · skip
      refine wpIn_seq (wpIn_seq (region_K (KpR (fun w : World => (Whole w b3 29 #[.int .i64 s.width, .int .i64 s.step, .slice A s.rd.length c] ∧ IntsAt w W2.heap.size A s.rd) ∧ ArchAt w b M h m ∧ Below W2.heap.size W2 w) (fun _ => false)) (wideF_plain _) (by kernel_rfl) Try.mixed ?_))
      change AnyK _ _ _ _ 16 (Array.replicate 16 false) _ _
      have hR : (fun w : World => (Whole w b3 29 #[.int .i64 s.width, .int .i64 s.step, .slice A s.rd.length c] ∧ IntsAt w W2.heap.size A s.rd) ∧ ArchAt w b M h m ∧ Below W2.heap.size W2 w) W2.drew := hR0
      refine AnyK.move (i := 0) may_o (v := .int .i64 (readC [l])) (by simp [v6]) hR ?_
      refine AnyK.bin (i := 1) may_o (u := .int .i64 (readC [l])) (u' := .int .i64 (0)) (v := .bool false) (by simp [hz_a2]) (by simp) (fun w => neq27F hz w) hR ?_
      refine AnyK.move (i := 2) may_o (v := .bool false) (by simp [hz_a2]) hR ?_
      refine AnyK.load (i := 3) may_o (p := ⟨b3, 0, none⟩) (v := serV s A c) (by simp [v3]) (fun w hw => ld29 ⟨hw.1.1.cell 0, hw.1.1.cell 1, hw.1.1.cell 2⟩) hR (hw := (by exact wanted_g (e := 17) (b' := false) rfl (by simp [hz_a2]) rfl)) ?_
      refine AnyK.pick1 (i := 4) (by kernel_rfl) ?_
      refine StepK.call (i := 4) (f := 17) (vs := #[serV s A c]) rfl (enters_of Try.func17 (by kernel_rfl) rfl) rfl (by simp [hz_a2]) ((check_any s A c _ hlr (hR.1.2.more hR.2.2.size)).mono ?_) (hw := (by exact wanted_g (e := 17) (b' := false) rfl (by simp [hz_a2]) rfl))
      rintro _ V4 ⟨rfl, hv4⟩
      replace hR : (fun w : World => (Whole w b3 29 #[.int .i64 s.width, .int .i64 s.step, .slice A s.rd.length c] ∧ IntsAt w W2.heap.size A s.rd) ∧ ArchAt w b M h m ∧ Below W2.heap.size W2 w) V4 := hgr _ _ hR hv4
      refine ⟨_, rfl, fun _ _ => hR, ?_⟩
      refine AnyK.bin (i := 5) may_o (u := .int .i64 (faultS s)) (u' := .int .i64 (0)) (v := .bool true) (by simp [hz_a2]) (by simp) (fun w => neq27T hfa w) hR (hw := (by exact wanted_g (e := 17) (b' := false) rfl (by simp [hz_a2]) rfl)) ?_
      refine AnyK.pick (i := 6) may_o (b := false) (v := .bool true) (by simp [hz_a2]) (by simp [hz_a2]) hR ?_
      refine AnyK.move (i := 7) may_o (v := .bool true) (by simp [hz_a2]) hR ?_
      refine AnyK.passG (i := 8) may_o (e := 22) (b' := true) rfl (by simp [hz_a2]) rfl hR ?_
      refine AnyK.passG (i := 9) may_o (e := 22) (b' := true) rfl (by simp [hz_a2]) rfl hR ?_
      refine AnyK.passG (i := 10) may_o (e := 22) (b' := true) rfl (by simp [hz_a2]) rfl hR ?_
      refine AnyK.passG (i := 11) may_o (e := 22) (b' := true) rfl (by simp [hz_a2]) rfl hR ?_
      refine AnyK.passG (i := 12) may_o (e := 22) (b' := true) rfl (by simp [hz_a2]) rfl hR ?_
      refine AnyK.passG (i := 13) may_o (e := 22) (b' := true) rfl (by simp [hz_a2]) rfl hR ?_
      refine AnyK.passG (i := 14) may_o (e := 22) (b' := true) rfl (by simp [hz_a2]) rfl hR ?_
      refine AnyK.pick (i := 15) may_o (b := true) (v := .bool true) (by simp [hz_a2]) (by simp) hR ?_
      refine AnyK.done (by kernel_rfl) ?_
      refine wpIn_cond (t := true) (by simp [hz_a2]) ?_
      refine wpIn_seq (region_p 1 ?_)
      intro K hK
      refine ListK.assign (i := 0) (v := .bool false) rfl (by simp) ?_
      refine ListK.done (hK _ _ (wpIn_ret ?_))
      exact bodyPost_ret (v := .bool false) (res1 Try.results31 (by simp [hz_a2])) (by simp only [defers_put, hd_a2]) ⟨by rw [decide_eq_false hfa]; rfl, hB2.trans (hR.2.2.mono hB2.size)⟩
  · have hfc : fitsC l s = false := by simp [fitsC, readM, hz]
    rw [hfc]
    refine wpIn_seq (wpIn_seq (region_K (KpR (fun _ : World => True) (fun _ => false)) (wideF_plain _) (by kernel_rfl) Try.mixed ?_))
    change AnyK _ _ _ _ 16 (Array.replicate 16 false) _ _
    have hR : (fun _ : World => True) W2.drew := trivial
    refine AnyK.move (i := 0) may_o (v := .int .i64 (readC [l])) (by simp [v6]) hR ?_
    refine AnyK.bin (i := 1) may_o (u := .int .i64 (readC [l])) (u' := .int .i64 (0)) (v := .bool true) (by simp [hz_a2]) (by simp) (fun w => neq27T hz w) hR ?_
    refine AnyK.move (i := 2) may_o (v := .bool true) (by simp [hz_a2]) hR ?_
    refine AnyK.passG (i := 3) may_o (e := 17) (b' := true) rfl (by simp [hz_a2]) rfl hR ?_
    refine AnyK.passG (i := 4) may_o (e := 17) (b' := true) rfl (by simp [hz_a2]) rfl hR ?_
    refine AnyK.passG (i := 5) may_o (e := 17) (b' := true) rfl (by simp [hz_a2]) rfl hR ?_
    refine AnyK.pick (i := 6) may_o (b := true) (v := .bool true) (by simp [hz_a2]) (by simp) hR ?_
    refine AnyK.move (i := 7) may_o (v := .bool true) (by simp [hz_a2]) hR ?_
    refine AnyK.passG (i := 8) may_o (e := 22) (b' := true) rfl (by simp [hz_a2]) rfl hR ?_
    refine AnyK.passG (i := 9) may_o (e := 22) (b' := true) rfl (by simp [hz_a2]) rfl hR ?_
    refine AnyK.passG (i := 10) may_o (e := 22) (b' := true) rfl (by simp [hz_a2]) rfl hR ?_
    refine AnyK.passG (i := 11) may_o (e := 22) (b' := true) rfl (by simp [hz_a2]) rfl hR ?_
    refine AnyK.passG (i := 12) may_o (e := 22) (b' := true) rfl (by simp [hz_a2]) rfl hR ?_
    refine AnyK.passG (i := 13) may_o (e := 22) (b' := true) rfl (by simp [hz_a2]) rfl hR ?_
    refine AnyK.passG (i := 14) may_o (e := 22) (b' := true) rfl (by simp [hz_a2]) rfl hR ?_
    refine AnyK.pick (i := 15) may_o (b := true) (v := .bool true) (by simp [hz_a2]) (by simp) hR ?_
    refine AnyK.done (by kernel_rfl) ?_
    refine wpIn_cond (t := true) (by simp [hz_a2]) ?_
    refine wpIn_seq (region_p 1 ?_)
    intro K hK
    refine ListK.assign (i := 0) (v := .bool false) rfl (by simp) ?_
    refine ListK.done (hK _ _ (wpIn_ret ?_))
    exact bodyPost_ret (v := .bool false) (res1 Try.results31 (by simp [hz_a2])) (by simp only [defers_put, hd_a2]) ⟨rfl, hB2.trans (hbd.mono hB2.size)⟩
end
end Go.Proofs.YtmdlmmfbcnkanaaR
namespace Go.Proofs.YtmdlmmfbcnkanaaR

/-- The first head of good pieces; none: noughts. -/
def headG (gs : List (List UInt8)) : Head := match gs.find? (fun p => p.head? == some 72) with
  | some p => headOf p
  | none => ⟨0, 0, 0⟩
/-- Do two pieces contradict each other? -/
def confl (p q : List UInt8) : Bool := (p.head? == q.head? && !(p == q)) && (p.head? == some 72 || p.take 3 == q.take 3)
def pastG (h : Head) (p : List UInt8) : Bool := decide (0 < h.many) && outOf h p
def contraP (gs : List (List UInt8)) : Prop := ∃ (i : Nat) (p : List UInt8), gs[i]? = some p ∧ ((∃ (k : Nat) (q : List UInt8), k < i ∧ gs[k]? = some q ∧ confl p q = true) ∨ pastG (headG gs) p = true)
noncomputable instance contraDec (gs : List (List UInt8)) : Decidable (contraP gs) := Classical.propDecidable _
noncomputable def contraB (gs : List (List UInt8)) : Bool := decide (contraP gs)
noncomputable def toldG (gs : List (List UInt8)) : Int := if contraB gs = true then 6 else if (headG gs).many = 0 then 7 else 0
def fitsG (gs : List (List UInt8)) (s : Ser) : Bool := headEqB s (headG gs) && gs.all (okRec s)

theorem num2_inj {a b c d : UInt8} (ha : isDig a = true) (hb : isDig b = true) (hc : isDig c = true) (hd : isDig d = true) (h : num2 a b = num2 c d) : a = c ∧ b = d := by
  have h1 := dig_of ha
  have h2 := dig_of hb
  have h3 := dig_of hc
  have h4 := dig_of hd
  unfold num2 at h
  exact ⟨UInt8.toNat_inj.1 (by omega), UInt8.toNat_inj.1 (by omega)⟩
/-- What is so of a good record. -/
theorem good_parts {r : List UInt8} (h : isGood r = true) : ∃ a b c d e f g, r = [a, b, c, d, e, f, g] ∧ (a = 72 ∨ a = 82 ∨ a = 80) ∧ (isDig b = true ∧ isDig c = true ∧ isDig d = true ∧ isDig e = true ∧ isDig f = true ∧ isDig g = true) ∧ (a = 72 → headOk (num2 b c) (dig d) (dig e) = true) := by
  obtain ⟨a, b, c, d, e, f, g, rfl⟩ := len7 (good_len h)
  refine ⟨a, b, c, d, e, f, g, rfl, ?_⟩
  simp only [isGood, good7, Bool.and_eq_true, Bool.or_eq_true, beq_iff_eq, bne_iff_ne] at h
  obtain ⟨⟨⟨h1, h2⟩, h3⟩, h4⟩ := h
  obtain ⟨⟨⟨⟨⟨a1, a2⟩, a3⟩, a4⟩, a5⟩, a6⟩ := h2
  refine ⟨?_, ⟨a1, a2, a3, a4, a5, a6⟩, fun e => h4.resolve_left (fun hn => hn e)⟩
  rcases h1 with (h | h) | h
  · exact .inl h
  · exact .inr (.inl h)
  · exact .inr (.inr h)
theorem confl_iff {p q : List UInt8} (hp : isGood p = true) (hq : isGood q = true) : confl p q = true ↔ nameOf p = nameOf q ∧ p ≠ q := by
  obtain ⟨a, b, c, d, e, f, g, rfl, h1, ⟨y1, y2, _⟩, _⟩ := good_parts hp
  obtain ⟨a', b', c', d', e', f', g', rfl, h1', ⟨z1, z2, _⟩, _⟩ := good_parts hq
  unfold confl
  simp only [List.head?_cons, Bool.and_eq_true, Bool.or_eq_true, beq_iff_eq, Option.some.injEq, Bool.not_eq_true', beq_eq_false_iff_ne, List.take_succ_cons, List.take_zero, nameOf]
  constructor
  · rintro ⟨⟨rfl, h2⟩, h3⟩
    refine ⟨?_, h2⟩
    rcases h3 with rfl | h3
    · simp
    · injection h3 with _ h4
      injection h4 with h4 h5
      injection h5 with h5 _
      rw [h4, h5]
  · rintro ⟨h2, h3⟩
    by_cases e1 : a = 72 <;> by_cases e2 : a' = 72
    · exact ⟨⟨e1.trans e2.symm, h3⟩, .inl e1⟩
    · rw [if_pos e1, if_neg e2] at h2
      injection h2 with h2 _
      exact (e2 h2.symm).elim
    · rw [if_neg e1, if_pos e2] at h2
      injection h2 with h2 _
      exact (e1 h2).elim
    · rw [if_neg e1, if_neg e2] at h2
      injection h2 with h2 h4
      obtain ⟨h5, h6⟩ := num2_inj y1 y2 z1 z2 h4
      exact ⟨⟨h2, h3⟩, .inr (by rw [h2, h5, h6])⟩
theorem takeUp_func : ∀ (T m m' : List (List UInt8)), Func m → takeUp m T = some m' → Func (m ++ T)
  | [], m, m', hf, _ => by simpa using hf
  | g :: T, m, m', hf, h => by
    simp only [takeUp] at h
    cases hn : find m (nameOf g) with
    | some old =>
      rw [hn] at h
      simp only at h
      by_cases ho : old = g
      · rw [if_pos ho] at h
        have ih := takeUp_func T m m' hf h
        subst ho
        have hm := (find_mem hn).1
        refine ih.of_sub fun r hr => ?_
        simp only [List.mem_append, List.mem_cons] at hr ⊢
        rcases hr with h | rfl | h
        · exact .inl h
        · exact .inl hm
        · exact .inr h
      · rw [if_neg ho] at h; cases h
    | none =>
      rw [hn] at h
      simp only at h
      have hf2 : Func (m ++ [g]) := by
        have hno : ∀ r, r ∈ m → nameOf r ≠ nameOf g := by
          intro r hr e
          unfold find at hn
          rw [List.find?_eq_none] at hn
          have := hn r hr
          simp [e] at this
        intro a b ha hb e
        simp only [List.mem_append, List.mem_singleton] at ha hb
        rcases ha with ha | rfl <;> rcases hb with hb | rfl
        · exact hf a b ha hb e
        · exact (hno a ha e).elim
        · exact (hno b hb e.symm).elim
        · rfl
      have ih := takeUp_func T (m ++ [g]) m' hf2 h
      simpa using ih
theorem not_func {gs : List (List UInt8)} (hg : ∀ r, r ∈ gs → isGood r = true) : ¬ Func gs ↔ ∃ (i : Nat) (p : List UInt8) (k : Nat) (q : List UInt8), gs[i]? = some p ∧ k < i ∧ gs[k]? = some q ∧ confl p q = true := by
  constructor
  · intro h
    by_cases hx : ∃ (i : Nat) (p : List UInt8) (k : Nat) (q : List UInt8), gs[i]? = some p ∧ k < i ∧ gs[k]? = some q ∧ confl p q = true
    · exact hx
    · refine (h fun a b ha hb e => ?_).elim
      by_cases hab : a = b
      · exact hab
      · obtain ⟨i, hi⟩ := List.getElem?_of_mem ha
        obtain ⟨k, hk⟩ := List.getElem?_of_mem hb
        rcases Nat.lt_trichotomy i k with hlt | heq | hlt
        · exact (hx ⟨k, b, i, a, hk, hlt, hi, (confl_iff (hg b hb) (hg a ha)).2 ⟨e.symm, fun e => hab e.symm⟩⟩).elim
        · subst heq
          rw [hi] at hk
          cases hk
          rfl
        · exact (hx ⟨i, a, k, b, hi, hlt, hk, (confl_iff (hg a ha) (hg b hb)).2 ⟨e, hab⟩⟩).elim
  · rintro ⟨i, p, k, q, hi, _, hk, hc⟩ hf
    have hp := List.mem_of_getElem? hi
    have hq := List.mem_of_getElem? hk
    obtain ⟨h1, h2⟩ := (confl_iff (hg p hp) (hg q hq)).1 hc
    exact h2 (hf p q hp hq h1)
theorem head_many {r : List UInt8} (h : isGood r = true) (h72 : r.head? = some 72) : nameOf r = (72, 0) ∧ 1 ≤ (headOf r).many := by
  obtain ⟨a, b, c, d, e, f, g, rfl, _, _, h3⟩ := good_parts h
  simp only [List.head?_cons, Option.some.injEq] at h72
  subst h72
  have h4 := h3 rfl
  simp only [headOk, inR, Bool.and_eq_true, decide_eq_true_eq] at h4
  refine ⟨by simp [nameOf], ?_⟩
  show 1 ≤ num2 b c
  omega
theorem head_name {r : List UInt8} (h : isGood r = true) : nameOf r = (72, 0) ↔ r.head? = some 72 := by
  constructor
  · intro hn
    obtain ⟨a, b, c, d, e, f, g, rfl, h1, _, _⟩ := good_parts h
    simp only [nameOf] at hn
    by_cases e : a = 72
    · rw [e]; rfl
    · rw [if_neg e] at hn
      injection hn with hn _
      exact (e hn).elim
  · exact fun h72 => (head_many h h72).1
theorem told_read {gs : List (List UInt8)} (hg : ∀ r, r ∈ gs → isGood r = true) : toldG gs = readE gs ∧ ∀ m hr, takeUp [] gs = some m → find m (72, 0) = some hr → headG gs = headOf hr ∧ ∀ r, r ∈ m ↔ r ∈ gs := by
  by_cases hf : Func gs
  · obtain ⟨m, h1, h2⟩ := takeUp_ok gs [] (by simpa using hf)
    simp only [List.nil_append] at h2
    have hfm : Func m := hf.of_sub fun r hr => (h2 r).1 hr
    have hno : ¬ ∃ (i : Nat) (p : List UInt8) (k : Nat) (q : List UInt8), gs[i]? = some p ∧ k < i ∧ gs[k]? = some q ∧ confl p q = true := fun hx => (not_func hg).2 hx hf
    cases hfd : gs.find? (fun p => p.head? == some 72) with
    | none =>
      have hn : find m (72, 0) = none := by
        cases hx : find m (72, 0) with
        | none => rfl
        | some r =>
          obtain ⟨h3, h4⟩ := find_mem hx
          have h5 := (head_name (hg r ((h2 r).1 h3))).1 h4
          rw [List.find?_eq_none] at hfd
          have := hfd r ((h2 r).1 h3)
          simp [h5] at this
      have hh : headG gs = ⟨0, 0, 0⟩ := by unfold headG; rw [hfd]
      have hc : contraB gs = false := by
        refine decide_eq_false ?_
        rintro ⟨i, p, hi, ⟨k, q, hk, hq, hc⟩ | hp⟩
        · exact hno ⟨i, p, k, q, hi, hk, hq, hc⟩
        · rw [hh] at hp
          simp [pastG] at hp
      refine ⟨?_, fun m' hr hm' hfr => ?_⟩
      · unfold toldG readE
        rw [hc, h1, hh]
        simp [hn]
      · rw [h1] at hm'
        cases hm'
        rw [hn] at hfr
        cases hfr
    | some p =>
      have hp := List.mem_of_find?_eq_some hfd
      have hp72 : p.head? = some 72 := by simpa using List.find?_some hfd
      have hpg := hg p hp
      have hpn := head_many hpg hp72
      have hh : headG gs = headOf p := by unfold headG; rw [hfd]
      have hn : find m (72, 0) = some p := (find_iff hfm).2 ⟨(h2 p).2 hp, hpn.1⟩
      have hc : contraB gs = m.any (outOf (headOf p)) := by
        rw [Bool.eq_iff_iff]
        constructor
        · intro h
          have h := of_decide_eq_true h
          obtain ⟨i, r, hi, ⟨k, q, hk, hq, hc⟩ | hpa⟩ := h
          · exact (hno ⟨i, r, k, q, hi, hk, hq, hc⟩).elim
          · rw [hh] at hpa
            simp only [pastG, Bool.and_eq_true] at hpa
            exact List.any_eq_true.2 ⟨r, (h2 r).2 (List.mem_of_getElem? hi), hpa.2⟩
        · intro h
          obtain ⟨r, hr, ho⟩ := List.any_eq_true.1 h
          obtain ⟨i, hi⟩ := List.getElem?_of_mem ((h2 r).1 hr)
          refine decide_eq_true ⟨i, r, hi, .inr ?_⟩
          rw [hh]
          simp only [pastG, Bool.and_eq_true, decide_eq_true_eq]
          exact ⟨by omega, ho⟩
      refine ⟨?_, fun m' hr hm' hfr => ?_⟩
      · unfold toldG readE
        rw [hc, h1, hh]
        have : ¬ (headOf p).many = 0 := by omega
        simp [hn, this]
      · rw [h1] at hm'
        cases hm'
        rw [hn] at hfr
        cases hfr
        exact ⟨hh, h2⟩
  · have hc : contraB gs = true := by
      obtain ⟨i, p, k, q, hi, hk, hq, hc⟩ := (not_func hg).1 hf
      exact decide_eq_true ⟨i, p, hi, .inl ⟨k, q, hk, hq, hc⟩⟩
    have hn : takeUp [] gs = none := by
      cases hx : takeUp [] gs with
      | none => rfl
      | some m => exact (hf (by simpa using takeUp_func gs [] m (fun a b ha => by cases ha) hx)).elim
    refine ⟨?_, fun m hr hm => by rw [hn] at hm; cases hm⟩
    unfold toldG readE
    rw [hc, hn]
    simp
theorem goods_good (l : List UInt8) : ∀ r, r ∈ goods l → isGood r = true := fun _ hr => (List.mem_filter.1 hr).2
/-- Whether a series fits, said by the good pieces. -/
theorem fits_is (l : List UInt8) (s : Ser) : fitsC l s = (decide (l.length ≤ 4000) && (decide (toldG (goods l) = 0) && (decide (faultS s = 0) && fitsG (goods l) s))) := by
  obtain ⟨h1, h2⟩ := told_read (goods_good l)
  have hrc : readC [l] = if 4000 < l.length then 3 else readE (goods l) := by simp [readC]
  by_cases hl : 4000 < l.length
  · rw [if_pos hl] at hrc
    rw [decide_eq_false (show ¬ l.length ≤ 4000 by omega), Bool.false_and]
    simp [fitsC, readM, hrc]
  · rw [if_neg hl] at hrc
    rw [decide_eq_true (show l.length ≤ 4000 by omega), Bool.true_and, h1]
    by_cases he : readE (goods l) = 0
    · rw [he] at hrc
      rw [decide_eq_true he, Bool.true_and]
      cases ht : takeUp [] (goods l) with
      | none => simp [readE, ht] at he
      | some m =>
        cases hf : find m (72, 0) with
        | none => simp [readE, ht, hf] at he
        | some hr =>
          obtain ⟨h3, h4⟩ := h2 m hr ht hf
          have hall : m.all (okRec s) = (goods l).all (okRec s) := by
            rw [Bool.eq_iff_iff, List.all_eq_true, List.all_eq_true]
            exact ⟨fun h r hr => h r ((h4 r).2 hr), fun h r hr => h r ((h4 r).1 hr)⟩
          have hrm : readM l = some (headOf hr, m) := by simp [readM, hrc, ht, hf]
          simp only [fitsC, hrm, fitsG, h3, hall]
    · rw [decide_eq_false he, Bool.false_and]
      have hrm : readM l = none := by unfold readM; rw [if_neg (by rw [hrc]; exact he)]
      simp [fitsC, hrm]
end Go.Proofs.YtmdlmmfbcnkanaaR
namespace Go.Proofs.YtmdlmmfbcnkanaaR
open Go.RowKit Go.Shelf
theorem res3n {fn : Go.Func} {i j k : Nat} {W : World} {a : Act} {x y z : Value} (h : fn.results = #[.tmp i, .tmp j, .tmp k]) (hi : a.eval (.tmp i) = x) (hj : a.eval (.tmp j) = y) (hk : a.eval (.tmp k) = z) :
    (results fn a.tmps).run Try.prog W = .ok (.tuple #[x, y, z]) W := by
  have e1 : a.tmps[i]?.getD undef = x := by simpa [Act.eval] using hi
  have e2 : a.tmps[j]?.getD undef = y := by simpa [Act.eval] using hj
  have e3 : a.tmps[k]?.getD undef = z := by simpa [Act.eval] using hk
  simp only [results, h]
  simp [e1, e2, e3]
abbrev hdT (h : Head) : Value := .tuple #[.int .i64 (h.many : Int), .int .i64 (h.width : Int), .int .i64 (h.step : Int)]
theorem headG_at {L : List (List UInt8)} {i : Nat} {x : List UInt8} (hno : ∀ (j : Nat) (y : List UInt8), j < i → L[j]? = some y → y.head? ≠ some 72) (hx : L[i]? = some x) (h72 : x.head? = some 72) : headG L = headOf x := by
  have hlt := (List.getElem?_eq_some_iff.1 hx).1
  have e : L = L.take i ++ x :: L.drop (i + 1) := by
    conv => lhs; rw [← List.take_append_drop i L]
    rw [List.drop_eq_getElem_cons hlt, (List.getElem?_eq_some_iff.1 hx).2]
  have hn : (L.take i).find? (fun p => p.head? == some 72) = none := by
    rw [List.find?_eq_none]
    intro y hy
    obtain ⟨j, hj⟩ := List.getElem?_of_mem hy
    rw [List.getElem?_take] at hj
    split at hj
    · rename_i hji
      have := hno j y hji hj
      simpa using this
    · cases hj
  have hf : L.find? (fun p => p.head? == some 72) = some x := by
    rw [e, List.find?_append, hn]
    simp [h72]
  unfold headG
  rw [hf]
theorem headG_none {L : List (List UInt8)} (hno : ∀ (j : Nat) (y : List UInt8), j < L.length → L[j]? = some y → y.head? ≠ some 72) : headG L = ⟨0, 0, 0⟩ := by
  have hf : L.find? (fun p => p.head? == some 72) = none := by
    rw [List.find?_eq_none]
    intro y hy
    obtain ⟨j, hj⟩ := List.getElem?_of_mem hy
    have := hno j y (List.getElem?_eq_some_iff.1 hj).1 hj
    simpa using this
  unfold headG
  rw [hf]
theorem headG_b {L : List (List UInt8)} (hg : ∀ r, r ∈ L → isGood r = true) (h : 0 < (headG L).many) : HeadB (headG L) := by
  unfold headG at h ⊢
  cases hf : L.find? (fun p => p.head? == some 72) with
  | none => rw [hf] at h; simp at h
  | some p =>
    have hp := hg p (List.mem_of_find?_eq_some hf)
    have h72 : p.head? = some 72 := by simpa using List.find?_some hf
    exact head_b hp (head_many hp h72).1
noncomputable def opsHe0 : Array Oper := (Try.f62.body.bind (regionOf 0)).getD #[]
noncomputable def opsHe1 : Array Oper := (Try.f62.body.bind (regionOf 1)).getD #[]
noncomputable def opsHe2 : Array Oper := (Try.f62.body.bind (regionOf 2)).getD #[]
noncomputable def opsHe3 : Array Oper := (Try.f62.body.bind (regionOf 3)).getD #[]
noncomputable def opsHe4 : Array Oper := (Try.f62.body.bind (regionOf 4)).getD #[]
noncomputable def opsHe5 : Array Oper := (Try.f62.body.bind (regionOf 5)).getD #[]
noncomputable def opsHe6 : Array Oper := (Try.f62.body.bind (regionOf 6)).getD #[]
noncomputable def opsHe7 : Array Oper := (Try.f62.body.bind (regionOf 7)).getD #[]
noncomputable def he_l : Code := (.seq (.seq (.region 2 opsHe2 false) (.cond (.tmp 10) .skip (.exit 0))) (.seq (.block 1 (.seq (.region 4 opsHe4 false) (.seq (.region 5 opsHe5 false) (.cond (.tmp 19) (.seq (.region 6 opsHe6 true) .ret) .skip)))) (.region 3 opsHe3 false)))
noncomputable def code62 : Code := (.seq (.region 0 opsHe0 false) (.seq (.seq (.region 1 opsHe1 false) (.block 0 (.loop he_l))) (.seq (.region 7 opsHe7 false) .ret)))
theorem body62 : Try.f62.body = some code62 := by kernel_rfl
section
attribute [local irreducible] AnyK StepK
set_option maxHeartbeats 400000 in
theorem refHead_any (A : Option Addr) (c : Nat) (L : List (List UInt8)) (hL : L.length ≤ 90000) (hgd : ∀ x, x ∈ L → isGood x = true) (W : World) (hst : StrsAt W W.heap.size A L) : Calls Try.prog 62 #[.slice A L.length c] W (EvP W (hdT (headG L))) := by
  refine (callsIn_wide (n := 5)).1 (callsIn_of_wp Try.func62 body62 trivial ?_ rfl)
  obtain ⟨a, ha⟩ : ∃ a : Act, a = { tmps := #[.slice A L.length c] ++ Array.replicate (Try.f62.ntmps - (#[.slice A L.length c] : Array Value).size) undef, defers := [] } := ⟨_, rfl⟩
  have hsz : a.tmps.size = 30 := by rw [ha]; simp [Try.ntmps62]
  have t0 : a.eval (.tmp 0) = .slice A L.length c := by rw [ha]; simp [Act.eval]
  have hd_a : a.defers = [] := by rw [ha]
  rw [← ha]
  clear ha
  unfold code62
  refine wpIn_seq (region_p 3 ?_)
  intro K hK
  refine ListK.assign (i := 0) (v := .int .i64 0) rfl (by simp) ?_
  refine ListK.assign (i := 1) (v := .int .i64 0) rfl (by simp) ?_
  refine ListK.assign (i := 2) (v := .int .i64 0) rfl (by simp) ?_
  refine ListK.done (hK _ _ ?_)
  clear hK K
  refine wpIn_seq (wpIn_seq (region_p 1 ?_))
  intro K hK
  refine ListK.assign (i := 0) (v := .int .i64 0) rfl (by simp) ?_
  refine ListK.done (hK _ _ ?_)
  clear hK K
  generalize hA : Act.put _ _ _ = a1
  have hz_a1 : a1.tmps.size = 30 := by rw [← hA]; simp only [size_put, hsz]
  have u0 : a1.eval (.tmp 0) = .slice A L.length c := by rw [← hA]; exact (by simp [t0])
  have u5 : a1.eval (.tmp 5) = .int .i64 0 := by rw [← hA]; exact (by simp [hsz])
  have hd_a1 : a1.defers = [] := by rw [← hA]; simp only [defers_put, hd_a]
  clear hA
  refine wpIn_block (wpIn_loop (fun a W' => ∃ i : Nat, W' = W ∧ i ≤ L.length ∧ (∀ (j : Nat) (y : List UInt8), j < i → L[j]? = some y → y.head? ≠ some 72) ∧ a.tmps.size = 30 ∧ a.defers = [] ∧ a.eval (.tmp 0) = .slice A L.length c ∧ a.eval (.tmp 5) = .int .i64 (i : Int)) (fun a _ => L.length - (intOf (a.eval (.tmp 5))).toNat)
    ⟨0, rfl, Nat.zero_le _, fun j y h => by omega, hz_a1, hd_a1, u0, u5⟩ ?_)
  rintro b1 W1 ⟨i, hW1, hi, hno, hz_b1, hd_b1, s0, s5⟩
  subst hW1
  unfold he_l
  by_cases hlt : i < L.length
  · have hx := List.getElem?_eq_getElem hlt
    obtain ⟨gb, off, hA, hgb, hc⟩ := hst i _ hx
    have hxg := hgd L[i] (List.getElem_mem hlt)
    obtain ⟨x, hxe⟩ : ∃ x, L[i] = x := ⟨_, rfl⟩
    rw [hxe] at hx hc hxg
    obtain ⟨x0, x1, x2, x3, x4, x5, x6, rfl, h0, _, _⟩ := good_parts hxg
    have d3 := dig_lt x3
    have d4 := dig_lt x4
    subst hA
    refine wpIn_seq (wpIn_seq (region_p 4 ?_))
    intro K hK
    refine ListK.move (i := 0) (v := .int .i64 (i : Int)) rfl (by simp [s5]) ?_
    refine ListK.move (i := 1) (v := .slice (some ⟨gb, off, none⟩) L.length c) rfl (by simp [s0]) ?_
    refine ListK.len (i := 2) (u := .slice (some ⟨gb, off, none⟩) L.length c) (v := .int .i64 L.length) rfl (by simp [hz_b1]) (ln36 _ _ _ _ _) rfl ?_
    refine ListK.bin (i := 3) (u := .int .i64 (i : Int)) (u' := .int .i64 L.length) (v := .bool true) rfl (by simp [hz_b1]) (by simp [hz_b1]) (lssT3 (by omega) _) ?_
    refine ListK.done (hK _ _ ?_)
    clear hK K
    refine wpIn_cond (t := true) (by simp [hz_b1]) (wpIn_skip ?_)
    generalize hA : Act.put _ _ _ = b2
    have hz_b2 : b2.tmps.size = 30 := by rw [← hA]; simp only [size_put, hz_b1]
    have o0 : b2.eval (.tmp 0) = .slice (some ⟨gb, off, none⟩) L.length c := by rw [← hA]; exact (by simp [s0])
    have o5 : b2.eval (.tmp 5) = .int .i64 (i : Int) := by rw [← hA]; exact (by simp [s5])
    have hd_b2 : b2.defers = [] := by rw [← hA]; simp only [defers_put, hd_b1]
    clear hA
    refine wpIn_seq (wpIn_block ?_)
    refine wpIn_seq (region_p 5 ?_)
    intro K hK
    refine ListK.move (i := 0) (v := .slice (some ⟨gb, off, none⟩) L.length c) rfl (by simp [o0]) ?_
    refine ListK.move (i := 1) (v := .int .i64 (i : Int)) rfl (by simp [o5]) ?_
    refine ListK.index (i := 2) (u := .slice (some ⟨gb, off, none⟩) L.length c) (u' := .int .i64 (i : Int)) (v := .pointer (some ⟨gb, off + i, none⟩)) rfl (by simp [hz_b2]) (by simp [hz_b2]) (ix36 hlt _) ?_
    refine ListK.load (i := 3) (p := ⟨gb, off + i, none⟩) (v := strV [x0, x1, x2, x3, x4, x5, x6]) rfl (by simp [hz_b2]) (ld9 (hc)) ?_
    refine ListK.assign (i := 4) (v := strV [x0, x1, x2, x3, x4, x5, x6]) rfl (by simp [hz_b2]) ?_
    refine ListK.done (hK _ _ ?_)
    clear hK K
    generalize hA : Act.put _ _ _ = b3
    have hz_b3 : b3.tmps.size = 30 := by rw [← hA]; simp only [size_put, hz_b2]
    have q0 : b3.eval (.tmp 0) = .slice (some ⟨gb, off, none⟩) L.length c := by rw [← hA]; exact (by simp [o0])
    have q5 : b3.eval (.tmp 5) = .int .i64 (i : Int) := by rw [← hA]; exact (by simp [o5])
    have q6 : b3.eval (.tmp 6) = strV [x0, x1, x2, x3, x4, x5, x6] := by rw [← hA]; exact (by simp [hz_b2])
    have hd_b3 : b3.defers = [] := by rw [← hA]; simp only [defers_put, hd_b2]
    clear hA
    refine wpIn_seq (region_p 3 ?_)
    intro K hK
    refine ListK.move (i := 0) (v := strV [x0, x1, x2, x3, x4, x5, x6]) rfl (by simp [q6]) ?_
    refine ListK.indexV (i := 1) (u := strV [x0, x1, x2, x3, x4, x5, x6]) (u' := .int .i64 0) (v := u8V x0) rfl (by simp [hz_b3]) (by simp) (ix9 (k := 0) rfl _) ?_
    refine ListK.bin (i := 2) (u := u8V x0) (u' := .int .u8 72) (v := .bool (decide (x0 = 72))) rfl (by simp [hz_b3]) (by simp) (eql5n x0 72 _) ?_
    refine ListK.done (hK _ _ ?_)
    clear hK K
    by_cases h72 : x0 = 72
    · rw [decide_eq_true h72]
      have hh := headG_at hno hx (by rw [h72]; rfl)
      refine wpIn_cond (t := true) (by simp [hz_b3]) ?_
      generalize hA : Act.put _ _ _ = b4
      have hz_b4 : b4.tmps.size = 30 := by rw [← hA]; simp only [size_put, hz_b3]
      have yy0 : b4.eval (.tmp 0) = .slice (some ⟨gb, off, none⟩) L.length c := by rw [← hA]; exact (by simp [q0])
      have yy5 : b4.eval (.tmp 5) = .int .i64 (i : Int) := by rw [← hA]; exact (by simp [q5])
      have yy6 : b4.eval (.tmp 6) = strV [x0, x1, x2, x3, x4, x5, x6] := by rw [← hA]; exact (by simp [q6])
      have hd_b4 : b4.defers = [] := by rw [← hA]; simp only [defers_put, hd_b3]
      clear hA
      refine wpIn_seq (region_K (KpR (fun w : World => Below W1.heap.size W1 w) (fun _ => false)) (wideF_plain _) (by kernel_rfl) Try.mixed ?_)
      change AnyK _ _ _ _ 13 (Array.replicate 13 false) _ _
      have hR : (fun w : World => Below W1.heap.size W1 w) W1.drew := (Below.refl W1.heap.size W1).drew
      refine AnyK.move (i := 0) may_o (v := strV [x0, x1, x2, x3, x4, x5, x6]) (by simp [yy6]) hR ?_
      refine AnyK.move (i := 2) may_o (v := strV [x0, x1, x2, x3, x4, x5, x6]) (by simp [yy6]) hR ?_
      refine AnyK.indexV (i := 3) may_o (u := strV [x0, x1, x2, x3, x4, x5, x6]) (u' := .int .i64 (3)) (v := u8V x3) (by simp [hz_b4]) (by simp) (fun w => ix9 (k := 3) rfl w) hR ?_
      refine AnyK.bin (i := 4) may_o (u := u8V x3) (u' := .int .u8 48) (v := .int .u8 (dig x3 : Int)) (by simp [hz_b4]) (by simp) (fun w => subu8 x3 w) hR ?_
      refine AnyK.conv (i := 5) may_o (u := .int .u8 (dig x3 : Int)) (v := .int .i64 (dig x3 : Int)) (by simp [hz_b4]) (fun w => cv53 (by omega) (by omega) w) hR ?_
      refine AnyK.move (i := 6) may_o (v := strV [x0, x1, x2, x3, x4, x5, x6]) (by simp [yy6]) hR ?_
      refine AnyK.indexV (i := 7) may_o (u := strV [x0, x1, x2, x3, x4, x5, x6]) (u' := .int .i64 (4)) (v := u8V x4) (by simp [hz_b4]) (by simp) (fun w => ix9 (k := 4) rfl w) hR ?_
      refine AnyK.bin (i := 8) may_o (u := u8V x4) (u' := .int .u8 48) (v := .int .u8 (dig x4 : Int)) (by simp [hz_b4]) (by simp) (fun w => subu8 x4 w) hR ?_
      refine AnyK.conv (i := 9) may_o (u := .int .u8 (dig x4 : Int)) (v := .int .i64 (dig x4 : Int)) (by simp [hz_b4]) (fun w => cv53 (by omega) (by omega) w) hR ?_
      refine AnyK.pick1 (i := 1) (by kernel_rfl) ?_
      refine StepK.call (i := 1) (f := 65) (vs := #[strV [x0, x1, x2, x3, x4, x5, x6], .int .i64 (1)]) rfl (enters_of Try.func65 (by kernel_rfl) rfl) rfl (by simp [hz_b4]) ((num_any [x0, x1, x2, x3, x4, x5, x6] 1 x1 x2 rfl rfl (by omega) _).mono ?_)
      rintro _ V1 ⟨rfl, hb1⟩
      replace hR : (fun w : World => Below W1.heap.size W1 w) V1 := hR.trans (hb1.mono hR.size)
      refine ⟨_, rfl, fun _ _ => hR, ?_⟩
      refine AnyK.assign (i := 10) may_o (v := .int .i64 (num2 x1 x2 : Int)) (by simp [hz_b4]) hR ?_
      refine AnyK.assign (i := 11) may_o (v := .int .i64 (dig x3 : Int)) (by simp [hz_b4]) hR ?_
      refine AnyK.assign (i := 12) may_o (v := .int .i64 (dig x4 : Int)) (by simp [hz_b4]) hR ?_
      refine AnyK.done (by kernel_rfl) ?_
      refine wpIn_ret ?_
      refine bodyPost_ret (v := hdT (headG L)) ?_ (by simp only [defers_put, hd_b4]) ⟨rfl, hR⟩
      rw [hh, show hdT (headOf [x0, x1, x2, x3, x4, x5, x6]) = .tuple #[.int .i64 (num2 x1 x2 : Int), .int .i64 (dig x3 : Int), .int .i64 (dig x4 : Int)] from rfl]
      exact res3n Try.results62 (by simp [hz_b4]) (by simp [hz_b4]) (by simp [hz_b4])
    · rw [decide_eq_false h72]
      refine wpIn_cond (t := false) (by simp [hz_b3]) (wpIn_skip ?_)
      generalize hA : Act.put _ _ _ = b4
      have hz_b4 : b4.tmps.size = 30 := by rw [← hA]; simp only [size_put, hz_b3]
      have yy0 : b4.eval (.tmp 0) = .slice (some ⟨gb, off, none⟩) L.length c := by rw [← hA]; exact (by simp [q0])
      have yy5 : b4.eval (.tmp 5) = .int .i64 (i : Int) := by rw [← hA]; exact (by simp [q5])
      have hd_b4 : b4.defers = [] := by rw [← hA]; simp only [defers_put, hd_b3]
      clear hA
      refine region_p 3 ?_
      intro K hK
      refine ListK.move (i := 0) (v := .int .i64 (i : Int)) rfl (by simp [yy5]) ?_
      refine ListK.bin (i := 1) (u := .int .i64 (i : Int)) (u' := .int .i64 1) (v := .int .i64 ((i + 1 : Nat) : Int)) rfl (by simp [hz_b4]) (by simp) (add3 (by omega) (by omega) _) ?_
      refine ListK.assign (i := 2) (v := .int .i64 ((i + 1 : Nat) : Int)) rfl (by simp [hz_b4]) ?_
      refine ListK.done (hK _ _ ?_)
      clear hK K
      refine ⟨⟨i + 1, rfl, by omega, fun j y hj hy => ?_, (by simp only [size_put, hz_b4]), (by simp only [defers_put, hd_b4]), (by simp [yy0]), (by simp [hz_b4])⟩, ?_⟩
      · by_cases hji : j = i
        · subst hji
          rw [hx] at hy
          cases hy
          simpa using h72
        · exact hno j y (by omega) hy
      · rw [s5, show (Act.put _ _ _).eval (.tmp 5) = .int .i64 ((i + 1 : Nat) : Int) from (by simp [hz_b4])]
        simp only [intOf]
        omega
  · have hie : i = L.length := by omega
    refine wpIn_seq (wpIn_seq (region_p 4 ?_))
    intro K hK
    refine ListK.move (i := 0) (v := .int .i64 (i : Int)) rfl (by simp [s5]) ?_
    refine ListK.move (i := 1) (v := .slice A L.length c) rfl (by simp [s0]) ?_
    refine ListK.len (i := 2) (u := .slice A L.length c) (v := .int .i64 L.length) rfl (by simp [hz_b1]) (ln36 _ _ _ _ _) rfl ?_
    refine ListK.bin (i := 3) (u := .int .i64 (i : Int)) (u' := .int .i64 L.length) (v := .bool false) rfl (by simp [hz_b1]) (by simp [hz_b1]) (lssF3 (by omega) _) ?_
    refine ListK.done (hK _ _ ?_)
    clear hK K
    refine wpIn_cond (t := false) (by simp [hz_b1]) (wpIn_exit ?_)
    show (Code.wpIn _ _ _ (Code.seq _ _) _ _ _)
    rw [hie] at hno
    refine wpIn_seq (region_p 3 ?_)
    intro K hK
    refine ListK.assign (i := 0) (v := .int .i64 0) rfl (by simp) ?_
    refine ListK.assign (i := 1) (v := .int .i64 0) rfl (by simp) ?_
    refine ListK.assign (i := 2) (v := .int .i64 0) rfl (by simp) ?_
    refine ListK.done (hK _ _ (wpIn_ret ?_))
    refine bodyPost_ret (v := hdT (headG L)) ?_ (by simp only [defers_put, hd_b1]) ⟨rfl, Below.refl _ _⟩
    rw [headG_none hno]
    exact res3n Try.results62 (by simp [hz_b1]) (by simp [hz_b1]) (by simp [hz_b1])
end
theorem outOf_of {H : Head} {r : List UInt8} {nm : UInt8 × Nat} (hn : nameOf r = nm) : outOf H r = ((nm.1 == 82 && decide (H.many ≤ nm.2)) || (nm.1 == 80 && decide (H.blocks ≤ nm.2))) := by
  subst hn
  rfl
noncomputable def opsCo0 : Array Oper := (Try.f61.body.bind (regionOf 0)).getD #[]
noncomputable def opsCo1 : Array Oper := (Try.f61.body.bind (regionOf 1)).getD #[]
noncomputable def opsCo2 : Array Oper := (Try.f61.body.bind (regionOf 2)).getD #[]
noncomputable def opsCo3 : Array Oper := (Try.f61.body.bind (regionOf 3)).getD #[]
noncomputable def opsCo4 : Array Oper := (Try.f61.body.bind (regionOf 4)).getD #[]
noncomputable def opsCo5 : Array Oper := (Try.f61.body.bind (regionOf 5)).getD #[]
noncomputable def opsCo6 : Array Oper := (Try.f61.body.bind (regionOf 6)).getD #[]
noncomputable def opsCo7 : Array Oper := (Try.f61.body.bind (regionOf 7)).getD #[]
noncomputable def opsCo8 : Array Oper := (Try.f61.body.bind (regionOf 8)).getD #[]
noncomputable def opsCo9 : Array Oper := (Try.f61.body.bind (regionOf 9)).getD #[]
noncomputable def opsCo10 : Array Oper := (Try.f61.body.bind (regionOf 10)).getD #[]
noncomputable def opsCo11 : Array Oper := (Try.f61.body.bind (regionOf 11)).getD #[]
noncomputable def opsCo12 : Array Oper := (Try.f61.body.bind (regionOf 12)).getD #[]
noncomputable def opsCo13 : Array Oper := (Try.f61.body.bind (regionOf 13)).getD #[]
noncomputable def opsCo14 : Array Oper := (Try.f61.body.bind (regionOf 14)).getD #[]
noncomputable def co_k : Code := (.seq (.seq (.region 7 opsCo7 false) (.cond (.tmp 28) .skip (.exit 2))) (.seq (.block 3 (.seq (.region 9 opsCo9 false) (.seq (.region 10 opsCo10 true) (.cond (.tmp 56) (.seq (.region 11 opsCo11 false) .ret) .skip)))) (.region 8 opsCo8 false)))
noncomputable def co_c : Code := (.seq (.region 12 opsCo12 false) (.cond (.tmp 82) (.seq (.region 13 opsCo13 false) .ret) .skip))
noncomputable def co_b : Code := (.seq (.seq (.region 6 opsCo6 false) (.block 2 (.loop co_k))) co_c)
noncomputable def co_l : Code := (.seq (.seq (.region 3 opsCo3 false) (.cond (.tmp 19) .skip (.exit 0))) (.seq (.block 1 (.seq (.region 5 opsCo5 false) co_b)) (.region 4 opsCo4 false)))
noncomputable def code61 : Code := (.seq (.region 0 opsCo0 false) (.seq (.region 1 opsCo1 false) (.seq (.seq (.region 2 opsCo2 false) (.block 0 (.loop co_l))) (.seq (.region 14 opsCo14 false) .ret))))
theorem body61 : Try.f61.body = some code61 := by kernel_rfl
section
attribute [local irreducible] AnyK StepK
variable {p0 p1 p2 p3 p4 p5 p6 q0 q1 q2 q3 q4 q5 q6 : UInt8} {A : Option Addr} {n c i k : Nat} {H : Head}
set_option maxHeartbeats 400000 in
theorem co_10_any {a : Act} {W : World} {Q : Exit → Act → World → Prop}
    (hz : a.tmps.size = 83) (hd_a : a.defers = []) (t0 : a.eval (.tmp 0) = .slice A n c) (t3 : a.eval (.tmp 3) = .int .i64 (H.many : Int)) (t4 : a.eval (.tmp 4) = .int .i64 (H.width : Int)) (t6 : a.eval (.tmp 6) = .int .i64 (i : Int)) (t7 : a.eval (.tmp 7) = strV [p0, p1, p2, p3, p4, p5, p6]) (t8 : a.eval (.tmp 8) = .int .i64 (k : Int)) (t9 : a.eval (.tmp 9) = strV [q0, q1, q2, q3, q4, q5, q6])
    (hQ : ∀ (b : Act) (W' : World), Below W.heap.size W W' → b.tmps.size = 83 → b.defers = [] → b.eval (.tmp 0) = .slice A n c → b.eval (.tmp 3) = .int .i64 (H.many : Int) → b.eval (.tmp 4) = .int .i64 (H.width : Int) → b.eval (.tmp 6) = .int .i64 (i : Int) → b.eval (.tmp 7) = strV [p0, p1, p2, p3, p4, p5, p6] → b.eval (.tmp 8) = .int .i64 (k : Int) → b.eval (.tmp 56) = .bool (confl [p0, p1, p2, p3, p4, p5, p6] [q0, q1, q2, q3, q4, q5, q6]) → Q .normal b W') :
    (Code.region 10 opsCo10 true).wpIn Fence.wide 5 Try.prog Q a W := by
  have hcf : confl [p0, p1, p2, p3, p4, p5, p6] [q0, q1, q2, q3, q4, q5, q6] = ((decide (p0 = q0) && !decide ([p0, p1, p2, p3, p4, p5, p6] = [q0, q1, q2, q3, q4, q5, q6])) && (decide (p0 = 72) || decide ([p0, p1, p2, p3, p4, p5, p6].take 3 = [q0, q1, q2, q3, q4, q5, q6].take 3))) := by
    unfold confl
    rw [Bool.eq_iff_iff]
    simp
  by_cases h1 : p0 = q0
  · have e1 := decide_eq_true h1
    by_cases h2 : [p0, p1, p2, p3, p4, p5, p6] = [q0, q1, q2, q3, q4, q5, q6]
    · have e2 : (!decide ([p0, p1, p2, p3, p4, p5, p6] = [q0, q1, q2, q3, q4, q5, q6])) = false := by rw [decide_eq_true h2]; rfl
      rw [e1, e2] at hcf
      refine region_K (KpR (fun w : World => Below W.heap.size W w) (fun _ => false)) (wideF_plain _) (by kernel_rfl) Try.mixed ?_
      change AnyK _ _ _ _ 22 (Array.replicate 22 false) _ _
      have hR : (fun w : World => Below W.heap.size W w) W.drew := (Below.refl W.heap.size W).drew
      refine AnyK.move (i := 0) may_o (v := strV [p0, p1, p2, p3, p4, p5, p6]) (by simp [t7]) hR ?_
      refine AnyK.indexV (i := 1) may_o (u := strV [p0, p1, p2, p3, p4, p5, p6]) (u' := .int .i64 (0)) (v := u8V p0) (by simp [hz]) (by simp) (fun w => ix9 (k := 0) rfl w) hR ?_
      refine AnyK.move (i := 2) may_o (v := strV [q0, q1, q2, q3, q4, q5, q6]) (by simp [t9]) hR ?_
      refine AnyK.indexV (i := 3) may_o (u := strV [q0, q1, q2, q3, q4, q5, q6]) (u' := .int .i64 (0)) (v := u8V q0) (by simp [hz]) (by simp) (fun w => ix9 (k := 0) rfl w) hR ?_
      refine AnyK.bin (i := 4) may_o (u := u8V p0) (u' := u8V q0) (v := .bool true) (by simp [hz]) (by simp [hz]) (fun w => by rw [← e1]; exact eql5n p0 q0 w) hR ?_
      refine AnyK.move (i := 5) may_o (v := .bool true) (by simp [hz]) hR ?_
      refine AnyK.move (i := 6) may_o (v := strV [p0, p1, p2, p3, p4, p5, p6]) (by simp [t7]) hR (hw := (by exact wanted_g (e := 40) (b' := true) rfl (by simp [hz]) rfl)) ?_
      refine AnyK.move (i := 7) may_o (v := strV [q0, q1, q2, q3, q4, q5, q6]) (by simp [t9]) hR (hw := (by exact wanted_g (e := 40) (b' := true) rfl (by simp [hz]) rfl)) ?_
      refine AnyK.bin (i := 8) may_o (u := strV [p0, p1, p2, p3, p4, p5, p6]) (u' := strV [q0, q1, q2, q3, q4, q5, q6]) (v := .bool false) (by simp [hz]) (by simp [hz]) (fun w => by rw [← e2]; exact neq9n _ _ w) hR (hw := (by exact wanted_g (e := 40) (b' := true) rfl (by simp [hz]) rfl)) ?_
      refine AnyK.pick (i := 9) may_o (b := true) (v := .bool false) (by simp [hz]) (by simp [hz]) hR ?_
      refine AnyK.move (i := 10) may_o (v := .bool false) (by simp [hz]) hR ?_
      refine AnyK.passG (i := 11) may_o (e := 45) (b' := false) rfl (by simp [hz]) rfl hR ?_
      refine AnyK.passG (i := 12) may_o (e := 45) (b' := false) rfl (by simp [hz]) rfl hR ?_
      refine AnyK.passG (i := 13) may_o (e := 45) (b' := false) rfl (by simp [hz]) rfl hR ?_
      refine AnyK.passG (i := 14) may_o (e := 45) (b' := false) rfl (by simp [hz]) rfl hR ?_
      refine AnyK.passU (i := 15) may_o (e := 49) rfl (by simp [hz]) hR ?_
      refine AnyK.passU (i := 16) may_o (e := 49) rfl (by simp [hz]) hR ?_
      refine AnyK.passU (i := 17) may_o (e := 49) rfl (by simp [hz]) hR ?_
      refine AnyK.passU (i := 18) may_o (e := 49) rfl (by simp [hz]) hR ?_
      refine AnyK.passU (i := 19) may_o (e := 49) rfl (by simp [hz]) hR ?_
      refine AnyK.passG (i := 20) may_o (e := 45) (b' := false) rfl (by simp [hz]) rfl hR ?_
      refine AnyK.pick (i := 21) may_o (b := false) (v := .bool false) (by simp [hz]) (by simp) hR ?_
      refine AnyK.done (by kernel_rfl) ?_
      exact hQ _ _ hR (by simp only [size_put, hz]) (by simp only [defers_put, hd_a]) (by simp [t0]) (by simp [t3]) (by simp [t4]) (by simp [t6]) (by simp [t7]) (by simp [t8]) (by rw [hcf]; exact (by simp [hz]))
    · have e2 : (!decide ([p0, p1, p2, p3, p4, p5, p6] = [q0, q1, q2, q3, q4, q5, q6])) = true := by rw [decide_eq_false h2]; rfl
      by_cases h3 : p0 = 72
      · have e3 := decide_eq_true h3
        rw [e1, e2, e3] at hcf
        refine region_K (KpR (fun w : World => Below W.heap.size W w) (fun _ => false)) (wideF_plain _) (by kernel_rfl) Try.mixed ?_
        change AnyK _ _ _ _ 22 (Array.replicate 22 false) _ _
        have hR : (fun w : World => Below W.heap.size W w) W.drew := (Below.refl W.heap.size W).drew
        refine AnyK.move (i := 0) may_o (v := strV [p0, p1, p2, p3, p4, p5, p6]) (by simp [t7]) hR ?_
        refine AnyK.indexV (i := 1) may_o (u := strV [p0, p1, p2, p3, p4, p5, p6]) (u' := .int .i64 (0)) (v := u8V p0) (by simp [hz]) (by simp) (fun w => ix9 (k := 0) rfl w) hR ?_
        refine AnyK.move (i := 2) may_o (v := strV [q0, q1, q2, q3, q4, q5, q6]) (by simp [t9]) hR ?_
        refine AnyK.indexV (i := 3) may_o (u := strV [q0, q1, q2, q3, q4, q5, q6]) (u' := .int .i64 (0)) (v := u8V q0) (by simp [hz]) (by simp) (fun w => ix9 (k := 0) rfl w) hR ?_
        refine AnyK.bin (i := 4) may_o (u := u8V p0) (u' := u8V q0) (v := .bool true) (by simp [hz]) (by simp [hz]) (fun w => by rw [← e1]; exact eql5n p0 q0 w) hR ?_
        refine AnyK.move (i := 5) may_o (v := .bool true) (by simp [hz]) hR ?_
        refine AnyK.move (i := 6) may_o (v := strV [p0, p1, p2, p3, p4, p5, p6]) (by simp [t7]) hR (hw := (by exact wanted_g (e := 40) (b' := true) rfl (by simp [hz]) rfl)) ?_
        refine AnyK.move (i := 7) may_o (v := strV [q0, q1, q2, q3, q4, q5, q6]) (by simp [t9]) hR (hw := (by exact wanted_g (e := 40) (b' := true) rfl (by simp [hz]) rfl)) ?_
        refine AnyK.bin (i := 8) may_o (u := strV [p0, p1, p2, p3, p4, p5, p6]) (u' := strV [q0, q1, q2, q3, q4, q5, q6]) (v := .bool true) (by simp [hz]) (by simp [hz]) (fun w => by rw [← e2]; exact neq9n _ _ w) hR (hw := (by exact wanted_g (e := 40) (b' := true) rfl (by simp [hz]) rfl)) ?_
        refine AnyK.pick (i := 9) may_o (b := true) (v := .bool true) (by simp [hz]) (by simp [hz]) hR ?_
        refine AnyK.move (i := 10) may_o (v := .bool true) (by simp [hz]) hR ?_
        refine AnyK.move (i := 11) may_o (v := strV [p0, p1, p2, p3, p4, p5, p6]) (by simp [t7]) hR (hw := (by exact wanted_g (e := 45) (b' := true) rfl (by simp [hz]) rfl)) ?_
        refine AnyK.indexV (i := 12) may_o (u := strV [p0, p1, p2, p3, p4, p5, p6]) (u' := .int .i64 (0)) (v := u8V p0) (by simp [hz]) (by simp) (fun w => ix9 (k := 0) rfl w) hR (hw := (by exact wanted_g (e := 45) (b' := true) rfl (by simp [hz]) rfl)) ?_
        refine AnyK.bin (i := 13) may_o (u := u8V p0) (u' := .int .u8 72) (v := .bool true) (by simp [hz]) (by simp) (fun w => by rw [← e3]; exact eql5n p0 72 w) hR (hw := (by exact wanted_g (e := 45) (b' := true) rfl (by simp [hz]) rfl)) ?_
        refine AnyK.move (i := 14) may_o (v := .bool true) (by simp [hz]) hR (hw := (by exact wanted_g (e := 45) (b' := true) rfl (by simp [hz]) rfl)) ?_
        refine AnyK.passG (i := 15) may_o (e := 49) (b' := true) rfl (by simp [hz]) rfl hR ?_
        refine AnyK.passG (i := 16) may_o (e := 49) (b' := true) rfl (by simp [hz]) rfl hR ?_
        refine AnyK.passG (i := 17) may_o (e := 49) (b' := true) rfl (by simp [hz]) rfl hR ?_
        refine AnyK.passG (i := 18) may_o (e := 49) (b' := true) rfl (by simp [hz]) rfl hR ?_
        refine AnyK.passG (i := 19) may_o (e := 49) (b' := true) rfl (by simp [hz]) rfl hR ?_
        refine AnyK.pick (i := 20) may_o (b := true) (v := .bool true) (by simp [hz]) (by simp) hR (hw := (by exact wanted_g (e := 45) (b' := true) rfl (by simp [hz]) rfl)) ?_
        refine AnyK.pick (i := 21) may_o (b := true) (v := .bool true) (by simp [hz]) (by simp [hz]) hR ?_
        refine AnyK.done (by kernel_rfl) ?_
        exact hQ _ _ hR (by simp only [size_put, hz]) (by simp only [defers_put, hd_a]) (by simp [t0]) (by simp [t3]) (by simp [t4]) (by simp [t6]) (by simp [t7]) (by simp [t8]) (by rw [hcf]; exact (by simp [hz]))
      · have e3 := decide_eq_false h3
        rw [e1, e2, e3, Bool.true_and, Bool.true_and, Bool.false_or] at hcf
        refine region_K (KpR (fun w : World => Below W.heap.size W w) (fun _ => false)) (wideF_plain _) (by kernel_rfl) Try.mixed ?_
        change AnyK _ _ _ _ 22 (Array.replicate 22 false) _ _
        have hR : (fun w : World => Below W.heap.size W w) W.drew := (Below.refl W.heap.size W).drew
        refine AnyK.move (i := 0) may_o (v := strV [p0, p1, p2, p3, p4, p5, p6]) (by simp [t7]) hR ?_
        refine AnyK.indexV (i := 1) may_o (u := strV [p0, p1, p2, p3, p4, p5, p6]) (u' := .int .i64 (0)) (v := u8V p0) (by simp [hz]) (by simp) (fun w => ix9 (k := 0) rfl w) hR ?_
        refine AnyK.move (i := 2) may_o (v := strV [q0, q1, q2, q3, q4, q5, q6]) (by simp [t9]) hR ?_
        refine AnyK.indexV (i := 3) may_o (u := strV [q0, q1, q2, q3, q4, q5, q6]) (u' := .int .i64 (0)) (v := u8V q0) (by simp [hz]) (by simp) (fun w => ix9 (k := 0) rfl w) hR ?_
        refine AnyK.bin (i := 4) may_o (u := u8V p0) (u' := u8V q0) (v := .bool true) (by simp [hz]) (by simp [hz]) (fun w => by rw [← e1]; exact eql5n p0 q0 w) hR ?_
        refine AnyK.move (i := 5) may_o (v := .bool true) (by simp [hz]) hR ?_
        refine AnyK.move (i := 6) may_o (v := strV [p0, p1, p2, p3, p4, p5, p6]) (by simp [t7]) hR (hw := (by exact wanted_g (e := 40) (b' := true) rfl (by simp [hz]) rfl)) ?_
        refine AnyK.move (i := 7) may_o (v := strV [q0, q1, q2, q3, q4, q5, q6]) (by simp [t9]) hR (hw := (by exact wanted_g (e := 40) (b' := true) rfl (by simp [hz]) rfl)) ?_
        refine AnyK.bin (i := 8) may_o (u := strV [p0, p1, p2, p3, p4, p5, p6]) (u' := strV [q0, q1, q2, q3, q4, q5, q6]) (v := .bool true) (by simp [hz]) (by simp [hz]) (fun w => by rw [← e2]; exact neq9n _ _ w) hR (hw := (by exact wanted_g (e := 40) (b' := true) rfl (by simp [hz]) rfl)) ?_
        refine AnyK.pick (i := 9) may_o (b := true) (v := .bool true) (by simp [hz]) (by simp [hz]) hR ?_
        refine AnyK.move (i := 10) may_o (v := .bool true) (by simp [hz]) hR ?_
        refine AnyK.move (i := 11) may_o (v := strV [p0, p1, p2, p3, p4, p5, p6]) (by simp [t7]) hR (hw := (by exact wanted_g (e := 45) (b' := true) rfl (by simp [hz]) rfl)) ?_
        refine AnyK.indexV (i := 12) may_o (u := strV [p0, p1, p2, p3, p4, p5, p6]) (u' := .int .i64 (0)) (v := u8V p0) (by simp [hz]) (by simp) (fun w => ix9 (k := 0) rfl w) hR (hw := (by exact wanted_g (e := 45) (b' := true) rfl (by simp [hz]) rfl)) ?_
        refine AnyK.bin (i := 13) may_o (u := u8V p0) (u' := .int .u8 72) (v := .bool false) (by simp [hz]) (by simp) (fun w => by rw [← e3]; exact eql5n p0 72 w) hR (hw := (by exact wanted_g (e := 45) (b' := true) rfl (by simp [hz]) rfl)) ?_
        refine AnyK.move (i := 14) may_o (v := .bool false) (by simp [hz]) hR (hw := (by exact wanted_g (e := 45) (b' := true) rfl (by simp [hz]) rfl)) ?_
        refine AnyK.move (i := 15) may_o (v := strV [p0, p1, p2, p3, p4, p5, p6]) (by simp [t7]) hR (hw := (by exact wanted_g (e := 49) (b' := false) rfl (by simp [hz]) rfl)) ?_
        refine AnyK.sliceH (i := 16) may_o (u := strV [p0, p1, p2, p3, p4, p5, p6]) (u' := .int .i64 (3)) (v := strV ([p0, p1, p2, p3, p4, p5, p6].take 3)) (by simp [hz]) (by simp) (fun w => sl9H (l := [p0, p1, p2, p3, p4, p5, p6]) (a := 3) (by simp) w) hR (hw := (by exact wanted_g (e := 49) (b' := false) rfl (by simp [hz]) rfl)) ?_
        refine AnyK.move (i := 17) may_o (v := strV [q0, q1, q2, q3, q4, q5, q6]) (by simp [t9]) hR (hw := (by exact wanted_g (e := 49) (b' := false) rfl (by simp [hz]) rfl)) ?_
        refine AnyK.sliceH (i := 18) may_o (u := strV [q0, q1, q2, q3, q4, q5, q6]) (u' := .int .i64 (3)) (v := strV ([q0, q1, q2, q3, q4, q5, q6].take 3)) (by simp [hz]) (by simp) (fun w => sl9H (l := [q0, q1, q2, q3, q4, q5, q6]) (a := 3) (by simp) w) hR (hw := (by exact wanted_g (e := 49) (b' := false) rfl (by simp [hz]) rfl)) ?_
        refine AnyK.bin (i := 19) may_o (u := strV ([p0, p1, p2, p3, p4, p5, p6].take 3)) (u' := strV ([q0, q1, q2, q3, q4, q5, q6].take 3)) (v := .bool (decide ([p0, p1, p2, p3, p4, p5, p6].take 3 = [q0, q1, q2, q3, q4, q5, q6].take 3))) (by simp [hz]) (by simp [hz]) (fun w => eql9n _ _ w) hR (hw := (by exact wanted_g (e := 49) (b' := false) rfl (by simp [hz]) rfl)) ?_
        refine AnyK.pick (i := 20) may_o (b := false) (v := .bool (decide ([p0, p1, p2, p3, p4, p5, p6].take 3 = [q0, q1, q2, q3, q4, q5, q6].take 3))) (by simp [hz]) (by simp [hz]) hR (hw := (by exact wanted_g (e := 45) (b' := true) rfl (by simp [hz]) rfl)) ?_
        refine AnyK.pick (i := 21) may_o (b := true) (v := .bool (decide ([p0, p1, p2, p3, p4, p5, p6].take 3 = [q0, q1, q2, q3, q4, q5, q6].take 3))) (by simp [hz]) (by simp [hz]) hR ?_
        refine AnyK.done (by kernel_rfl) ?_
        exact hQ _ _ hR (by simp only [size_put, hz]) (by simp only [defers_put, hd_a]) (by simp [t0]) (by simp [t3]) (by simp [t4]) (by simp [t6]) (by simp [t7]) (by simp [t8]) (by rw [hcf]; exact (by simp [hz]))
  · have e1 := decide_eq_false h1
    rw [e1] at hcf
    refine region_K (KpR (fun w : World => Below W.heap.size W w) (fun _ => false)) (wideF_plain _) (by kernel_rfl) Try.mixed ?_
    change AnyK _ _ _ _ 22 (Array.replicate 22 false) _ _
    have hR : (fun w : World => Below W.heap.size W w) W.drew := (Below.refl W.heap.size W).drew
    refine AnyK.move (i := 0) may_o (v := strV [p0, p1, p2, p3, p4, p5, p6]) (by simp [t7]) hR ?_
    refine AnyK.indexV (i := 1) may_o (u := strV [p0, p1, p2, p3, p4, p5, p6]) (u' := .int .i64 (0)) (v := u8V p0) (by simp [hz]) (by simp) (fun w => ix9 (k := 0) rfl w) hR ?_
    refine AnyK.move (i := 2) may_o (v := strV [q0, q1, q2, q3, q4, q5, q6]) (by simp [t9]) hR ?_
    refine AnyK.indexV (i := 3) may_o (u := strV [q0, q1, q2, q3, q4, q5, q6]) (u' := .int .i64 (0)) (v := u8V q0) (by simp [hz]) (by simp) (fun w => ix9 (k := 0) rfl w) hR ?_
    refine AnyK.bin (i := 4) may_o (u := u8V p0) (u' := u8V q0) (v := .bool false) (by simp [hz]) (by simp [hz]) (fun w => by rw [← e1]; exact eql5n p0 q0 w) hR ?_
    refine AnyK.move (i := 5) may_o (v := .bool false) (by simp [hz]) hR ?_
    refine AnyK.passG (i := 6) may_o (e := 40) (b' := false) rfl (by simp [hz]) rfl hR ?_
    refine AnyK.passG (i := 7) may_o (e := 40) (b' := false) rfl (by simp [hz]) rfl hR ?_
    refine AnyK.passG (i := 8) may_o (e := 40) (b' := false) rfl (by simp [hz]) rfl hR ?_
    refine AnyK.pick (i := 9) may_o (b := false) (v := .bool false) (by simp [hz]) (by simp) hR ?_
    refine AnyK.move (i := 10) may_o (v := .bool false) (by simp [hz]) hR ?_
    refine AnyK.passG (i := 11) may_o (e := 45) (b' := false) rfl (by simp [hz]) rfl hR ?_
    refine AnyK.passG (i := 12) may_o (e := 45) (b' := false) rfl (by simp [hz]) rfl hR ?_
    refine AnyK.passG (i := 13) may_o (e := 45) (b' := false) rfl (by simp [hz]) rfl hR ?_
    refine AnyK.passG (i := 14) may_o (e := 45) (b' := false) rfl (by simp [hz]) rfl hR ?_
    refine AnyK.passU (i := 15) may_o (e := 49) rfl (by simp [hz]) hR ?_
    refine AnyK.passU (i := 16) may_o (e := 49) rfl (by simp [hz]) hR ?_
    refine AnyK.passU (i := 17) may_o (e := 49) rfl (by simp [hz]) hR ?_
    refine AnyK.passU (i := 18) may_o (e := 49) rfl (by simp [hz]) hR ?_
    refine AnyK.passU (i := 19) may_o (e := 49) rfl (by simp [hz]) hR ?_
    refine AnyK.passG (i := 20) may_o (e := 45) (b' := false) rfl (by simp [hz]) rfl hR ?_
    refine AnyK.pick (i := 21) may_o (b := false) (v := .bool false) (by simp [hz]) (by simp) hR ?_
    refine AnyK.done (by kernel_rfl) ?_
    exact hQ _ _ hR (by simp only [size_put, hz]) (by simp only [defers_put, hd_a]) (by simp [t0]) (by simp [t3]) (by simp [t4]) (by simp [t6]) (by simp [t7]) (by simp [t8]) (by rw [hcf]; exact (by simp [hz]))
set_option maxHeartbeats 400000 in
theorem co_12_any {a : Act} {W : World} {Q : Exit → Act → World → Prop} (hH : 0 < H.many → HeadB H) (h0 : p0 = 72 ∨ p0 = 82 ∨ p0 = 80)
    (hz : a.tmps.size = 83) (hd_a : a.defers = []) (t0 : a.eval (.tmp 0) = .slice A n c) (t3 : a.eval (.tmp 3) = .int .i64 (H.many : Int)) (t4 : a.eval (.tmp 4) = .int .i64 (H.width : Int)) (t6 : a.eval (.tmp 6) = .int .i64 (i : Int)) (t7 : a.eval (.tmp 7) = strV [p0, p1, p2, p3, p4, p5, p6])
    (hQ : ∀ (b : Act) (W' : World), Below W.heap.size W W' → b.tmps.size = 83 → b.defers = [] → b.eval (.tmp 0) = .slice A n c → b.eval (.tmp 3) = .int .i64 (H.many : Int) → b.eval (.tmp 4) = .int .i64 (H.width : Int) → b.eval (.tmp 6) = .int .i64 (i : Int) → b.eval (.tmp 82) = .bool (pastG H [p0, p1, p2, p3, p4, p5, p6]) → Q .normal b W') :
    (Code.region 12 opsCo12 false).wpIn Fence.wide 5 Try.prog Q a W := by
  by_cases hm : 0 < H.many
  · have hh := hH hm
    have hm1 := hh.many
    have hw1 := hh.width
    have hpg : pastG H [p0, p1, p2, p3, p4, p5, p6] = outOf H [p0, p1, p2, p3, p4, p5, p6] := by unfold pastG; rw [decide_eq_true hm]; rfl
    rcases h0 with h0 | h0 | h0
    · have e1 : decide (p0 = 82) = false := by rw [h0]; rfl
      have e2 : decide (p0 = 80) = false := by rw [h0]; rfl
      have hv : pastG H [p0, p1, p2, p3, p4, p5, p6] = false := by rw [hpg, outOf_of (nm := (72, 0)) (by simp [nameOf, h0])]; rfl
      refine region_p 26 ?_
      intro K hK
      refine ListK.move (i := 0) (v := .int .i64 (H.many : Int)) rfl (by simp [t3]) ?_
      refine ListK.bin (i := 1) (u := .int .i64 (H.many : Int)) (u' := .int .i64 0) (v := .bool true) rfl (by simp [hz]) (by simp) (gtrT3 (by omega) _) ?_
      refine ListK.move (i := 2) (v := .bool true) rfl (by simp [hz]) ?_
      refine ListK.move (i := 3) (v := strV [p0, p1, p2, p3, p4, p5, p6]) rfl (by simp [t7]) ?_ (hw := wanted_g (e := 59) (b' := true) rfl (by simp [hz]) rfl)
      refine ListK.indexVW (i := 4) (u := strV [p0, p1, p2, p3, p4, p5, p6]) (u' := .int .i64 0) (v := u8V p0) rfl (by simp [hz]) (by simp) (ix9 (k := 0) rfl _) ?_ (hw := wanted_g (e := 59) (b' := true) rfl (by simp [hz]) rfl)
      refine ListK.bin (i := 5) (u := u8V p0) (u' := .int .u8 82) (v := .bool false) rfl (by simp [hz]) (by simp) (by rw [← e1]; exact eql5n p0 82 _) ?_ (hw := wanted_g (e := 59) (b' := true) rfl (by simp [hz]) rfl)
      refine ListK.move (i := 6) (v := .bool false) rfl (by simp [hz]) ?_ (hw := wanted_g (e := 59) (b' := true) rfl (by simp [hz]) rfl)
      refine ListK.passG (i := 7) (e := 63) (b' := false) rfl rfl (by simp [hz]) rfl ?_
      refine ListK.passG (i := 8) (e := 63) (b' := false) rfl rfl (by simp [hz]) rfl ?_
      refine ListK.passG (i := 9) (e := 63) (b' := false) rfl rfl (by simp [hz]) rfl ?_
      refine ListK.passG (i := 10) (e := 63) (b' := false) rfl rfl (by simp [hz]) rfl ?_
      refine ListK.pickW (i := 11) (b := false) (v := .bool false) rfl (by simp [hz]) (by simp) ?_ (hw := wanted_g (e := 59) (b' := true) rfl (by simp [hz]) rfl)
      refine ListK.move (i := 12) (v := .bool false) rfl (by simp [hz]) ?_ (hw := wanted_g (e := 59) (b' := true) rfl (by simp [hz]) rfl)
      refine ListK.move (i := 13) (v := strV [p0, p1, p2, p3, p4, p5, p6]) rfl (by simp [t7]) ?_ (hw := wanted_g (e := 69) (b' := false) rfl (by simp [hz]) rfl)
      refine ListK.indexVW (i := 14) (u := strV [p0, p1, p2, p3, p4, p5, p6]) (u' := .int .i64 0) (v := u8V p0) rfl (by simp [hz]) (by simp) (ix9 (k := 0) rfl _) ?_ (hw := wanted_g (e := 69) (b' := false) rfl (by simp [hz]) rfl)
      refine ListK.bin (i := 15) (u := u8V p0) (u' := .int .u8 80) (v := .bool false) rfl (by simp [hz]) (by simp) (by rw [← e2]; exact eql5n p0 80 _) ?_ (hw := wanted_g (e := 69) (b' := false) rfl (by simp [hz]) rfl)
      refine ListK.move (i := 16) (v := .bool false) rfl (by simp [hz]) ?_ (hw := wanted_g (e := 69) (b' := false) rfl (by simp [hz]) rfl)
      refine ListK.passG (i := 17) (e := 73) (b' := false) rfl rfl (by simp [hz]) rfl ?_
      refine ListK.passG (i := 18) (e := 73) (b' := false) rfl rfl (by simp [hz]) rfl ?_
      refine ListK.passG (i := 19) (e := 73) (b' := false) rfl rfl (by simp [hz]) rfl ?_
      refine ListK.passG (i := 20) (e := 73) (b' := false) rfl rfl (by simp [hz]) rfl ?_
      refine ListK.passG (i := 21) (e := 73) (b' := false) rfl rfl (by simp [hz]) rfl ?_
      refine ListK.passG (i := 22) (e := 73) (b' := false) rfl rfl (by simp [hz]) rfl ?_
      refine ListK.pickW (i := 23) (b := false) (v := .bool false) rfl (by simp [hz]) (by simp) ?_ (hw := wanted_g (e := 69) (b' := false) rfl (by simp [hz]) rfl)
      refine ListK.pickW (i := 24) (b := false) (v := .bool false) rfl (by simp [hz]) (by simp [hz]) ?_ (hw := wanted_g (e := 59) (b' := true) rfl (by simp [hz]) rfl)
      refine ListK.pick (i := 25) (b := true) (v := .bool false) rfl (by simp [hz]) (by simp [hz]) ?_
      refine ListK.done (hK _ _ ?_)
      clear hK K
      exact hQ _ _ (Below.refl _ _) (by simp only [size_put, hz]) (by simp only [defers_put, hd_a]) (by simp [t0]) (by simp [t3]) (by simp [t4]) (by simp [t6]) (by rw [hv]; exact (by simp [hz]))
    · have e1 : decide (p0 = 82) = true := by rw [h0]; rfl
      have e2 : decide (p0 = 80) = false := by rw [h0]; rfl
      have hv : pastG H [p0, p1, p2, p3, p4, p5, p6] = decide (H.many ≤ num2 p1 p2) := by rw [hpg, outOf_of (nm := (82, num2 p1 p2)) (by simp [nameOf, h0])]; simp
      by_cases hge : H.many ≤ num2 p1 p2
      · rw [decide_eq_true hge] at hv
        refine region_p 26 ?_
        intro K hK
        refine ListK.move (i := 0) (v := .int .i64 (H.many : Int)) rfl (by simp [t3]) ?_
        refine ListK.bin (i := 1) (u := .int .i64 (H.many : Int)) (u' := .int .i64 0) (v := .bool true) rfl (by simp [hz]) (by simp) (gtrT3 (by omega) _) ?_
        refine ListK.move (i := 2) (v := .bool true) rfl (by simp [hz]) ?_
        refine ListK.move (i := 3) (v := strV [p0, p1, p2, p3, p4, p5, p6]) rfl (by simp [t7]) ?_ (hw := wanted_g (e := 59) (b' := true) rfl (by simp [hz]) rfl)
        refine ListK.indexVW (i := 4) (u := strV [p0, p1, p2, p3, p4, p5, p6]) (u' := .int .i64 0) (v := u8V p0) rfl (by simp [hz]) (by simp) (ix9 (k := 0) rfl _) ?_ (hw := wanted_g (e := 59) (b' := true) rfl (by simp [hz]) rfl)
        refine ListK.bin (i := 5) (u := u8V p0) (u' := .int .u8 82) (v := .bool true) rfl (by simp [hz]) (by simp) (by rw [← e1]; exact eql5n p0 82 _) ?_ (hw := wanted_g (e := 59) (b' := true) rfl (by simp [hz]) rfl)
        refine ListK.move (i := 6) (v := .bool true) rfl (by simp [hz]) ?_ (hw := wanted_g (e := 59) (b' := true) rfl (by simp [hz]) rfl)
        refine ListK.move (i := 7) (v := strV [p0, p1, p2, p3, p4, p5, p6]) rfl (by simp [t7]) ?_ (hw := wanted_g (e := 63) (b' := true) rfl (by simp [hz]) rfl)
        refine ListK.call (i := 8) (vs := #[strV [p0, p1, p2, p3, p4, p5, p6], .int .i64 1]) rfl (enters_of Try.func65 (by kernel_rfl) rfl) (by simp [hz]) ((num_any [p0, p1, p2, p3, p4, p5, p6] 1 p1 p2 rfl rfl (by omega) W).mono ?_) (hw := wanted_g (e := 63) (b' := true) rfl (by simp [hz]) rfl)
        rintro _ W2 ⟨rfl, hb2⟩
        refine ⟨_, rfl, ?_⟩
        refine ListK.move (i := 9) (v := .int .i64 (H.many : Int)) rfl (by simp [t3]) ?_ (hw := wanted_g (e := 63) (b' := true) rfl (by simp [hz]) rfl)
        refine ListK.bin (i := 10) (u := .int .i64 (num2 p1 p2 : Int)) (u' := .int .i64 (H.many : Int)) (v := .bool true) rfl (by simp [hz]) (by simp [hz]) (geqT (by omega) _) ?_ (hw := wanted_g (e := 63) (b' := true) rfl (by simp [hz]) rfl)
        refine ListK.pickW (i := 11) (b := true) (v := .bool true) rfl (by simp [hz]) (by simp [hz]) ?_ (hw := wanted_g (e := 59) (b' := true) rfl (by simp [hz]) rfl)
        refine ListK.move (i := 12) (v := .bool true) rfl (by simp [hz]) ?_ (hw := wanted_g (e := 59) (b' := true) rfl (by simp [hz]) rfl)
        refine ListK.passG (i := 13) (e := 69) (b' := true) rfl rfl (by simp [hz]) rfl ?_
        refine ListK.passG (i := 14) (e := 69) (b' := true) rfl rfl (by simp [hz]) rfl ?_
        refine ListK.passG (i := 15) (e := 69) (b' := true) rfl rfl (by simp [hz]) rfl ?_
        refine ListK.passG (i := 16) (e := 69) (b' := true) rfl rfl (by simp [hz]) rfl ?_
        refine ListK.passU (i := 17) (e := 73) rfl rfl (by simp [hz]) ?_
        refine ListK.passU (i := 18) (e := 73) rfl rfl (by simp [hz]) ?_
        refine ListK.passU (i := 19) (e := 73) rfl rfl (by simp [hz]) ?_
        refine ListK.passU (i := 20) (e := 73) rfl rfl (by simp [hz]) ?_
        refine ListK.passU (i := 21) (e := 73) rfl rfl (by simp [hz]) ?_
        refine ListK.passU (i := 22) (e := 73) rfl rfl (by simp [hz]) ?_
        refine ListK.passG (i := 23) (e := 69) (b' := true) rfl rfl (by simp [hz]) rfl ?_
        refine ListK.pickW (i := 24) (b := true) (v := .bool true) rfl (by simp [hz]) (by simp) ?_ (hw := wanted_g (e := 59) (b' := true) rfl (by simp [hz]) rfl)
        refine ListK.pick (i := 25) (b := true) (v := .bool true) rfl (by simp [hz]) (by simp [hz]) ?_
        refine ListK.done (hK _ _ ?_)
        clear hK K
        exact hQ _ _ hb2 (by simp only [size_put, hz]) (by simp only [defers_put, hd_a]) (by simp [t0]) (by simp [t3]) (by simp [t4]) (by simp [t6]) (by rw [hv]; exact (by simp [hz]))
      · rw [decide_eq_false hge] at hv
        refine region_p 26 ?_
        intro K hK
        refine ListK.move (i := 0) (v := .int .i64 (H.many : Int)) rfl (by simp [t3]) ?_
        refine ListK.bin (i := 1) (u := .int .i64 (H.many : Int)) (u' := .int .i64 0) (v := .bool true) rfl (by simp [hz]) (by simp) (gtrT3 (by omega) _) ?_
        refine ListK.move (i := 2) (v := .bool true) rfl (by simp [hz]) ?_
        refine ListK.move (i := 3) (v := strV [p0, p1, p2, p3, p4, p5, p6]) rfl (by simp [t7]) ?_ (hw := wanted_g (e := 59) (b' := true) rfl (by simp [hz]) rfl)
        refine ListK.indexVW (i := 4) (u := strV [p0, p1, p2, p3, p4, p5, p6]) (u' := .int .i64 0) (v := u8V p0) rfl (by simp [hz]) (by simp) (ix9 (k := 0) rfl _) ?_ (hw := wanted_g (e := 59) (b' := true) rfl (by simp [hz]) rfl)
        refine ListK.bin (i := 5) (u := u8V p0) (u' := .int .u8 82) (v := .bool true) rfl (by simp [hz]) (by simp) (by rw [← e1]; exact eql5n p0 82 _) ?_ (hw := wanted_g (e := 59) (b' := true) rfl (by simp [hz]) rfl)
        refine ListK.move (i := 6) (v := .bool true) rfl (by simp [hz]) ?_ (hw := wanted_g (e := 59) (b' := true) rfl (by simp [hz]) rfl)
        refine ListK.move (i := 7) (v := strV [p0, p1, p2, p3, p4, p5, p6]) rfl (by simp [t7]) ?_ (hw := wanted_g (e := 63) (b' := true) rfl (by simp [hz]) rfl)
        refine ListK.call (i := 8) (vs := #[strV [p0, p1, p2, p3, p4, p5, p6], .int .i64 1]) rfl (enters_of Try.func65 (by kernel_rfl) rfl) (by simp [hz]) ((num_any [p0, p1, p2, p3, p4, p5, p6] 1 p1 p2 rfl rfl (by omega) W).mono ?_) (hw := wanted_g (e := 63) (b' := true) rfl (by simp [hz]) rfl)
        rintro _ W2 ⟨rfl, hb2⟩
        refine ⟨_, rfl, ?_⟩
        refine ListK.move (i := 9) (v := .int .i64 (H.many : Int)) rfl (by simp [t3]) ?_ (hw := wanted_g (e := 63) (b' := true) rfl (by simp [hz]) rfl)
        refine ListK.bin (i := 10) (u := .int .i64 (num2 p1 p2 : Int)) (u' := .int .i64 (H.many : Int)) (v := .bool false) rfl (by simp [hz]) (by simp [hz]) (geqF (by omega) _) ?_ (hw := wanted_g (e := 63) (b' := true) rfl (by simp [hz]) rfl)
        refine ListK.pickW (i := 11) (b := true) (v := .bool false) rfl (by simp [hz]) (by simp [hz]) ?_ (hw := wanted_g (e := 59) (b' := true) rfl (by simp [hz]) rfl)
        refine ListK.move (i := 12) (v := .bool false) rfl (by simp [hz]) ?_ (hw := wanted_g (e := 59) (b' := true) rfl (by simp [hz]) rfl)
        refine ListK.move (i := 13) (v := strV [p0, p1, p2, p3, p4, p5, p6]) rfl (by simp [t7]) ?_ (hw := wanted_g (e := 69) (b' := false) rfl (by simp [hz]) rfl)
        refine ListK.indexVW (i := 14) (u := strV [p0, p1, p2, p3, p4, p5, p6]) (u' := .int .i64 0) (v := u8V p0) rfl (by simp [hz]) (by simp) (ix9 (k := 0) rfl _) ?_ (hw := wanted_g (e := 69) (b' := false) rfl (by simp [hz]) rfl)
        refine ListK.bin (i := 15) (u := u8V p0) (u' := .int .u8 80) (v := .bool false) rfl (by simp [hz]) (by simp) (by rw [← e2]; exact eql5n p0 80 _) ?_ (hw := wanted_g (e := 69) (b' := false) rfl (by simp [hz]) rfl)
        refine ListK.move (i := 16) (v := .bool false) rfl (by simp [hz]) ?_ (hw := wanted_g (e := 69) (b' := false) rfl (by simp [hz]) rfl)
        refine ListK.passG (i := 17) (e := 73) (b' := false) rfl rfl (by simp [hz]) rfl ?_
        refine ListK.passG (i := 18) (e := 73) (b' := false) rfl rfl (by simp [hz]) rfl ?_
        refine ListK.passG (i := 19) (e := 73) (b' := false) rfl rfl (by simp [hz]) rfl ?_
        refine ListK.passG (i := 20) (e := 73) (b' := false) rfl rfl (by simp [hz]) rfl ?_
        refine ListK.passG (i := 21) (e := 73) (b' := false) rfl rfl (by simp [hz]) rfl ?_
        refine ListK.passG (i := 22) (e := 73) (b' := false) rfl rfl (by simp [hz]) rfl ?_
        refine ListK.pickW (i := 23) (b := false) (v := .bool false) rfl (by simp [hz]) (by simp) ?_ (hw := wanted_g (e := 69) (b' := false) rfl (by simp [hz]) rfl)
        refine ListK.pickW (i := 24) (b := false) (v := .bool false) rfl (by simp [hz]) (by simp [hz]) ?_ (hw := wanted_g (e := 59) (b' := true) rfl (by simp [hz]) rfl)
        refine ListK.pick (i := 25) (b := true) (v := .bool false) rfl (by simp [hz]) (by simp [hz]) ?_
        refine ListK.done (hK _ _ ?_)
        clear hK K
        exact hQ _ _ hb2 (by simp only [size_put, hz]) (by simp only [defers_put, hd_a]) (by simp [t0]) (by simp [t3]) (by simp [t4]) (by simp [t6]) (by rw [hv]; exact (by simp [hz]))
    · have e1 : decide (p0 = 82) = false := by rw [h0]; rfl
      have e2 : decide (p0 = 80) = true := by rw [h0]; rfl
      have hv : pastG H [p0, p1, p2, p3, p4, p5, p6] = decide (((H.many + H.width - 1) / H.width : Nat) ≤ num2 p1 p2) := by rw [hpg, outOf_of (nm := (80, num2 p1 p2)) (by simp [nameOf, h0])]; unfold Head.blocks; simp
      have hv2 : decide ((((H.many + H.width - 1) / H.width : Nat) : Int) ≤ (num2 p1 p2 : Int)) = decide (((H.many + H.width - 1) / H.width : Nat) ≤ num2 p1 p2) := decide_eq_decide.2 (by omega)
      rw [← hv2] at hv
      obtain ⟨bl, hbl⟩ : ∃ bl, (H.many + H.width - 1) / H.width = bl := ⟨_, rfl⟩
      rw [hbl] at hv
      refine region_p 26 ?_
      intro K hK
      refine ListK.move (i := 0) (v := .int .i64 (H.many : Int)) rfl (by simp [t3]) ?_
      refine ListK.bin (i := 1) (u := .int .i64 (H.many : Int)) (u' := .int .i64 0) (v := .bool true) rfl (by simp [hz]) (by simp) (gtrT3 (by omega) _) ?_
      refine ListK.move (i := 2) (v := .bool true) rfl (by simp [hz]) ?_
      refine ListK.move (i := 3) (v := strV [p0, p1, p2, p3, p4, p5, p6]) rfl (by simp [t7]) ?_ (hw := wanted_g (e := 59) (b' := true) rfl (by simp [hz]) rfl)
      refine ListK.indexVW (i := 4) (u := strV [p0, p1, p2, p3, p4, p5, p6]) (u' := .int .i64 0) (v := u8V p0) rfl (by simp [hz]) (by simp) (ix9 (k := 0) rfl _) ?_ (hw := wanted_g (e := 59) (b' := true) rfl (by simp [hz]) rfl)
      refine ListK.bin (i := 5) (u := u8V p0) (u' := .int .u8 82) (v := .bool false) rfl (by simp [hz]) (by simp) (by rw [← e1]; exact eql5n p0 82 _) ?_ (hw := wanted_g (e := 59) (b' := true) rfl (by simp [hz]) rfl)
      refine ListK.move (i := 6) (v := .bool false) rfl (by simp [hz]) ?_ (hw := wanted_g (e := 59) (b' := true) rfl (by simp [hz]) rfl)
      refine ListK.passG (i := 7) (e := 63) (b' := false) rfl rfl (by simp [hz]) rfl ?_
      refine ListK.passG (i := 8) (e := 63) (b' := false) rfl rfl (by simp [hz]) rfl ?_
      refine ListK.passG (i := 9) (e := 63) (b' := false) rfl rfl (by simp [hz]) rfl ?_
      refine ListK.passG (i := 10) (e := 63) (b' := false) rfl rfl (by simp [hz]) rfl ?_
      refine ListK.pickW (i := 11) (b := false) (v := .bool false) rfl (by simp [hz]) (by simp) ?_ (hw := wanted_g (e := 59) (b' := true) rfl (by simp [hz]) rfl)
      refine ListK.move (i := 12) (v := .bool false) rfl (by simp [hz]) ?_ (hw := wanted_g (e := 59) (b' := true) rfl (by simp [hz]) rfl)
      refine ListK.move (i := 13) (v := strV [p0, p1, p2, p3, p4, p5, p6]) rfl (by simp [t7]) ?_ (hw := wanted_g (e := 69) (b' := false) rfl (by simp [hz]) rfl)
      refine ListK.indexVW (i := 14) (u := strV [p0, p1, p2, p3, p4, p5, p6]) (u' := .int .i64 0) (v := u8V p0) rfl (by simp [hz]) (by simp) (ix9 (k := 0) rfl _) ?_ (hw := wanted_g (e := 69) (b' := false) rfl (by simp [hz]) rfl)
      refine ListK.bin (i := 15) (u := u8V p0) (u' := .int .u8 80) (v := .bool true) rfl (by simp [hz]) (by simp) (by rw [← e2]; exact eql5n p0 80 _) ?_ (hw := wanted_g (e := 69) (b' := false) rfl (by simp [hz]) rfl)
      refine ListK.move (i := 16) (v := .bool true) rfl (by simp [hz]) ?_ (hw := wanted_g (e := 69) (b' := false) rfl (by simp [hz]) rfl)
      refine ListK.move (i := 17) (v := strV [p0, p1, p2, p3, p4, p5, p6]) rfl (by simp [t7]) ?_ (hw := wanted_g (e := 73) (b' := true) rfl (by simp [hz]) rfl)
      refine ListK.call (i := 18) (vs := #[strV [p0, p1, p2, p3, p4, p5, p6], .int .i64 1]) rfl (enters_of Try.func65 (by kernel_rfl) rfl) (by simp [hz]) ((num_any [p0, p1, p2, p3, p4, p5, p6] 1 p1 p2 rfl rfl (by omega) W).mono ?_) (hw := wanted_g (e := 73) (b' := true) rfl (by simp [hz]) rfl)
      rintro _ W2 ⟨rfl, hb2⟩
      refine ⟨_, rfl, ?_⟩
      refine ListK.move (i := 19) (v := .int .i64 (H.many : Int)) rfl (by simp [t3]) ?_ (hw := wanted_g (e := 73) (b' := true) rfl (by simp [hz]) rfl)
      refine ListK.move (i := 20) (v := .int .i64 (H.width : Int)) rfl (by simp [t4]) ?_ (hw := wanted_g (e := 73) (b' := true) rfl (by simp [hz]) rfl)
      refine ListK.call (i := 21) (vs := #[.int .i64 (H.many : Int), .int .i64 (H.width : Int)]) rfl (enters_of Try.func53 (by kernel_rfl) rfl) (by simp [hz]) ((refBlocks_any H.many H.width (by omega) (by omega) W2).mono ?_) (hw := wanted_g (e := 73) (b' := true) rfl (by simp [hz]) rfl)
      rintro _ W3 ⟨rfl, hW3⟩
      subst hW3
      rw [hbl]
      refine ⟨_, rfl, ?_⟩
      refine ListK.bin (i := 22) (u := .int .i64 (num2 p1 p2 : Int)) (u' := .int .i64 (bl : Int)) (v := .bool (decide ((bl : Int) ≤ (num2 p1 p2 : Int)))) rfl (by simp [hz]) (by simp [hz]) (geq3 _) ?_ (hw := wanted_g (e := 73) (b' := true) rfl (by simp [hz]) rfl)
      refine ListK.pickW (i := 23) (b := true) (v := .bool (decide ((bl : Int) ≤ (num2 p1 p2 : Int)))) rfl (by simp [hz]) (by simp [hz]) ?_ (hw := wanted_g (e := 69) (b' := false) rfl (by simp [hz]) rfl)
      refine ListK.pickW (i := 24) (b := false) (v := .bool (decide ((bl : Int) ≤ (num2 p1 p2 : Int)))) rfl (by simp [hz]) (by simp [hz]) ?_ (hw := wanted_g (e := 59) (b' := true) rfl (by simp [hz]) rfl)
      refine ListK.pick (i := 25) (b := true) (v := .bool (decide ((bl : Int) ≤ (num2 p1 p2 : Int)))) rfl (by simp [hz]) (by simp [hz]) ?_
      refine ListK.done (hK _ _ ?_)
      clear hK K
      exact hQ _ _ hb2 (by simp only [size_put, hz]) (by simp only [defers_put, hd_a]) (by simp [t0]) (by simp [t3]) (by simp [t4]) (by simp [t6]) (by rw [hv]; exact (by simp [hz]))
  · have hv : pastG H [p0, p1, p2, p3, p4, p5, p6] = false := by unfold pastG; rw [decide_eq_false hm]; rfl
    refine region_p 26 ?_
    intro K hK
    refine ListK.move (i := 0) (v := .int .i64 (H.many : Int)) rfl (by simp [t3]) ?_
    refine ListK.bin (i := 1) (u := .int .i64 (H.many : Int)) (u' := .int .i64 0) (v := .bool false) rfl (by simp [hz]) (by simp) (gtrF3 (by omega) _) ?_
    refine ListK.move (i := 2) (v := .bool false) rfl (by simp [hz]) ?_
    refine ListK.passG (i := 3) (e := 59) (b' := false) rfl rfl (by simp [hz]) rfl ?_
    refine ListK.passG (i := 4) (e := 59) (b' := false) rfl rfl (by simp [hz]) rfl ?_
    refine ListK.passG (i := 5) (e := 59) (b' := false) rfl rfl (by simp [hz]) rfl ?_
    refine ListK.passG (i := 6) (e := 59) (b' := false) rfl rfl (by simp [hz]) rfl ?_
    refine ListK.passU (i := 7) (e := 63) rfl rfl (by simp [hz]) ?_
    refine ListK.passU (i := 8) (e := 63) rfl rfl (by simp [hz]) ?_
    refine ListK.passU (i := 9) (e := 63) rfl rfl (by simp [hz]) ?_
    refine ListK.passU (i := 10) (e := 63) rfl rfl (by simp [hz]) ?_
    refine ListK.passG (i := 11) (e := 59) (b' := false) rfl rfl (by simp [hz]) rfl ?_
    refine ListK.passG (i := 12) (e := 59) (b' := false) rfl rfl (by simp [hz]) rfl ?_
    refine ListK.passU (i := 13) (e := 69) rfl rfl (by simp [hz]) ?_
    refine ListK.passU (i := 14) (e := 69) rfl rfl (by simp [hz]) ?_
    refine ListK.passU (i := 15) (e := 69) rfl rfl (by simp [hz]) ?_
    refine ListK.passU (i := 16) (e := 69) rfl rfl (by simp [hz]) ?_
    refine ListK.passU (i := 17) (e := 73) rfl rfl (by simp [hz]) ?_
    refine ListK.passU (i := 18) (e := 73) rfl rfl (by simp [hz]) ?_
    refine ListK.passU (i := 19) (e := 73) rfl rfl (by simp [hz]) ?_
    refine ListK.passU (i := 20) (e := 73) rfl rfl (by simp [hz]) ?_
    refine ListK.passU (i := 21) (e := 73) rfl rfl (by simp [hz]) ?_
    refine ListK.passU (i := 22) (e := 73) rfl rfl (by simp [hz]) ?_
    refine ListK.passU (i := 23) (e := 69) rfl rfl (by simp [hz]) ?_
    refine ListK.passG (i := 24) (e := 59) (b' := false) rfl rfl (by simp [hz]) rfl ?_
    refine ListK.pick (i := 25) (b := false) (v := .bool false) rfl (by simp [hz]) (by simp) ?_
    refine ListK.done (hK _ _ ?_)
    clear hK K
    exact hQ _ _ (Below.refl _ _) (by simp only [size_put, hz]) (by simp only [defers_put, hd_a]) (by simp [t0]) (by simp [t3]) (by simp [t4]) (by simp [t6]) (by rw [hv]; exact (by simp [hz]))
end
end Go.Proofs.YtmdlmmfbcnkanaaR
namespace Go.Proofs.YtmdlmmfbcnkanaaR
open Go.RowKit Go.Shelf
theorem ex30 (u v x : Value) (w : World) : (Instr.extract (.tuple #[u, v, x]) 0).run Try.prog w = .ok u w := by go_simp
theorem ex31 (u v x : Value) (w : World) : (Instr.extract (.tuple #[u, v, x]) 1).run Try.prog w = .ok v w := by go_simp
theorem ex32 (u v x : Value) (w : World) : (Instr.extract (.tuple #[u, v, x]) 2).run Try.prog w = .ok x w := by go_simp
section
attribute [local irreducible] AnyK StepK
variable {L : List (List UInt8)} {W0 : World} {c gb off i : Nat} {H : Head} {p : List UInt8}
set_option maxHeartbeats 400000 in
theorem co_b_any {a : Act} {W1 : World} {Q : Exit → Act → World → Prop} (hgd : ∀ x, x ∈ L → isGood x = true) (hH : 0 < H.many → HeadB H) (hL : L.length ≤ 90000) (hi : L[i]? = some p) (hb1 : Below W0.heap.size W0 W1) (hst : StrsAt W0 W0.heap.size (some ⟨gb, off, none⟩) L)
    (hz : a.tmps.size = 83) (hd_a : a.defers = []) (t0 : a.eval (.tmp 0) = .slice (some ⟨gb, off, none⟩) L.length c) (t3 : a.eval (.tmp 3) = .int .i64 (H.many : Int)) (t4 : a.eval (.tmp 4) = .int .i64 (H.width : Int)) (t6 : a.eval (.tmp 6) = .int .i64 (i : Int)) (t7 : a.eval (.tmp 7) = strV p)
    (hret : ∀ (b : Act) (W' : World), Below W0.heap.size W0 W' → b.defers = [] → b.eval (.tmp 2) = .bool true → ((∃ (k : Nat) (q : List UInt8), k < i ∧ L[k]? = some q ∧ confl p q = true) ∨ pastG H p = true) → Q .ret b W')
    (hQ : ∀ (b : Act) (W' : World), Below W0.heap.size W0 W' → b.tmps.size = 83 → b.defers = [] → b.eval (.tmp 0) = .slice (some ⟨gb, off, none⟩) L.length c → b.eval (.tmp 3) = .int .i64 (H.many : Int) → b.eval (.tmp 4) = .int .i64 (H.width : Int) → b.eval (.tmp 6) = .int .i64 (i : Int) → (∀ (k : Nat) (q : List UInt8), k < i → L[k]? = some q → confl p q = false) → pastG H p = false → Q .normal b W') :
    co_b.wpIn Fence.wide 5 Try.prog Q a W1 := by
  have hil := (List.getElem?_eq_some_iff.1 hi).1
  obtain ⟨p0, p1, p2, p3, p4, p5, p6, rfl, h0, _, _⟩ := good_parts (hgd p (List.mem_of_getElem? hi))
  unfold co_b
  refine wpIn_seq (wpIn_seq (region_p 1 ?_))
  intro K hK
  refine ListK.assign (i := 0) (v := .int .i64 0) rfl (by simp) ?_
  refine ListK.done (hK _ _ ?_)
  clear hK K
  generalize hA : Act.put _ _ _ = a1
  have hz_a1 : a1.tmps.size = 83 := by rw [← hA]; simp only [size_put, hz]
  have u0 : a1.eval (.tmp 0) = .slice (some ⟨gb, off, none⟩) L.length c := by rw [← hA]; exact (by simp [t0])
  have u3 : a1.eval (.tmp 3) = .int .i64 (H.many : Int) := by rw [← hA]; exact (by simp [t3])
  have u4 : a1.eval (.tmp 4) = .int .i64 (H.width : Int) := by rw [← hA]; exact (by simp [t4])
  have u6 : a1.eval (.tmp 6) = .int .i64 (i : Int) := by rw [← hA]; exact (by simp [t6])
  have u7 : a1.eval (.tmp 7) = strV [p0, p1, p2, p3, p4, p5, p6] := by rw [← hA]; exact (by simp [t7])
  have u8 : a1.eval (.tmp 8) = .int .i64 0 := by rw [← hA]; exact (by simp [hz])
  have hd_a1 : a1.defers = [] := by rw [← hA]; simp only [defers_put, hd_a]
  clear hA
  refine wpIn_block (wpIn_loop (fun a W' => ∃ k : Nat, Below W0.heap.size W0 W' ∧ k ≤ i ∧ (∀ (k' : Nat) (q : List UInt8), k' < k → L[k']? = some q → confl [p0, p1, p2, p3, p4, p5, p6] q = false) ∧ a.tmps.size = 83 ∧ a.defers = [] ∧ a.eval (.tmp 0) = .slice (some ⟨gb, off, none⟩) L.length c ∧ a.eval (.tmp 3) = .int .i64 (H.many : Int) ∧ a.eval (.tmp 4) = .int .i64 (H.width : Int) ∧ a.eval (.tmp 6) = .int .i64 (i : Int) ∧ a.eval (.tmp 7) = strV [p0, p1, p2, p3, p4, p5, p6] ∧ a.eval (.tmp 8) = .int .i64 (k : Int)) (fun a _ => i - (intOf (a.eval (.tmp 8))).toNat)
    ⟨0, hb1, Nat.zero_le _, fun k' q h => by omega, hz_a1, hd_a1, u0, u3, u4, u6, u7, u8⟩ ?_)
  rintro b1 W2 ⟨k, hb2, hk, hno, hz_b1, hd_b1, s0, s3, s4, s6, s7, s8⟩
  unfold co_k
  by_cases hlt : k < i
  · have hkl : k < L.length := by omega
    have hy := List.getElem?_eq_getElem hkl
    obtain ⟨gb', off', hA, hgb, hc⟩ := hst k _ hy
    cases hA
    obtain ⟨q, hqe⟩ : ∃ q, L[k] = q := ⟨_, rfl⟩
    rw [hqe] at hy hc
    obtain ⟨q0, q1, q2, q3, q4, q5, q6, rfl, _, _, _⟩ := good_parts (hgd q (List.mem_of_getElem? hy))
    have hc2 := (hb2.cell (p := ⟨gb, off + k, none⟩) hgb).trans hc
    refine wpIn_seq (wpIn_seq (region_p 3 ?_))
    intro K hK
    refine ListK.move (i := 0) (v := .int .i64 (k : Int)) rfl (by simp [s8]) ?_
    refine ListK.move (i := 1) (v := .int .i64 (i : Int)) rfl (by simp [s6]) ?_
    refine ListK.bin (i := 2) (u := .int .i64 (k : Int)) (u' := .int .i64 (i : Int)) (v := .bool true) rfl (by simp [hz_b1]) (by simp [hz_b1]) (lssT3 (by omega) _) ?_
    refine ListK.done (hK _ _ ?_)
    clear hK K
    refine wpIn_cond (t := true) (by simp [hz_b1]) (wpIn_skip ?_)
    generalize hA : Act.put _ _ _ = b2
    have hz_b2 : b2.tmps.size = 83 := by rw [← hA]; simp only [size_put, hz_b1]
    have o0 : b2.eval (.tmp 0) = .slice (some ⟨gb, off, none⟩) L.length c := by rw [← hA]; exact (by simp [s0])
    have o3 : b2.eval (.tmp 3) = .int .i64 (H.many : Int) := by rw [← hA]; exact (by simp [s3])
    have o4 : b2.eval (.tmp 4) = .int .i64 (H.width : Int) := by rw [← hA]; exact (by simp [s4])
    have o6 : b2.eval (.tmp 6) = .int .i64 (i : Int) := by rw [← hA]; exact (by simp [s6])
    have o7 : b2.eval (.tmp 7) = strV [p0, p1, p2, p3, p4, p5, p6] := by rw [← hA]; exact (by simp [s7])
    have o8 : b2.eval (.tmp 8) = .int .i64 (k : Int) := by rw [← hA]; exact (by simp [s8])
    have hd_b2 : b2.defers = [] := by rw [← hA]; simp only [defers_put, hd_b1]
    clear hA
    refine wpIn_seq (wpIn_block ?_)
    refine wpIn_seq (region_p 5 ?_)
    intro K hK
    refine ListK.move (i := 0) (v := .slice (some ⟨gb, off, none⟩) L.length c) rfl (by simp [o0]) ?_
    refine ListK.move (i := 1) (v := .int .i64 (k : Int)) rfl (by simp [o8]) ?_
    refine ListK.index (i := 2) (u := .slice (some ⟨gb, off, none⟩) L.length c) (u' := .int .i64 (k : Int)) (v := .pointer (some ⟨gb, off + k, none⟩)) rfl (by simp [hz_b2]) (by simp [hz_b2]) (ix36 hkl _) ?_
    refine ListK.load (i := 3) (p := ⟨gb, off + k, none⟩) (v := strV [q0, q1, q2, q3, q4, q5, q6]) rfl (by simp [hz_b2]) (ld9 (hc2)) ?_
    refine ListK.assign (i := 4) (v := strV [q0, q1, q2, q3, q4, q5, q6]) rfl (by simp [hz_b2]) ?_
    refine ListK.done (hK _ _ ?_)
    clear hK K
    refine wpIn_seq (co_10_any (p0 := p0) (p1 := p1) (p2 := p2) (p3 := p3) (p4 := p4) (p5 := p5) (p6 := p6) (q0 := q0) (q1 := q1) (q2 := q2) (q3 := q3) (q4 := q4) (q5 := q5) (q6 := q6) (H := H) (i := i) (k := k) (n := L.length) (c := c) (A := some ⟨gb, off, none⟩) (by simp only [size_put, hz_b2]) (by simp only [defers_put, hd_b2]) (by simp [o0]) (by simp [o3]) (by simp [o4]) (by simp [o6]) (by simp [o7]) (by simp [o8]) (by simp [hz_b2]) ?_)
    intro b W' hb' hz_b hd_b y0 y3 y4 y6 y7 y8 y56
    have hb3 := hb2.trans (hb'.mono hb2.size)
    cases hcf : confl [p0, p1, p2, p3, p4, p5, p6] [q0, q1, q2, q3, q4, q5, q6]
    · refine wpIn_cond (t := false) (by rw [← hcf]; exact y56) (wpIn_skip ?_)
      show (Code.wpIn _ _ _ (Code.region _ _ _) _ _ _)
      refine region_p 3 ?_
      intro K hK
      refine ListK.move (i := 0) (v := .int .i64 (k : Int)) rfl (by simp [y8]) ?_
      refine ListK.bin (i := 1) (u := .int .i64 (k : Int)) (u' := .int .i64 1) (v := .int .i64 ((k + 1 : Nat) : Int)) rfl (by simp [hz_b]) (by simp) (add3 (by omega) (by omega) _) ?_
      refine ListK.assign (i := 2) (v := .int .i64 ((k + 1 : Nat) : Int)) rfl (by simp [hz_b]) ?_
      refine ListK.done (hK _ _ ?_)
      clear hK K
      refine ⟨⟨k + 1, hb3, by omega, fun k' q h hq => ?_, (by simp only [size_put, hz_b]), (by simp only [defers_put, hd_b]), (by simp [y0]), (by simp [y3]), (by simp [y4]), (by simp [y6]), (by simp [y7]), (by simp [hz_b])⟩, ?_⟩
      · by_cases hkk : k' = k
        · subst hkk
          rw [hy] at hq
          cases hq
          exact hcf
        · exact hno k' q (by omega) hq
      · rw [s8, show (Act.put _ _ _).eval (.tmp 8) = .int .i64 ((k + 1 : Nat) : Int) from (by simp [hz_b])]
        simp only [intOf]
        omega
    · refine wpIn_cond (t := true) (by rw [← hcf]; exact y56) ?_
      refine wpIn_seq (region_p 1 ?_)
      intro K hK
      refine ListK.assign (i := 0) (v := .bool true) rfl (by simp) ?_
      refine ListK.done (hK _ _ (wpIn_ret ?_))
      exact hret _ _ hb3 (by simp only [defers_put, hd_b]) (by simp [hz_b]) (.inl ⟨k, _, hlt, hy, hcf⟩)
  · have hki : k = i := by omega
    refine wpIn_seq (wpIn_seq (region_p 3 ?_))
    intro K hK
    refine ListK.move (i := 0) (v := .int .i64 (k : Int)) rfl (by simp [s8]) ?_
    refine ListK.move (i := 1) (v := .int .i64 (i : Int)) rfl (by simp [s6]) ?_
    refine ListK.bin (i := 2) (u := .int .i64 (k : Int)) (u' := .int .i64 (i : Int)) (v := .bool false) rfl (by simp [hz_b1]) (by simp [hz_b1]) (lssF3 (by omega) _) ?_
    refine ListK.done (hK _ _ ?_)
    clear hK K
    refine wpIn_cond (t := false) (by simp [hz_b1]) (wpIn_exit ?_)
    show co_c.wpIn _ _ _ _ _ _
    unfold co_c
    refine wpIn_seq (co_12_any (p0 := p0) (p1 := p1) (p2 := p2) (p3 := p3) (p4 := p4) (p5 := p5) (p6 := p6) (H := H) (i := i) (n := L.length) (c := c) (A := some ⟨gb, off, none⟩) hH h0 (by simp only [size_put, hz_b1]) (by simp only [defers_put, hd_b1]) (by simp [s0]) (by simp [s3]) (by simp [s4]) (by simp [s6]) (by simp [s7]) ?_)
    intro b W' hb' hz_b hd_b y0 y3 y4 y6 y82
    have hb3 := hb2.trans (hb'.mono hb2.size)
    cases hpg : pastG H [p0, p1, p2, p3, p4, p5, p6]
    · refine wpIn_cond (t := false) (by rw [← hpg]; exact y82) (wpIn_skip ?_)
      exact hQ _ _ hb3 hz_b hd_b y0 y3 y4 y6 (fun k' q h => hno k' q (by omega)) hpg
    · refine wpIn_cond (t := true) (by rw [← hpg]; exact y82) ?_
      refine wpIn_seq (region_p 1 ?_)
      intro K hK
      refine ListK.assign (i := 0) (v := .bool true) rfl (by simp) ?_
      refine ListK.done (hK _ _ (wpIn_ret ?_))
      exact hret _ _ hb3 (by simp only [defers_put, hd_b]) (by simp [hz_b]) (.inr hpg)
end
set_option maxHeartbeats 400000 in
theorem refContra_any (A : Option Addr) (c : Nat) (L : List (List UInt8)) (hL : L.length ≤ 90000) (hgd : ∀ x, x ∈ L → isGood x = true) (W : World) (hst : StrsAt W W.heap.size A L) : Calls Try.prog 61 #[.slice A L.length c] W (EvP W (.bool (contraB L))) := by
  obtain ⟨H, hHe⟩ : ∃ H, headG L = H := ⟨_, rfl⟩
  have hH : 0 < H.many → HeadB H := by rw [← hHe]; exact headG_b hgd
  refine (callsIn_wide (n := 5)).1 (callsIn_of_wp Try.func61 body61 trivial ?_ rfl)
  obtain ⟨a, ha⟩ : ∃ a : Act, a = { tmps := #[.slice A L.length c] ++ Array.replicate (Try.f61.ntmps - (#[.slice A L.length c] : Array Value).size) undef, defers := [] } := ⟨_, rfl⟩
  have hsz : a.tmps.size = 83 := by rw [ha]; simp [Try.ntmps61]
  have t0 : a.eval (.tmp 0) = .slice A L.length c := by rw [ha]; simp [Act.eval]
  have hd_a : a.defers = [] := by rw [ha]
  rw [← ha]
  clear ha
  unfold code61
  refine wpIn_seq (region_p 1 ?_)
  intro K hK
  refine ListK.assign (i := 0) (v := .bool false) rfl (by simp) ?_
  refine ListK.done (hK _ _ ?_)
  clear hK K
  generalize hA : Act.put _ _ _ = a1
  have hz_a1 : a1.tmps.size = 83 := by rw [← hA]; simp only [size_put, hsz]
  have u0 : a1.eval (.tmp 0) = .slice A L.length c := by rw [← hA]; exact (by simp [t0])
  have hd_a1 : a1.defers = [] := by rw [← hA]; simp only [defers_put, hd_a]
  clear hA
  refine wpIn_seq (region_p 9 ?_)
  intro K hK
  refine ListK.move (i := 0) (v := .slice A L.length c) rfl (by simp [u0]) ?_
  refine ListK.call (i := 1) (vs := #[.slice A L.length c]) rfl (enters_of Try.func62 (by kernel_rfl) rfl) (by simp [hz_a1]) ((refHead_any A c L hL hgd W hst).mono ?_)
  rintro _ W1 ⟨rfl, hb1⟩
  rw [hHe]
  refine ⟨_, rfl, ?_⟩
  refine ListK.move (i := 2) (v := hdT H) rfl (by simp [hz_a1]) ?_
  refine ListK.extract (i := 3) (u := hdT H) (v := .int .i64 (H.many : Int)) rfl (by simp [hz_a1]) (ex30 _ _ _ _) ?_
  refine ListK.extract (i := 4) (u := hdT H) (v := .int .i64 (H.width : Int)) rfl (by simp [hz_a1]) (ex31 _ _ _ _) ?_
  refine ListK.extract (i := 5) (u := hdT H) (v := .int .i64 (H.step : Int)) rfl (by simp [hz_a1]) (ex32 _ _ _ _) ?_
  refine ListK.assign (i := 6) (v := .int .i64 (H.many : Int)) rfl (by simp [hz_a1]) ?_
  refine ListK.assign (i := 7) (v := .int .i64 (H.width : Int)) rfl (by simp [hz_a1]) ?_
  refine ListK.assign (i := 8) (v := .int .i64 (H.step : Int)) rfl (by simp [hz_a1]) ?_
  refine ListK.done (hK _ _ ?_)
  clear hK K
  have hst1 := (hst.below hb1 (Nat.le_refl _)).wide hb1.size
  generalize hA : Act.put _ _ _ = a2
  have hz_a2 : a2.tmps.size = 83 := by rw [← hA]; simp only [size_put, hz_a1]
  have v0 : a2.eval (.tmp 0) = .slice A L.length c := by rw [← hA]; exact (by simp [u0])
  have v3 : a2.eval (.tmp 3) = .int .i64 (H.many : Int) := by rw [← hA]; exact (by simp [hz_a1])
  have v4 : a2.eval (.tmp 4) = .int .i64 (H.width : Int) := by rw [← hA]; exact (by simp [hz_a1])
  have hd_a2 : a2.defers = [] := by rw [← hA]; simp only [defers_put, hd_a1]
  clear hA
  refine wpIn_seq (wpIn_seq (region_p 1 ?_))
  intro K hK
  refine ListK.assign (i := 0) (v := .int .i64 0) rfl (by simp) ?_
  refine ListK.done (hK _ _ ?_)
  clear hK K
  generalize hA : Act.put _ _ _ = a3
  have hz_a3 : a3.tmps.size = 83 := by rw [← hA]; simp only [size_put, hz_a2]
  have x0 : a3.eval (.tmp 0) = .slice A L.length c := by rw [← hA]; exact (by simp [v0])
  have x3 : a3.eval (.tmp 3) = .int .i64 (H.many : Int) := by rw [← hA]; exact (by simp [v3])
  have x4 : a3.eval (.tmp 4) = .int .i64 (H.width : Int) := by rw [← hA]; exact (by simp [v4])
  have x6 : a3.eval (.tmp 6) = .int .i64 0 := by rw [← hA]; exact (by simp [hz_a2])
  have hd_a3 : a3.defers = [] := by rw [← hA]; simp only [defers_put, hd_a2]
  clear hA
  refine wpIn_block (wpIn_loop (fun a W' => ∃ i : Nat, Below W1.heap.size W1 W' ∧ i ≤ L.length ∧ (∀ (i' : Nat) (p : List UInt8), i' < i → L[i']? = some p → (∀ (k : Nat) (q : List UInt8), k < i' → L[k]? = some q → confl p q = false) ∧ pastG H p = false) ∧ a.tmps.size = 83 ∧ a.defers = [] ∧ a.eval (.tmp 0) = .slice A L.length c ∧ a.eval (.tmp 3) = .int .i64 (H.many : Int) ∧ a.eval (.tmp 4) = .int .i64 (H.width : Int) ∧ a.eval (.tmp 6) = .int .i64 (i : Int)) (fun a _ => L.length - (intOf (a.eval (.tmp 6))).toNat)
    ⟨0, Below.refl _ _, Nat.zero_le _, fun i' p h => by omega, hz_a3, hd_a3, x0, x3, x4, x6⟩ ?_)
  rintro b1 W2 ⟨i, hb2, hi, hno, hz_b1, hd_b1, s0, s3, s4, s6⟩
  unfold co_l
  by_cases hlt : i < L.length
  · have hx := List.getElem?_eq_getElem hlt
    obtain ⟨gb, off, hA, hgb, hc⟩ := hst1 i _ hx
    obtain ⟨p, hpe⟩ : ∃ p, L[i] = p := ⟨_, rfl⟩
    rw [hpe] at hx hc
    have hc2 := (hb2.cell (p := ⟨gb, off + i, none⟩) hgb).trans hc
    subst hA
    refine wpIn_seq (wpIn_seq (region_p 4 ?_))
    intro K hK
    refine ListK.move (i := 0) (v := .int .i64 (i : Int)) rfl (by simp [s6]) ?_
    refine ListK.move (i := 1) (v := .slice (some ⟨gb, off, none⟩) L.length c) rfl (by simp [s0]) ?_
    refine ListK.len (i := 2) (u := .slice (some ⟨gb, off, none⟩) L.length c) (v := .int .i64 L.length) rfl (by simp [hz_b1]) (ln36 _ _ _ _ _) rfl ?_
    refine ListK.bin (i := 3) (u := .int .i64 (i : Int)) (u' := .int .i64 L.length) (v := .bool true) rfl (by simp [hz_b1]) (by simp [hz_b1]) (lssT3 (by omega) _) ?_
    refine ListK.done (hK _ _ ?_)
    clear hK K
    refine wpIn_cond (t := true) (by simp [hz_b1]) (wpIn_skip ?_)
    generalize hA : Act.put _ _ _ = b2
    have hz_b2 : b2.tmps.size = 83 := by rw [← hA]; simp only [size_put, hz_b1]
    have o0 : b2.eval (.tmp 0) = .slice (some ⟨gb, off, none⟩) L.length c := by rw [← hA]; exact (by simp [s0])
    have o3 : b2.eval (.tmp 3) = .int .i64 (H.many : Int) := by rw [← hA]; exact (by simp [s3])
    have o4 : b2.eval (.tmp 4) = .int .i64 (H.width : Int) := by rw [← hA]; exact (by simp [s4])
    have o6 : b2.eval (.tmp 6) = .int .i64 (i : Int) := by rw [← hA]; exact (by simp [s6])
    have hd_b2 : b2.defers = [] := by rw [← hA]; simp only [defers_put, hd_b1]
    clear hA
    refine wpIn_seq (wpIn_block ?_)
    refine wpIn_seq (region_p 5 ?_)
    intro K hK
    refine ListK.move (i := 0) (v := .slice (some ⟨gb, off, none⟩) L.length c) rfl (by simp [o0]) ?_
    refine ListK.move (i := 1) (v := .int .i64 (i : Int)) rfl (by simp [o6]) ?_
    refine ListK.index (i := 2) (u := .slice (some ⟨gb, off, none⟩) L.length c) (u' := .int .i64 (i : Int)) (v := .pointer (some ⟨gb, off + i, none⟩)) rfl (by simp [hz_b2]) (by simp [hz_b2]) (ix36 hlt _) ?_
    refine ListK.load (i := 3) (p := ⟨gb, off + i, none⟩) (v := strV p) rfl (by simp [hz_b2]) (ld9 (hc2)) ?_
    refine ListK.assign (i := 4) (v := strV p) rfl (by simp [hz_b2]) ?_
    refine ListK.done (hK _ _ ?_)
    clear hK K
    refine co_b_any (W0 := W1) (H := H) (c := c) hgd hH hL hx hb2 hst1 (by simp only [size_put, hz_b2]) (by simp only [defers_put, hd_b2]) (by simp [o0]) (by simp [o3]) (by simp [o4]) (by simp [o6]) (by simp [hz_b2]) ?_ ?_
    · intro b W' hb' hd_b y2 hor
      refine bodyPost_ret (v := .bool (contraB L)) (res1 Try.results61 ?_) hd_b ⟨rfl, hb1.trans (hb'.mono hb1.size)⟩
      rw [y2]
      congr 1
      exact (decide_eq_true ⟨i, p, hx, by rw [hHe]; exact hor⟩).symm
    · intro b W' hb' hz_b hd_b y0 y3 y4 y6 hn1 hn2
      show (Code.wpIn _ _ _ (Code.region _ _ _) _ _ _)
      refine region_p 3 ?_
      intro K hK
      refine ListK.move (i := 0) (v := .int .i64 (i : Int)) rfl (by simp [y6]) ?_
      refine ListK.bin (i := 1) (u := .int .i64 (i : Int)) (u' := .int .i64 1) (v := .int .i64 ((i + 1 : Nat) : Int)) rfl (by simp [hz_b]) (by simp) (add3 (by omega) (by omega) _) ?_
      refine ListK.assign (i := 2) (v := .int .i64 ((i + 1 : Nat) : Int)) rfl (by simp [hz_b]) ?_
      refine ListK.done (hK _ _ ?_)
      clear hK K
      refine ⟨⟨i + 1, hb', by omega, fun i' q h hq => ?_, (by simp only [size_put, hz_b]), (by simp only [defers_put, hd_b]), (by simp [y0]), (by simp [y3]), (by simp [y4]), (by simp [hz_b])⟩, ?_⟩
      · by_cases hii : i' = i
        · subst hii
          rw [hx] at hq
          cases hq
          exact ⟨hn1, hn2⟩
        · exact hno i' q (by omega) hq
      · rw [s6, show (Act.put _ _ _).eval (.tmp 6) = .int .i64 ((i + 1 : Nat) : Int) from (by simp [hz_b])]
        simp only [intOf]
        omega
  · have hie : i = L.length := by omega
    refine wpIn_seq (wpIn_seq (region_p 4 ?_))
    intro K hK
    refine ListK.move (i := 0) (v := .int .i64 (i : Int)) rfl (by simp [s6]) ?_
    refine ListK.move (i := 1) (v := .slice A L.length c) rfl (by simp [s0]) ?_
    refine ListK.len (i := 2) (u := .slice A L.length c) (v := .int .i64 L.length) rfl (by simp [hz_b1]) (ln36 _ _ _ _ _) rfl ?_
    refine ListK.bin (i := 3) (u := .int .i64 (i : Int)) (u' := .int .i64 L.length) (v := .bool false) rfl (by simp [hz_b1]) (by simp [hz_b1]) (lssF3 (by omega) _) ?_
    refine ListK.done (hK _ _ ?_)
    clear hK K
    refine wpIn_cond (t := false) (by simp [hz_b1]) (wpIn_exit ?_)
    show (Code.wpIn _ _ _ (Code.seq _ _) _ _ _)
    have hcf : contraB L = false := by
      refine decide_eq_false ?_
      rintro ⟨i', p, hi', h⟩
      have h2 := hno i' p (by have := (List.getElem?_eq_some_iff.1 hi').1; omega) hi'
      rw [hHe] at h
      rcases h with ⟨k, q, hk, hq, hc⟩ | hp
      · rw [h2.1 k q hk hq] at hc
        cases hc
      · rw [h2.2] at hp
        cases hp
    refine wpIn_seq (region_p 1 ?_)
    intro K hK
    refine ListK.assign (i := 0) (v := .bool false) rfl (by simp) ?_
    refine ListK.done (hK _ _ (wpIn_ret ?_))
    exact bodyPost_ret (v := .bool (contraB L)) (res1 Try.results61 (by rw [hcf]; exact (by simp [hz_b1]))) (by simp only [defers_put, hd_b1]) ⟨rfl, hb1.trans (hb2.mono hb1.size)⟩
noncomputable def opsTo30 : Array Oper := (Try.f34.body.bind (regionOf 0)).getD #[]
noncomputable def opsTo31 : Array Oper := (Try.f34.body.bind (regionOf 1)).getD #[]
noncomputable def opsTo32 : Array Oper := (Try.f34.body.bind (regionOf 2)).getD #[]
noncomputable def opsTo33 : Array Oper := (Try.f34.body.bind (regionOf 3)).getD #[]
noncomputable def opsTo34 : Array Oper := (Try.f34.body.bind (regionOf 4)).getD #[]
noncomputable def opsTo35 : Array Oper := (Try.f34.body.bind (regionOf 5)).getD #[]
noncomputable def opsTo36 : Array Oper := (Try.f34.body.bind (regionOf 6)).getD #[]
noncomputable def code34 : Code := (.seq (.region 0 opsTo30 false) (.seq (.seq (.region 1 opsTo31 false) (.cond (.tmp 7) (.seq (.region 2 opsTo32 false) .ret) .skip)) (.seq (.seq (.region 3 opsTo33 false) (.seq (.region 4 opsTo34 false) (.cond (.tmp 15) (.seq (.region 5 opsTo35 false) .ret) .skip))) (.seq (.region 6 opsTo36 false) .ret))))
theorem body34 : Try.f34.body = some code34 := by kernel_rfl
set_option maxHeartbeats 400000 in
theorem refTold_any (A : Option Addr) (c : Nat) (L : List (List UInt8)) (hL : L.length ≤ 90000) (hgd : ∀ x, x ∈ L → isGood x = true) (W : World) (hst : StrsAt W W.heap.size A L) : Calls Try.prog 34 #[.slice A L.length c] W (EvP W (.int .i64 (toldG L))) := by
  obtain ⟨H, hHe⟩ : ∃ H, headG L = H := ⟨_, rfl⟩
  refine (callsIn_wide (n := 5)).1 (callsIn_of_wp Try.func34 body34 trivial ?_ rfl)
  obtain ⟨a, ha⟩ : ∃ a : Act, a = { tmps := #[.slice A L.length c] ++ Array.replicate (Try.f34.ntmps - (#[.slice A L.length c] : Array Value).size) undef, defers := [] } := ⟨_, rfl⟩
  have hsz : a.tmps.size = 16 := by rw [ha]; simp [Try.ntmps34]
  have t0 : a.eval (.tmp 0) = .slice A L.length c := by rw [ha]; simp [Act.eval]
  have hd_a : a.defers = [] := by rw [ha]
  rw [← ha]
  clear ha
  unfold code34
  refine wpIn_seq (region_p 1 ?_)
  intro K hK
  refine ListK.assign (i := 0) (v := .int .i64 0) rfl (by simp) ?_
  refine ListK.done (hK _ _ ?_)
  clear hK K
  generalize hA : Act.put _ _ _ = a1
  have hz_a1 : a1.tmps.size = 16 := by rw [← hA]; simp only [size_put, hsz]
  have u0 : a1.eval (.tmp 0) = .slice A L.length c := by rw [← hA]; exact (by simp [t0])
  have u2 : a1.eval (.tmp 2) = .int .i64 0 := by rw [← hA]; exact (by simp [hsz])
  have hd_a1 : a1.defers = [] := by rw [← hA]; simp only [defers_put, hd_a]
  clear hA
  refine wpIn_seq (wpIn_seq (region_p 2 ?_))
  intro K hK
  refine ListK.move (i := 0) (v := .slice A L.length c) rfl (by simp [u0]) ?_
  refine ListK.call (i := 1) (vs := #[.slice A L.length c]) rfl (enters_of Try.func61 (by kernel_rfl) rfl) (by simp [hz_a1]) ((refContra_any A c L hL hgd W hst).mono ?_)
  rintro _ W1 ⟨rfl, hb1⟩
  refine ⟨_, rfl, ?_⟩
  refine ListK.done (hK _ _ ?_)
  clear hK K
  have hst1 := (hst.below hb1 (Nat.le_refl _)).wide hb1.size
  cases hcb : contraB L
  · refine wpIn_cond (t := false) (by rw [← hcb]; exact (by simp [hz_a1])) (wpIn_skip ?_)
    generalize hA : Act.put _ _ _ = a2
    have hz_a2 : a2.tmps.size = 16 := by rw [← hA]; simp only [size_put, hz_a1]
    have v0 : a2.eval (.tmp 0) = .slice A L.length c := by rw [← hA]; exact (by simp [u0])
    have v2 : a2.eval (.tmp 2) = .int .i64 0 := by rw [← hA]; exact (by simp [u2])
    have hd_a2 : a2.defers = [] := by rw [← hA]; simp only [defers_put, hd_a1]
    clear hA
    refine wpIn_seq (wpIn_seq (region_p 9 ?_))
    intro K hK
    refine ListK.move (i := 0) (v := .slice A L.length c) rfl (by simp [v0]) ?_
    refine ListK.call (i := 1) (vs := #[.slice A L.length c]) rfl (enters_of Try.func62 (by kernel_rfl) rfl) (by simp [hz_a2]) ((refHead_any A c L hL hgd W1 hst1).mono ?_)
    rintro _ W2 ⟨rfl, hb2⟩
    rw [hHe]
    refine ⟨_, rfl, ?_⟩
    refine ListK.move (i := 2) (v := hdT H) rfl (by simp [hz_a2]) ?_
    refine ListK.extract (i := 3) (u := hdT H) (v := .int .i64 (H.many : Int)) rfl (by simp [hz_a2]) (ex30 _ _ _ _) ?_
    refine ListK.extract (i := 4) (u := hdT H) (v := .int .i64 (H.width : Int)) rfl (by simp [hz_a2]) (ex31 _ _ _ _) ?_
    refine ListK.extract (i := 5) (u := hdT H) (v := .int .i64 (H.step : Int)) rfl (by simp [hz_a2]) (ex32 _ _ _ _) ?_
    refine ListK.assign (i := 6) (v := .int .i64 (H.many : Int)) rfl (by simp [hz_a2]) ?_
    refine ListK.assign (i := 7) (v := .int .i64 (H.width : Int)) rfl (by simp [hz_a2]) ?_
    refine ListK.assign (i := 8) (v := .int .i64 (H.step : Int)) rfl (by simp [hz_a2]) ?_
    refine ListK.done (hK _ _ ?_)
    clear hK K
    have hB := hb1.trans (hb2.mono hb1.size)
    generalize hA : Act.put _ _ _ = a3
    have hz_a3 : a3.tmps.size = 16 := by rw [← hA]; simp only [size_put, hz_a2]
    have x0 : a3.eval (.tmp 0) = .slice A L.length c := by rw [← hA]; exact (by simp [v0])
    have x2 : a3.eval (.tmp 2) = .int .i64 0 := by rw [← hA]; exact (by simp [v2])
    have x3 : a3.eval (.tmp 3) = .int .i64 (H.many : Int) := by rw [← hA]; exact (by simp [hz_a2])
    have hd_a3 : a3.defers = [] := by rw [← hA]; simp only [defers_put, hd_a2]
    clear hA
    by_cases hm : H.many = 0
    · have hv : toldG L = 7 := by unfold toldG; rw [hcb, hHe, if_neg (by decide), if_pos hm]
      refine wpIn_seq (region_p 2 ?_)
      intro K hK
      refine ListK.move (i := 0) (v := .int .i64 (H.many : Int)) rfl (by simp [x3]) ?_
      refine ListK.bin (i := 1) (u := .int .i64 (H.many : Int)) (u' := .int .i64 0) (v := .bool true) rfl (by simp [hz_a3]) (by simp) (eqlT (by omega) _) ?_
      refine ListK.done (hK _ _ ?_)
      clear hK K
      refine wpIn_cond (t := true) (by simp [hz_a3]) ?_
      refine wpIn_seq (region_p 1 ?_)
      intro K hK
      refine ListK.assign (i := 0) (v := .int .i64 7) rfl (by simp) ?_
      refine ListK.done (hK _ _ (wpIn_ret ?_))
      exact bodyPost_ret (v := .int .i64 (toldG L)) (res1 Try.results34 (by rw [hv]; exact (by simp [hz_a3]))) (by simp only [defers_put, hd_a3]) ⟨rfl, hB⟩
    · have hv : toldG L = 0 := by unfold toldG; rw [hcb, hHe, if_neg (by decide), if_neg hm]
      refine wpIn_seq (region_p 2 ?_)
      intro K hK
      refine ListK.move (i := 0) (v := .int .i64 (H.many : Int)) rfl (by simp [x3]) ?_
      refine ListK.bin (i := 1) (u := .int .i64 (H.many : Int)) (u' := .int .i64 0) (v := .bool false) rfl (by simp [hz_a3]) (by simp) (eqlF (by omega) _) ?_
      refine ListK.done (hK _ _ ?_)
      clear hK K
      refine wpIn_cond (t := false) (by simp [hz_a3]) (wpIn_skip ?_)
      refine wpIn_seq (region_p 1 ?_)
      intro K hK
      refine ListK.assign (i := 0) (v := .int .i64 0) rfl (by simp) ?_
      refine ListK.done (hK _ _ (wpIn_ret ?_))
      exact bodyPost_ret (v := .int .i64 (toldG L)) (res1 Try.results34 (by rw [hv]; exact (by simp [hz_a3]))) (by simp only [defers_put, hd_a3]) ⟨rfl, hB⟩
  · have hv : toldG L = 6 := by unfold toldG; rw [hcb, if_pos rfl]
    refine wpIn_cond (t := true) (by rw [← hcb]; exact (by simp [hz_a1])) ?_
    refine wpIn_seq (region_p 1 ?_)
    intro K hK
    refine ListK.assign (i := 0) (v := .int .i64 6) rfl (by simp) ?_
    refine ListK.done (hK _ _ (wpIn_ret ?_))
    exact bodyPost_ret (v := .int .i64 (toldG L)) (res1 Try.results34 (by rw [hv]; exact (by simp [hz_a1]))) (by simp only [defers_put, hd_a1]) ⟨rfl, hb1⟩
end Go.Proofs.YtmdlmmfbcnkanaaR
