/- Texts for a law of package file, behind the shared ones, part 1: the law's own contracts and plain words. -/
import Derived.Test.YtmdlmmfbcnkanaaRA4

set_option linter.unusedVariables false
set_option maxRecDepth 10000

namespace Go.Proofs.YtmdlmmfbcnkanaaR
open Go.RowKit Go.Shelf
section
variable {P : Program} {ops : Array Oper} {K : Act → World → Prop} {k i d : Nat} {a : Act} {w w' : World} {ty : TypeId} {pos : String} {aft : Array Edge} {v : Value} {gd : Option (Nat × Bool)}
theorem ListK.look {t : TypeId} {x y : Operand} {u u' : Value} (hi : ops[i]? = some ⟨some d, .lookup t x y false, ty, pos, aft, gd⟩) (hx : a.eval x = u) (hy : a.eval y = u') (hv : (Instr.lookup t u u' false).run P w = .ok v w')
    (h : ListK P ops K k (i + 1) (a.put (some d) v) w') (hw : Region.wanted ⟨some d, .lookup t x y false, ty, pos, aft, gd⟩ (yielded ops a.tmps) = true := by rfl) : ListK P ops K (k + 1) i a w := ListK.valW hi hw (by simp [execOp, hx, hy, hv]) h
end
theorem ListK.pickW {P : Program} {ops : Array Oper} {K : Act → World → Prop} {k i d : Nat} {a : Act} {w : World} {ty : TypeId} {pos : String} {aft : Array Edge} {gd : Option (Nat × Bool)} {c x y : Operand} {b : Bool} {v : Value} (hi : ops[i]? = some ⟨some d, .pick c x y, ty, pos, aft, gd⟩) (hc : a.eval c = .bool b) (hx : (if b then a.eval x else a.eval y) = v)
    (h : ListK P ops K k (i + 1) (a.put (some d) v) w) (hw : Region.wanted ⟨some d, .pick c x y, ty, pos, aft, gd⟩ (yielded ops a.tmps) = true := by rfl) : ListK P ops K (k + 1) i a w :=
  ListK.valW hi hw (by simp [execOp, hc, asBool]; cases b <;> simpa using hx) h
/-- A slice of words. -/
def WordsAt (w : World) (B : Nat) (A : Option Addr) (l : List Nat) : Prop := ∀ (k x : Nat), l[k]? = some x → x < 65536 ∧ ∃ b off, A = some ⟨b, off, none⟩ ∧ b < B ∧ w.cell? ⟨b, off + k, none⟩ = some (.int .u16 x)
theorem ListK.bldW {P : Program} {ops : Array Oper} {K : Act → World → Prop} {k i d : Nat} {a : Act} {w : World} {ty : TypeId} {pos : String} {aft : Array Edge} {v : Value} {gd : Option (Nat × Bool)} {t : TypeId} {parts : Array (Nat × Operand)} {ps : Array (Nat × Value)} (hi : ops[i]? = some ⟨some d, .build t parts, ty, pos, aft, gd⟩)
    (hp : parts.map (fun (i, x) => (i, a.eval x)) = ps) (hv : (Instr.build t ps).run P w = .ok v w)
    (h : ListK P ops K k (i + 1) (a.put (some d) v) w) (hw : Region.wanted ⟨some d, .build t parts, ty, pos, aft, gd⟩ (yielded ops a.tmps) = true := by rfl) : ListK P ops K (k + 1) i a w :=
  ListK.valW hi hw (by simp only [execOp, hp]; simp [hv]) h
theorem eql3 {x y : Operand} {m n : Int} (w : World) : (do eqGuard .eql 3 x y (.int .i64 m) (.int .i64 n); binOp .eql 3 (.int .i64 m) (.int .i64 n) : Sem Value).run Try.prog w = .ok (.bool (m == n)) w := by
  go_simp
theorem eqlT {x y : Operand} {m n : Int} (h : m = n) (w : World) : (do eqGuard .eql 3 x y (.int .i64 m) (.int .i64 n); binOp .eql 3 (.int .i64 m) (.int .i64 n) : Sem Value).run Try.prog w = .ok (.bool true) w := by
  rw [eql3 w]
  simp [h]
theorem neqT {x y : Operand} {m n : Int} (h : m ≠ n) (w : World) : (do eqGuard .neq 3 x y (.int .i64 m) (.int .i64 n); binOp .neq 3 (.int .i64 m) (.int .i64 n) : Sem Value).run Try.prog w = .ok (.bool true) w := by
  rw [neq3 w]
  simp [h]
section
variable {κ : Type} [DecidableEq κ]
theorem getK_mem {k : κ} {v : Value} : ∀ {l : List (κ × Value)}, getK l k = some v → (k, v) ∈ l
  | [], h => by simp [getK_nil] at h
  | p :: l, h => by
    rw [getK_cons] at h
    split at h
    · rename_i e
      cases h
      simp [e]
    · exact List.mem_cons_of_mem _ (getK_mem h)
end
section
variable {κ : Type} [DecidableEq κ]
variable {kv : κ → Value} {W : World} {M : Nat} {l : List (κ × Value)} {tm tk te : TypeId}
theorem MapAt.look (L : KeyLaw tm tk te kv) (h : MapAt kv W M l) (k : κ) {z : Value} (hz : ∀ w, (zeroValue te).run Try.prog w = .ok z w) :
    (Instr.lookup tm (.map (some M)) (kv k) false).run Try.prog W = .ok ((getK l k).getD z) W := by
  obtain ⟨es, ck, h1, h2, _⟩ := h.ex
  have hf := findK L k W es.toList l h2
  unfold getK
  cases hx : ixK k l 0 with
  | none =>
    rw [hx] at hf
    simp only [Instr.lookup, Sem.run_bind, L.und, Result.andThen, getObj_map h1, Sem.run_pure, L.chk, hf, hz]
    simp
  | some p =>
    rw [hx] at hf
    simp only [Instr.lookup, Sem.run_bind, L.und, Result.andThen, getObj_map h1, Sem.run_pure, L.chk, hf]
    simp
end
section
variable {W0 : World} {b2 b3 b4 ba M : Nat} {Ds : List Nat} {m : List (List UInt8)}
theorem dig_nat {b : UInt8} (h : isDig b = true) : (dig b : Nat) = b.toNat - 48 ∧ dig b ≤ 9 := by
  simp [isDig] at h
  have : dig b = b.toNat - 48 := by
    unfold dig
    rw [UInt8.toNat_sub_of_le _ _ (by rw [UInt8.le_iff_toNat_le]; exact h.1)]
    rfl
  omega
end
end Go.Proofs.YtmdlmmfbcnkanaaR
namespace Go.Proofs.YtmdlmmfbcnkanaaR
open Go.RowKit Go.Shelf
section
attribute [local irreducible] AnyK StepK
end
end Go.Proofs.YtmdlmmfbcnkanaaR
namespace Go.Proofs.YtmdlmmfbcnkanaaR

theorem isDig_hi {n : Nat} (h : n ≤ 99) : isDig (hi2 n) = true ∧ dig (hi2 n) = n / 10 := by
  have h1 : isDig (hi2 n) = true := by
    simp only [isDig, decide_eq_true_eq, hi2_nat h]
    omega
  have h2 := (dig_nat h1).1
  rw [hi2_nat h] at h2
  exact ⟨h1, by omega⟩
theorem isDig_lo {n : Nat} (h : n ≤ 99) : isDig (lo2 n) = true ∧ dig (lo2 n) = n % 10 := by
  have h1 : isDig (lo2 n) = true := by
    simp only [isDig, decide_eq_true_eq, lo2_nat h]
    omega
  have h2 := (dig_nat h1).1
  rw [lo2_nat h] at h2
  exact ⟨h1, by omega⟩
theorem num2_two {n : Nat} (h : n ≤ 99) : num2 (hi2 n) (lo2 n) = n := by
  rw [num2, (isDig_hi h).2, (isDig_lo h).2]
  omega
theorem not10 {b : UInt8} (h : isDig b = true) : b ≠ 10 := by
  rintro rfl
  simp [isDig] at h
theorem made_no10 {k : UInt8} {a b : Nat} (hk : k ≠ 10) (ha : a ≤ 99) (hb : b ≤ 99) : (10 : UInt8) ∉ made k a b := by
  have hc : chk5 k (hi2 a) (lo2 a) (hi2 b) (lo2 b) ≤ 99 := by have := chk5_lt k (hi2 a) (lo2 a) (hi2 b) (lo2 b); omega
  have h1 := not10 (isDig_hi ha).1
  have h2 := not10 (isDig_lo ha).1
  have h3 := not10 (isDig_hi hb).1
  have h4 := not10 (isDig_lo hb).1
  have h5 := not10 (isDig_hi hc).1
  have h6 := not10 (isDig_lo hc).1
  simp only [made, List.mem_cons, List.not_mem_nil, or_false, not_or]
  exact ⟨hk.symm, h1.symm, h2.symm, h3.symm, h4.symm, h5.symm, h6.symm⟩
theorem made_good {k : UInt8} {a b : Nat} (hk : k = 72 ∨ k = 82 ∨ k = 80) (ha : a ≤ 99) (hb : b ≤ 99) (hh : k = 72 → headOk (a : Int) ((b / 10 : Nat) : Int) ((b % 10 : Nat) : Int) = true) : isGood (made k a b) = true := by
  have hc : chk5 k (hi2 a) (lo2 a) (hi2 b) (lo2 b) ≤ 99 := by have := chk5_lt k (hi2 a) (lo2 a) (hi2 b) (lo2 b); omega
  have e1 : (k == 72 || k == 82 || k == 80) = true := by rcases hk with rfl | rfl | rfl <;> rfl
  simp only [made, isGood, good7, e1, (isDig_hi ha).1, (isDig_lo ha).1, (isDig_hi hb).1, (isDig_lo hb).1, (isDig_hi hc).1, (isDig_lo hc).1, num2_two hc, num2_two ha, (isDig_hi hb).2, (isDig_lo hb).2, Bool.and_self, BEq.rfl, Bool.true_and]
  by_cases h72 : k = 72
  · rw [hh h72]
    simp
  · simp [h72]
theorem made_name {k : UInt8} {a b : Nat} (ha : a ≤ 99) : nameOf (made k a b) = if k = 72 then (72, 0) else (k, a) := by
  simp only [made, nameOf, num2_two ha]
theorem made_val {k : UInt8} {a b : Nat} (hb : b ≤ 99) : valOf (made k a b) = b := by
  simp only [made, valOf, num2_two hb]
theorem made_head {m w st : Nat} (hm : m ≤ 99) (hw : w ≤ 9) (hs : st ≤ 9) : headOf (made 72 m (10 * w + st)) = ⟨m, w, st⟩ := by
  have hb : 10 * w + st ≤ 99 := by omega
  simp only [made, headOf, num2_two hm, (isDig_hi hb).2, (isDig_lo hb).2, Head.mk.injEq, true_and]
  omega
/-- Records of which no two of one name differ. -/
def Func (L : List (List UInt8)) : Prop := ∀ a b, a ∈ L → b ∈ L → nameOf a = nameOf b → a = b
theorem Func.of_sub {L L' : List (List UInt8)} (h : Func L) (hs : ∀ r, r ∈ L' → r ∈ L) : Func L' := fun a b ha hb => h a b (hs a ha) (hs b hb)
end Go.Proofs.YtmdlmmfbcnkanaaR
namespace Go.Proofs.YtmdlmmfbcnkanaaR
open Go.RowKit Go.Shelf
theorem ba_extract (l : List UInt8) (a b : Nat) : (⟨l.toArray⟩ : ByteArray).extract a b = ⟨((l.drop a).take (b - a)).toArray⟩ := by
  apply ByteArray.ext
  simp
theorem sl9B {l : List UInt8} {a b : Nat} (h : a ≤ b) (h2 : b ≤ l.length) (w : World) : (Instr.sliceAt 9 (strV l) (some (.int .i64 (a : Int))) (some (.int .i64 (b : Int))) none).run Try.prog w = .ok (strV ((l.drop a).take (b - a))) w := by
  go_simp
  rw [ba_extract]
theorem sl9L {l : List UInt8} {a : Nat} (h : a ≤ l.length) (w : World) : (Instr.sliceAt 9 (strV l) (some (.int .i64 (a : Int))) none none).run Try.prog w = .ok (strV (l.drop a)) w := by
  go_simp
  rw [ba_extract]
  have : (l.drop a).take (l.length - a) = l.drop a := by rw [← List.length_drop, List.take_length]
  simp [this]
theorem sl9H {l : List UInt8} {a : Nat} (h : a ≤ l.length) (w : World) : (Instr.sliceAt 9 (strV l) none (some (.int .i64 (a : Int))) none).run Try.prog w = .ok (strV (l.take a)) w := by
  go_simp
  rw [ba_extract]
  simp
theorem ListK.sliceLH {P : Program} {ops : Array Oper} {K : Act → World → Prop} {k i d : Nat} {a : Act} {w : World} {ty : TypeId} {pos : String} {aft : Array Edge} {gd : Option (Nat × Bool)} {t : TypeId} {x y z : Operand} {u u' u'' v : Value} (hi : ops[i]? = some ⟨some d, .slice t x (some y) (some z) none, ty, pos, aft, gd⟩) (hx : a.eval x = u) (hy : a.eval y = u') (hz : a.eval z = u'') (hv : (Instr.sliceAt t u (some u') (some u'') none).run P w = .ok v w)
    (h : ListK P ops K k (i + 1) (a.put (some d) v) w) (hw : Region.wanted ⟨some d, .slice t x (some y) (some z) none, ty, pos, aft, gd⟩ (yielded ops a.tmps) = true := by rfl) : ListK P ops K (k + 1) i a w := ListK.valW hi hw (by simp [execOp, hx, hy, hz, hv]) h
theorem eql5n {x y : Operand} (a b : UInt8) (w : World) : (do eqGuard .eql 5 x y (u8V a) (u8V b); binOp .eql 5 (u8V a) (u8V b) : Sem Value).run Try.prog w = .ok (.bool (decide (a = b))) w := by
  go_simp
  by_cases h : a = b
  · simp [h]
  · have : ¬ (a.toNat : Int) = b.toNat := fun e => h (UInt8.toNat_inj.1 (by omega))
    simp [h, this]
theorem neq5n {x y : Operand} (a b : UInt8) (w : World) : (do eqGuard .neq 5 x y (u8V a) (u8V b); binOp .neq 5 (u8V a) (u8V b) : Sem Value).run Try.prog w = .ok (.bool (!decide (a = b))) w := by
  go_simp
  by_cases h : a = b
  · simp [h]
  · have : ¬ (a.toNat : Int) = b.toNat := fun e => h (UInt8.toNat_inj.1 (by omega))
    simp [h, this]
theorem lss5n {x y : Operand} (a : UInt8) (n : Int) (w : World) : (do eqGuard .lss 5 x y (u8V a) (.int .u8 n); binOp .lss 5 (u8V a) (.int .u8 n) : Sem Value).run Try.prog w = .ok (.bool (decide ((a.toNat : Int) < n))) w := by go_simp
theorem gtr5n {x y : Operand} (a : UInt8) (n : Int) (w : World) : (do eqGuard .gtr 5 x y (u8V a) (.int .u8 n); binOp .gtr 5 (u8V a) (.int .u8 n) : Sem Value).run Try.prog w = .ok (.bool (decide (n < (a.toNat : Int)))) w := by go_simp
theorem eql9n {x y : Operand} (l k : List UInt8) (w : World) : (do eqGuard .eql 9 x y (strV l) (strV k); binOp .eql 9 (strV l) (strV k) : Sem Value).run Try.prog w = .ok (.bool (decide (l = k))) w := by
  go_simp
  by_cases h : l = k
  · simp [h]
  · simp [h]
theorem neq9n {x y : Operand} (l k : List UInt8) (w : World) : (do eqGuard .neq 9 x y (strV l) (strV k); binOp .neq 9 (strV l) (strV k) : Sem Value).run Try.prog w = .ok (.bool (!decide (l = k))) w := by
  go_simp
  by_cases h : l = k
  · simp [h]
  · simp [h]
theorem pieces_cons (acc : List UInt8) (b : UInt8) (l : List UInt8) : pieces acc (b :: l) = if b = 10 then acc :: pieces [] l else pieces (acc ++ [b]) l := by rw [pieces]
noncomputable def opsPc0 : Array Oper := (Try.f33.body.bind (regionOf 0)).getD #[]
noncomputable def opsPc1 : Array Oper := (Try.f33.body.bind (regionOf 1)).getD #[]
noncomputable def opsPc2 : Array Oper := (Try.f33.body.bind (regionOf 2)).getD #[]
noncomputable def opsPc3 : Array Oper := (Try.f33.body.bind (regionOf 3)).getD #[]
noncomputable def opsPc4 : Array Oper := (Try.f33.body.bind (regionOf 4)).getD #[]
noncomputable def opsPc5 : Array Oper := (Try.f33.body.bind (regionOf 5)).getD #[]
noncomputable def opsPc6 : Array Oper := (Try.f33.body.bind (regionOf 6)).getD #[]
noncomputable def opsPc7 : Array Oper := (Try.f33.body.bind (regionOf 7)).getD #[]
noncomputable def opsPc8 : Array Oper := (Try.f33.body.bind (regionOf 8)).getD #[]
noncomputable def opsPc9 : Array Oper := (Try.f33.body.bind (regionOf 9)).getD #[]
noncomputable def pc_l : Code := (.seq (.seq (.region 4 opsPc4 false) (.cond (.tmp 9) .skip (.exit 0))) (.seq (.block 1 (.seq (.region 6 opsPc6 false) (.cond (.tmp 15) (.seq (.region 7 opsPc7 false) (.region 8 opsPc8 false)) .skip))) (.region 5 opsPc5 false)))
noncomputable def code33 : Code := (.seq (.region 0 opsPc0 false) (.seq (.region 1 opsPc1 false) (.seq (.region 2 opsPc2 false) (.seq (.seq (.region 3 opsPc3 false) (.block 0 (.loop pc_l))) (.seq (.region 9 opsPc9 false) .ret)))))
theorem body33 : Try.f33.body = some code33 := by kernel_rfl
set_option maxHeartbeats 400000 in
theorem refPieces_any (l : List UInt8) (hl : l.length ≤ 90000) (W : World) : Calls Try.prog 33 #[strV l] W (fun e w' => ∃ v, e = .returned v ∧ OS W v (pieces [] l) w') := by
  refine (callsIn_wide (n := 5)).1 (callsIn_of_wp Try.func33 body33 trivial ?_ rfl)
  obtain ⟨a, ha⟩ : ∃ a : Act, a = { tmps := #[strV l] ++ Array.replicate (Try.f33.ntmps - (#[strV l] : Array Value).size) undef, defers := [] } := ⟨_, rfl⟩
  have hsz : a.tmps.size = 26 := by rw [ha]; simp [Try.ntmps33]
  have t0 : a.eval (.tmp 0) = strV l := by rw [ha]; simp [Act.eval]
  have hd_a : a.defers = [] := by rw [ha]
  rw [← ha]
  clear ha
  unfold code33
  refine wpIn_seq (region_p 1 ?_)
  intro K hK
  refine ListK.assign (i := 0) (v := .slice none 0 0) rfl (by simp) ?_
  refine ListK.done (hK _ _ ?_)
  clear hK K
  refine wpIn_seq (region_p 1 ?_)
  intro K hK
  refine ListK.assign (i := 0) (v := .slice none 0 0) rfl (by simp) ?_
  refine ListK.done (hK _ _ ?_)
  clear hK K
  refine wpIn_seq (region_p 1 ?_)
  intro K hK
  refine ListK.assign (i := 0) (v := .int .i64 0) rfl (by simp) ?_
  refine ListK.done (hK _ _ ?_)
  clear hK K
  generalize hA : Act.put _ _ _ = a1
  have hz_a1 : a1.tmps.size = 26 := by rw [← hA]; simp only [size_put, hsz]
  have u0 : a1.eval (.tmp 0) = strV l := by rw [← hA]; exact (by simp [t0])
  have u3 : a1.eval (.tmp 3) = .slice none 0 0 := by rw [← hA]; exact (by simp [hsz])
  have u4 : a1.eval (.tmp 4) = .int .i64 0 := by rw [← hA]; exact (by simp [hsz])
  have hd_a1 : a1.defers = [] := by rw [← hA]; simp only [defers_put, hd_a]
  clear hA
  refine wpIn_seq (wpIn_seq (region_p 1 ?_))
  intro K hK
  refine ListK.assign (i := 0) (v := .int .i64 0) rfl (by simp) ?_
  refine ListK.done (hK _ _ ?_)
  clear hK K
  generalize hA : Act.put _ _ _ = a2
  have hz_a2 : a2.tmps.size = 26 := by rw [← hA]; simp only [size_put, hz_a1]
  have v0 : a2.eval (.tmp 0) = strV l := by rw [← hA]; exact (by simp [u0])
  have v3 : a2.eval (.tmp 3) = .slice none 0 0 := by rw [← hA]; exact (by simp [u3])
  have v4 : a2.eval (.tmp 4) = .int .i64 0 := by rw [← hA]; exact (by simp [u4])
  have v5 : a2.eval (.tmp 5) = .int .i64 0 := by rw [← hA]; exact (by simp [hz_a1])
  have hd_a2 : a2.defers = [] := by rw [← hA]; simp only [defers_put, hd_a1]
  clear hA
  refine wpIn_block (wpIn_loop (fun a W' => ∃ (i fr : Nat) (v : Value) (O : List (List UInt8)), i ≤ l.length ∧ fr ≤ i ∧ O.length ≤ i ∧ O ++ pieces ((l.drop fr).take (i - fr)) (l.drop i) = pieces [] l ∧ OS W v O W' ∧ a.tmps.size = 26 ∧ a.defers = [] ∧ a.eval (.tmp 0) = strV l ∧ a.eval (.tmp 3) = v ∧ a.eval (.tmp 4) = .int .i64 (fr : Int) ∧ a.eval (.tmp 5) = .int .i64 (i : Int)) (fun a _ => l.length - (intOf (a.eval (.tmp 5))).toNat)
    ⟨0, 0, _, [], Nat.zero_le _, Nat.le_refl _, Nat.le_refl _, by simp, ⟨Below.refl _ _, rfl, .inl ⟨rfl, rfl⟩⟩, hz_a2, hd_a2, v0, v3, v4, v5⟩ ?_)
  rintro b1 W1 ⟨i, fr, v, O, hi, hfr, hO, hpc, os, hz_b1, hd_b1, s0, s3, s4, s5⟩
  unfold pc_l
  by_cases hlt : i < l.length
  · skip
    refine wpIn_seq (wpIn_seq (region_p 4 ?_))
    intro K hK
    refine ListK.move (i := 0) (v := .int .i64 (i : Int)) rfl (by simp [s5]) ?_
    refine ListK.move (i := 1) (v := strV l) rfl (by simp [s0]) ?_
    refine ListK.lenW (i := 2) (u := strV l) (v := .int .i64 (l.length : Int)) rfl (by simp [hz_b1]) (ln9 _ _ _) rfl ?_
    refine ListK.bin (i := 3) (u := .int .i64 (i : Int)) (u' := .int .i64 (l.length : Int)) (v := .bool true) rfl (by simp [hz_b1]) (by simp [hz_b1]) (lssT3 (by omega) _) ?_
    refine ListK.done (hK _ _ ?_)
    clear hK K
    refine wpIn_cond (t := true) (by simp [hz_b1]) (wpIn_skip ?_)
    generalize hA : Act.put _ _ _ = b2
    have hz_b2 : b2.tmps.size = 26 := by rw [← hA]; simp only [size_put, hz_b1]
    have o0 : b2.eval (.tmp 0) = strV l := by rw [← hA]; exact (by simp [s0])
    have o3 : b2.eval (.tmp 3) = v := by rw [← hA]; exact (by simp [s3])
    have o4 : b2.eval (.tmp 4) = .int .i64 (fr : Int) := by rw [← hA]; exact (by simp [s4])
    have o5 : b2.eval (.tmp 5) = .int .i64 (i : Int) := by rw [← hA]; exact (by simp [s5])
    have hd_b2 : b2.defers = [] := by rw [← hA]; simp only [defers_put, hd_b1]
    clear hA
    have hx := List.getElem?_eq_getElem hlt
    have hdr : l.drop i = l[i] :: l.drop (i + 1) := List.drop_eq_getElem_cons hlt
    have hgo : ∀ (fr' : Nat) (v' : Value) (O' : List (List UInt8)) (b : Act) (W' : World), fr' ≤ i + 1 → O'.length ≤ i + 1 → O' ++ pieces ((l.drop fr').take (i + 1 - fr')) (l.drop (i + 1)) = pieces [] l → OS W v' O' W' → b.tmps.size = 26 → b.defers = [] → b.eval (.tmp 0) = strV l → b.eval (.tmp 3) = v' → b.eval (.tmp 4) = .int .i64 (fr' : Int) → b.eval (.tmp 5) = .int .i64 (i : Int) →
        (Code.region 5 opsPc5 false).wpIn Fence.wide 5 Try.prog (fun e a' w' => (e = .normal ∧ (∃ (i fr : Nat) (v : Value) (O : List (List UInt8)), i ≤ l.length ∧ fr ≤ i ∧ O.length ≤ i ∧ O ++ pieces ((l.drop fr).take (i - fr)) (l.drop i) = pieces [] l ∧ OS W v O w' ∧ a'.tmps.size = 26 ∧ a'.defers = [] ∧ a'.eval (.tmp 0) = strV l ∧ a'.eval (.tmp 3) = v ∧ a'.eval (.tmp 4) = .int .i64 (fr : Int) ∧ a'.eval (.tmp 5) = .int .i64 (i : Int)) ∧ l.length - (intOf (a'.eval (.tmp 5))).toNat < l.length - (intOf (b1.eval (.tmp 5))).toNat)) b W' := by
      intro fr' v' O' b W' h1 h2 h3 os' hz_b hd_b p0 p3 p4 p5
      refine region_p 3 ?_
      intro K hK
      refine ListK.move (i := 0) (v := .int .i64 (i : Int)) rfl (by simp [p5]) ?_
      refine ListK.bin (i := 1) (u := .int .i64 (i : Int)) (u' := .int .i64 1) (v := .int .i64 ((i + 1 : Nat) : Int)) rfl (by simp [hz_b]) (by simp) (add3 (by omega) (by omega) _) ?_
      refine ListK.assign (i := 2) (v := .int .i64 ((i + 1 : Nat) : Int)) rfl (by simp [hz_b]) ?_
      refine ListK.done (hK _ _ ?_)
      clear hK K
      refine ⟨rfl, ⟨i + 1, fr', v', O', by omega, h1, h2, h3, os', (by simp only [size_put, hz_b]), (by simp only [defers_put, hd_b]), (by simp [p0]), (by simp [p3]), (by simp [p4]), (by simp [hz_b])⟩, ?_⟩
      rw [s5, show (Act.put _ _ _).eval (.tmp 5) = .int .i64 ((i + 1 : Nat) : Int) from (by simp [hz_b])]
      simp only [intOf]
      omega
    rw [hdr, pieces_cons] at hpc
    refine wpIn_seq (wpIn_block ?_)
    by_cases h10 : l[i] = 10
    · rw [if_pos h10] at hpc
      refine wpIn_seq (region_p 4 ?_)
      intro K hK
      refine ListK.move (i := 0) (v := strV l) rfl (by simp [o0]) ?_
      refine ListK.move (i := 1) (v := .int .i64 (i : Int)) rfl (by simp [o5]) ?_
      refine ListK.indexV (i := 2) (u := strV l) (u' := .int .i64 (i : Int)) (v := u8V l[i]) rfl (by simp [hz_b2]) (by simp [hz_b2]) (ix9 hx _) ?_
      refine ListK.bin (i := 3) (u := u8V l[i]) (u' := .int .u8 10) (v := .bool true) rfl (by simp [hz_b2]) (by simp) (by rw [← decide_eq_true h10]; exact eql5n _ 10 _) ?_
      refine ListK.done (hK _ _ ?_)
      clear hK K
      refine wpIn_cond (t := true) (by simp [hz_b2]) ?_
      generalize hA : Act.put _ _ _ = b3
      have hz_b3 : b3.tmps.size = 26 := by rw [← hA]; simp only [size_put, hz_b2]
      have x0 : b3.eval (.tmp 0) = strV l := by rw [← hA]; exact (by simp [o0])
      have x3 : b3.eval (.tmp 3) = v := by rw [← hA]; exact (by simp [o3])
      have x4 : b3.eval (.tmp 4) = .int .i64 (fr : Int) := by rw [← hA]; exact (by simp [o4])
      have x5 : b3.eval (.tmp 5) = .int .i64 (i : Int) := by rw [← hA]; exact (by simp [o5])
      have hd_b3 : b3.defers = [] := by rw [← hA]; simp only [defers_put, hd_b2]
      clear hA
      obtain ⟨v4, W4, hap4, os4⟩ := app36_run (l := (l.drop fr).take (i - fr)) (b := W1.heap.size) (c := 1) (ty := 36) (os.below ((Below.refl W1.heap.size W1).alloc (Nat.le_refl _) (.cells #[strV ((l.drop fr).take (i - fr))] 9))) ((Whole.new W1 9 #[strV ((l.drop fr).take (i - fr))]).cell 0) (by omega)
      refine wpIn_seq (region_p 8 ?_)
      intro K hK
      refine ListK.move (i := 0) (v := v) rfl (by simp [x3]) ?_
      refine ListK.move (i := 1) (v := strV l) rfl (by simp [x0]) ?_
      refine ListK.move (i := 2) (v := .int .i64 (fr : Int)) rfl (by simp [x4]) ?_
      refine ListK.move (i := 3) (v := .int .i64 (i : Int)) rfl (by simp [x5]) ?_
      refine ListK.sliceLH (i := 4) (u := strV l) (u' := .int .i64 (fr : Int)) (u'' := .int .i64 (i : Int)) (v := strV ((l.drop fr).take (i - fr))) rfl (by simp [hz_b3]) (by simp [hz_b3]) (by simp [hz_b3]) (sl9B hfr hi _) ?_
      refine ListK.bsl (i := 5) (ps := #[(0, strV ((l.drop fr).take (i - fr)))]) (v := .slice (some ⟨W1.heap.size, 0, none⟩) 1 1) rfl (by simp [hz_b3]) (bs36_1 _ W1) ?_
      refine ListK.app36 (i := 6) rfl (by simp [hz_b3]) (by simp [hz_b3]) hap4 ?_
      refine ListK.assign (i := 7) (v := v4) rfl (by simp [hz_b3]) ?_
      refine ListK.done (hK _ _ ?_)
      clear hK K
      generalize hA : Act.put _ _ _ = b4
      have hz_b4 : b4.tmps.size = 26 := by rw [← hA]; simp only [size_put, hz_b3]
      have y0 : b4.eval (.tmp 0) = strV l := by rw [← hA]; exact (by simp [x0])
      have y3 : b4.eval (.tmp 3) = v4 := by rw [← hA]; exact (by simp [hz_b3])
      have y5 : b4.eval (.tmp 5) = .int .i64 (i : Int) := by rw [← hA]; exact (by simp [x5])
      have hd_b4 : b4.defers = [] := by rw [← hA]; simp only [defers_put, hd_b3]
      clear hA
      refine region_p 3 ?_
      intro K hK
      refine ListK.move (i := 0) (v := .int .i64 (i : Int)) rfl (by simp [y5]) ?_
      refine ListK.bin (i := 1) (u := .int .i64 (i : Int)) (u' := .int .i64 1) (v := .int .i64 ((i + 1 : Nat) : Int)) rfl (by simp [hz_b4]) (by simp) (add3 (by omega) (by omega) _) ?_
      refine ListK.assign (i := 2) (v := .int .i64 ((i + 1 : Nat) : Int)) rfl (by simp [hz_b4]) ?_
      refine ListK.done (hK _ _ ?_)
      clear hK K
      refine Go.Code.wpIn_mono (fun e a'' w'' hq => ?_) (hgo (i + 1) v4 (O ++ [(l.drop fr).take (i - fr)]) _ W4 (Nat.le_refl _) (by simp; omega) (by rw [List.append_assoc]; simpa using hpc) os4 (by simp only [size_put, hz_b4]) (by simp only [defers_put, hd_b4]) (by simp [y0]) (by simp [y3]) (by simp [hz_b4]) (by simp [y5]))
      obtain ⟨rfl, h1, h2⟩ := hq
      exact ⟨h1, h2⟩
    · rw [if_neg h10] at hpc
      refine wpIn_seq (region_p 4 ?_)
      intro K hK
      refine ListK.move (i := 0) (v := strV l) rfl (by simp [o0]) ?_
      refine ListK.move (i := 1) (v := .int .i64 (i : Int)) rfl (by simp [o5]) ?_
      refine ListK.indexV (i := 2) (u := strV l) (u' := .int .i64 (i : Int)) (v := u8V l[i]) rfl (by simp [hz_b2]) (by simp [hz_b2]) (ix9 hx _) ?_
      refine ListK.bin (i := 3) (u := u8V l[i]) (u' := .int .u8 10) (v := .bool false) rfl (by simp [hz_b2]) (by simp) (by rw [← decide_eq_false h10]; exact eql5n _ 10 _) ?_
      refine ListK.done (hK _ _ ?_)
      clear hK K
      refine wpIn_cond (t := false) (by simp [hz_b2]) (wpIn_skip ?_)
      have hacc : (l.drop fr).take (i + 1 - fr) = (l.drop fr).take (i - fr) ++ [l[i]] := by
        rw [show i + 1 - fr = (i - fr) + 1 by omega, List.take_add_one, List.getElem?_drop, show fr + (i - fr) = i by omega, hx]
        rfl
      refine Go.Code.wpIn_mono (fun e a'' w'' hq => ?_) (hgo fr v O _ W1 (by omega) (by omega) (by rw [hacc]; exact hpc) os (by simp only [size_put, hz_b2]) (by simp only [defers_put, hd_b2]) (by simp [o0]) (by simp [o3]) (by simp [o4]) (by simp [o5]))
      obtain ⟨rfl, h1, h2⟩ := hq
      exact ⟨h1, h2⟩
  · have hie : i = l.length := by omega
    refine wpIn_seq (wpIn_seq (region_p 4 ?_))
    intro K hK
    refine ListK.move (i := 0) (v := .int .i64 (i : Int)) rfl (by simp [s5]) ?_
    refine ListK.move (i := 1) (v := strV l) rfl (by simp [s0]) ?_
    refine ListK.lenW (i := 2) (u := strV l) (v := .int .i64 (l.length : Int)) rfl (by simp [hz_b1]) (ln9 _ _ _) rfl ?_
    refine ListK.bin (i := 3) (u := .int .i64 (i : Int)) (u' := .int .i64 (l.length : Int)) (v := .bool false) rfl (by simp [hz_b1]) (by simp [hz_b1]) (lssF3 (by omega) _) ?_
    refine ListK.done (hK _ _ ?_)
    clear hK K
    refine wpIn_cond (t := false) (by simp [hz_b1]) (wpIn_exit ?_)
    show (Code.wpIn _ _ _ (Code.seq _ _) _ _ _)
    rw [hie, List.drop_length] at hpc
    simp [pieces] at hpc
    rw [← hpc]
    refine wpIn_seq (region_p 2 ?_)
    intro K hK
    refine ListK.move (i := 0) (v := v) rfl (by simp [s3]) ?_
    refine ListK.assign (i := 1) (v := v) rfl (by simp [hz_b1]) ?_
    refine ListK.done (hK _ _ (wpIn_ret ?_))
    exact bodyPost_ret (v := v) (res1 Try.results33 (by simp [hz_b1])) (by simp only [defers_put, hd_b1]) ⟨v, rfl, os⟩
end Go.Proofs.YtmdlmmfbcnkanaaR
namespace Go.Proofs.YtmdlmmfbcnkanaaR
open Go.RowKit Go.Shelf
/-- Records as keys. -/
abbrev K7 := UInt8 × UInt8 × UInt8 × UInt8 × UInt8 × UInt8 × UInt8
noncomputable instance k7dec : DecidableEq K7 := fun a b => Classical.propDecidable (a = b)
abbrev kv7 (k : K7) : Value := rV k.1 k.2.1 k.2.2.1 k.2.2.2.1 k.2.2.2.2.1 k.2.2.2.2.2.1 k.2.2.2.2.2.2
def k7 : List UInt8 → K7
  | [a, b, c, d, e, f, g] => (a, b, c, d, e, f, g)
  | _ => (0, 0, 0, 0, 0, 0, 0)
theorem kl102 : KeyLaw (κ := K7) 102 83 4 kv7 where
  und := fun w => by kernel_rfl
  chk := fun b k w => by kernel_rfl
  slow := ⟨_, und83, fun k k' => sameNow_agg _ _ _⟩
  eq := fun k k' w => by
    obtain ⟨a, b, c, d, e, f, g⟩ := k
    obtain ⟨a', b', c', d', e', f', g'⟩ := k'
    show (Op.equalIn 10000 83 (rV a b c d e f g) (rV a' b' c' d' e' f' g')).run Try.prog w = _
    rw [eq83]
    congr 1
    refine decide_eq_decide.2 ?_
    simp
  stays := fun k w => stays_agg _ w (by simp)
theorem k7_inj {r r' : List UInt8} (h : r.length = 7) (h' : r'.length = 7) (e : k7 r = k7 r') : r = r' := by
  obtain ⟨a, b, c, d, e1, f, g, rfl⟩ := len7 h
  obtain ⟨a', b', c', d', e', f', g', rfl⟩ := len7 h'
  simpa [k7] using e
/-- What has been counted: good pieces, bad ones, doubles; and the good ones, without doubles. -/
structure Ct where
  ng : Nat
  nb : Nat
  nd : Nat
  sn : List (List UInt8)
def ctStep (x : Ct) (p : List UInt8) : Ct := if isGood p then (if p ∈ x.sn then ⟨x.ng + 1, x.nb, x.nd + 1, x.sn⟩ else ⟨x.ng + 1, x.nb, x.nd, x.sn ++ [p]⟩) else ⟨x.ng, x.nb + 1, x.nd, x.sn⟩
def ctAll (ps : List (List UInt8)) : Ct := ps.foldl ctStep ⟨0, 0, 0, []⟩
def seenM (l : List (List UInt8)) : List (K7 × Value) := l.map fun r => (k7 r, .bool true)
theorem getK_seen {l : List (List UInt8)} (h7 : ∀ r, r ∈ l → r.length = 7) {p : List UInt8} (hp : p.length = 7) : (getK (seenM l) (k7 p)).getD (.bool false) = .bool (decide (p ∈ l)) := by
  induction l with
  | nil => rfl
  | cons r l ih =>
    have h1 := ih (fun x hx => h7 x (List.mem_cons_of_mem _ hx))
    show (getK ((k7 r, .bool true) :: seenM l) (k7 p)).getD (.bool false) = _
    rw [getK_cons]
    by_cases e : p = r
    · subst e
      simp
    · have e2 : k7 p ≠ k7 r := fun h => e (k7_inj hp (h7 r List.mem_cons_self) h)
      rw [if_neg e2, h1]
      simp [e]
theorem putK_seen {l : List (List UInt8)} (h7 : ∀ r, r ∈ l → r.length = 7) {p : List UInt8} (hp : p.length = 7) : putK (seenM l) (k7 p) (.bool true) = seenM (if p ∈ l then l else l ++ [p]) := by
  have h := getK_seen h7 hp
  by_cases e : p ∈ l
  · rw [if_pos e]
    refine putK_same ?_
    rw [decide_eq_true e] at h
    cases hg : getK (seenM l) (k7 p) with
    | none => rw [hg] at h; cases h
    | some v => rw [hg] at h; exact congrArg some h
  · rw [if_neg e]
    have hn : getK (seenM l) (k7 p) = none := by
      cases hg : getK (seenM l) (k7 p) with
      | none => rfl
      | some v =>
        rw [hg, decide_eq_false e] at h
        have hm := getK_mem hg
        unfold seenM at hm
        obtain ⟨r, _, hr⟩ := List.mem_map.1 hm
        have hv := congrArg Prod.snd hr
        simp only at hv
        subst hv
        cases h
    rw [putK_new hn]
    simp [seenM]
theorem ct_le : ∀ (ps : List (List UInt8)) (x : Ct), x.nd ≤ x.ng → (ps.foldl ctStep x).nd ≤ (ps.foldl ctStep x).ng ∧ (ps.foldl ctStep x).ng + (ps.foldl ctStep x).nb = x.ng + x.nb + ps.length
  | [], x, h => ⟨h, by simp⟩
  | p :: ps, x, h => by
    have hs : (ctStep x p).nd ≤ (ctStep x p).ng ∧ (ctStep x p).ng + (ctStep x p).nb = x.ng + x.nb + 1 := by
      unfold ctStep
      split
      · split <;> simp <;> omega
      · simp; omega
    have := ct_le ps (ctStep x p) hs.1
    simp only [List.foldl_cons, List.length_cons]
    omega
theorem al62 (w : World) : (Instr.alloc 62 true (.tuple #[])).run Try.prog w = .ok (.pointer (some ⟨w.heap.size, 0, none⟩)) (w.alloc (.cells #[.int .i64 0, .int .i64 0, .int .i64 0] 62)) := by go_simp
theorem al102 (w : World) : (Instr.alloc 102 true (.tuple #[])).run Try.prog w = .ok (.pointer (some ⟨w.heap.size, 0, none⟩)) (w.alloc (.cells #[.map none] 102)) := by go_simp
theorem bd62_0 (w : World) : (Instr.build 62 #[]).run Try.prog w = .ok (.agg #[.int .i64 0, .int .i64 0, .int .i64 0]) w := by go_simp
theorem mm102 (w : World) : (Instr.makeMap 102 none).run Try.prog w = .ok (.map (some w.heap.size)) (w.alloc (.map #[] 0)) := by kernel_rfl
theorem st102 {w : World} {p : Addr} {u : Value} {M : Option Nat} (h : w.cell? p = some u) (hf : w.frozen? p = false) : (Instr.storeAt 102 (.pointer (some p)) (.map M)).run Try.prog w = .ok () (w.setCell p (.map M)) := by go_simp
theorem ld102 {w : World} {p : Addr} {v : Value} (h : w.cell? p = some v) : (Instr.loadAt 102 (.pointer (some p))).run Try.prog w = .ok v w := by go_simp
theorem ld62 {w : World} {b : Nat} {u v x : Value} (h : w.cell? ⟨b, 0, none⟩ = some u ∧ w.cell? ⟨b, 1, none⟩ = some v ∧ w.cell? ⟨b, 2, none⟩ = some x) : (Instr.loadAt 62 (.pointer (some ⟨b, 0, none⟩))).run Try.prog w = .ok (.agg #[u, v, x]) w := by
  obtain ⟨h0, h1, h2⟩ := h
  go_simp
theorem st62 {w : World} {b : Nat} {u0 u1 u2 : Value} {x y z : Int} (h : Whole w b 62 #[u0, u1, u2]) : (Instr.storeAt 62 (.pointer (some ⟨b, 0, none⟩)) (.agg #[.int .i64 x, .int .i64 y, .int .i64 z])).run Try.prog w = .ok () (((w.setCell ⟨b, 0, none⟩ (.int .i64 x)).setCell ⟨b, 1, none⟩ (.int .i64 y)).setCell ⟨b, 2, none⟩ (.int .i64 z)) := by
  have h0 : w.cell? ⟨b, 0, none⟩ = some u0 := h.cell 0
  have h1 : w.cell? ⟨b, 1, none⟩ = some u1 := h.cell 1
  have h2 : w.cell? ⟨b, 2, none⟩ = some u2 := h.cell 2
  have f0 := h.frozen 0
  have f1 := h.frozen 1
  have f2 := h.frozen 2
  go_simp
theorem fa62_0 {b o : Nat} (w : World) : (Instr.fieldAt 62 (.pointer (some ⟨b, o, none⟩)) 0).run Try.prog w = .ok (.pointer (some ⟨b, o, none⟩)) w := by go_simp
theorem fa62_1 {b o : Nat} (w : World) : (Instr.fieldAt 62 (.pointer (some ⟨b, o, none⟩)) 1).run Try.prog w = .ok (.pointer (some ⟨b, o + 1, none⟩)) w := by go_simp
theorem fa62_2 {b o : Nat} (w : World) : (Instr.fieldAt 62 (.pointer (some ⟨b, o, none⟩)) 2).run Try.prog w = .ok (.pointer (some ⟨b, o + 2, none⟩)) w := by go_simp
theorem res62b {fn : Go.Func} {k j b : Nat} {W : World} {a : Act} {v0 v1 v2 u : Value} (h : fn.results = #[.cell k 62, .tmp j]) (he : a.eval (.tmp k) = .pointer (some ⟨b, 0, none⟩)) (hj : a.eval (.tmp j) = u) (hw : Whole W b 62 #[v0, v1, v2]) :
    (results fn a.tmps).run Try.prog W = .ok (.tuple #[.agg #[v0, v1, v2], u]) W := by
  have he' : a.tmps[k]?.getD undef = .pointer (some ⟨b, 0, none⟩) := by simpa [Act.eval] using he
  have hj' : a.tmps[j]?.getD undef = u := by simpa [Act.eval] using hj
  have h0 : W.cell? ⟨b, 0, none⟩ = some v0 := hw.cell 0
  have h1 : W.cell? ⟨b, 1, none⟩ = some v1 := hw.cell 1
  have h2 : W.cell? ⟨b, 2, none⟩ = some v2 := hw.cell 2
  simp only [results, h]
  simp [he', hj']
  go_simp
abbrev c62 (x y z : Nat) : Array Value := #[.int .i64 (x : Int), .int .i64 (y : Int), .int .i64 (z : Int)]
/-- What holds between two pieces. -/
structure CtI (W0 : World) (b2 b4 M b5 : Nat) (x : Ct) (W : World) : Prop where
  low : Below W0.heap.size W0 W
  ord : W0.heap.size ≤ b2 ∧ b2 < b4 ∧ b4 < M ∧ M < b5
  w2 : Whole W b2 62 #[.int .i64 0, .int .i64 0, .int .i64 0]
  w4 : Whole W b4 62 (c62 x.ng x.nb x.nd)
  w5 : Whole W b5 102 #[.map (some M)]
  mp : MapAt kv7 W M (seenM x.sn)
  gd : ∀ r, r ∈ x.sn → isGood r = true
section
variable {W0 W W' : World} {b2 b4 M b5 : Nat} {x : Ct}
theorem CtI.else {X : Nat → Prop} (i : CtI W0 b2 b4 M b5 x W) (he : Else X W W') (hX : ∀ k, k ≤ b5 → ¬ X k) : CtI W0 b2 b4 M b5 x W' := by
  obtain ⟨o1, o2, o3, o4⟩ := i.ord
  exact ⟨i.low.trans (he.below i.low.size (fun k hk => hX k (by omega))), i.ord, he.whole (hX _ (by omega)) i.w2, he.whole (hX _ (by omega)) i.w4, he.whole (hX _ (by omega)) i.w5, i.mp.keep (he.block M i.mp.lt (hX _ (by omega))), i.gd⟩
theorem CtI.below (i : CtI W0 b2 b4 M b5 x W) (hb : Below W.heap.size W W') : CtI W0 b2 b4 M b5 x W' := i.else (Else.of_below (fun _ => False) hb) (fun _ _ h => h)
theorem CtI.lt (i : CtI W0 b2 b4 M b5 x W) : b5 < W.heap.size := i.w5.lt
/-- A number is changed. -/
theorem CtI.set (i : CtI W0 b2 b4 M b5 x W) {j : Nat} {v : Value} {y : Ct} (hw : ∀ W', Whole W' b4 62 ((c62 x.ng x.nb x.nd).setIfInBounds j v) → Whole W' b4 62 (c62 y.ng y.nb y.nd)) (hs : y.sn = x.sn) : CtI W0 b2 b4 M b5 y (W.setCell ⟨b4, j, none⟩ v) ∧ Else (fun k => k = b4) W (W.setCell ⟨b4, j, none⟩ v) := by
  obtain ⟨o1, o2, o3, o4⟩ := i.ord
  have he : Else (fun k => k = b4) W (W.setCell ⟨b4, j, none⟩ v) := (Else.refl (fun k => k = b4) W).setCell (p := ⟨b4, j, none⟩) (.inl rfl) _
  refine ⟨⟨i.low.trans (he.below i.low.size (fun k hk => by omega)), i.ord, he.whole (by omega) i.w2, hw _ (i.w4.set j v), he.whole (by omega) i.w5, ?_, fun r hr => i.gd r (hs ▸ hr)⟩, he⟩
  rw [hs]
  exact i.mp.keep (he.block M i.mp.lt (by omega))
/-- A record is seen. -/
theorem CtI.put (i : CtI W0 b2 b4 M b5 x W) {p : List UInt8} (hg : isGood p = true) :
    ∃ W', (Instr.mapUpdate 102 (.map (some M)) (kv7 (k7 p)) (.bool true)).run Try.prog W = .ok () W' ∧ CtI W0 b2 b4 M b5 ⟨x.ng, x.nb, x.nd, if p ∈ x.sn then x.sn else x.sn ++ [p]⟩ W' ∧ Else (fun k => k = M) W W' := by
  obtain ⟨o1, o2, o3, o4⟩ := i.ord
  obtain ⟨o, h3, h4⟩ := i.mp.put kl102 (k7 p) (.bool true)
  rw [putK_seen (fun r hr => good_seven (i.gd r hr)) (good_seven hg)] at h4
  have he : Else (fun k => k = M) W (W.putObj M o) := ⟨⟨rfl, rfl, rfl, by simp [World.putObj], fun k hk => by omega⟩, fun k _ hx => World.putObj_heap_other hx⟩
  refine ⟨_, h3, ⟨i.low.trans (he.below i.low.size (fun k hk => by omega)), i.ord, he.whole (by omega) i.w2, he.whole (by omega) i.w4, he.whole (by omega) i.w5, h4, ?_⟩, he⟩
  intro r hr
  split at hr
  · exact i.gd r hr
  · rcases List.mem_append.1 hr with hr | hr
    · exact i.gd r hr
    · simp at hr
      rw [hr]
      exact hg
end
noncomputable def opsCt0 : Array Oper := (Try.f37.body.bind (regionOf 0)).getD #[]
noncomputable def opsCt1 : Array Oper := (Try.f37.body.bind (regionOf 1)).getD #[]
noncomputable def opsCt2 : Array Oper := (Try.f37.body.bind (regionOf 2)).getD #[]
noncomputable def opsCt3 : Array Oper := (Try.f37.body.bind (regionOf 3)).getD #[]
noncomputable def opsCt4 : Array Oper := (Try.f37.body.bind (regionOf 4)).getD #[]
noncomputable def opsCt5 : Array Oper := (Try.f37.body.bind (regionOf 5)).getD #[]
noncomputable def opsCt6 : Array Oper := (Try.f37.body.bind (regionOf 6)).getD #[]
noncomputable def opsCt7 : Array Oper := (Try.f37.body.bind (regionOf 7)).getD #[]
noncomputable def opsCt8 : Array Oper := (Try.f37.body.bind (regionOf 8)).getD #[]
noncomputable def opsCt9 : Array Oper := (Try.f37.body.bind (regionOf 9)).getD #[]
noncomputable def opsCt10 : Array Oper := (Try.f37.body.bind (regionOf 10)).getD #[]
noncomputable def opsCt11 : Array Oper := (Try.f37.body.bind (regionOf 11)).getD #[]
noncomputable def opsCt12 : Array Oper := (Try.f37.body.bind (regionOf 12)).getD #[]
noncomputable def opsCt13 : Array Oper := (Try.f37.body.bind (regionOf 13)).getD #[]
noncomputable def opsCt14 : Array Oper := (Try.f37.body.bind (regionOf 14)).getD #[]
noncomputable def ct_as : Code := (.region 6 opsCt6 false)
noncomputable def ct_body : Code := (.block 1 (.seq (.region 7 opsCt7 false) (.seq (.block 2 (.seq (.region 8 opsCt8 false) (.cond (.tmp 22) (.seq (.region 9 opsCt9 false) (.exit 1)) (.seq (.region 10 opsCt10 false) (.cond (.tmp 29) (.region 11 opsCt11 false) .skip))))) (.seq (.region 12 opsCt12 false) (.region 13 opsCt13 false)))))
noncomputable def ct_range : Code := (.rangeFunc (.tmp 15) #[16] ct_as ct_body)
noncomputable def ct_e : Code := (.seq (.region 14 opsCt14 false) .ret)
noncomputable def code37 : Code := (.seq (.region 0 opsCt0 false) (.seq (.seq (.region 1 opsCt1 false) (.cond (.tmp 11) (.seq (.region 2 opsCt2 false) .ret) .skip)) (.seq (.region 3 opsCt3 false) (.seq (.region 4 opsCt4 false) (.seq (.seq (.region 5 opsCt5 false) (.block 0 ct_range)) ct_e)))))
theorem body37 : Try.f37.body = some code37 := by kernel_rfl
section
variable {W0 : World} {b2 b4 M b5 : Nat} {x : Ct}
set_option maxHeartbeats 1000000 in
theorem ct_body_any {l n c : Nat} {A : Option Addr} {p : List UInt8} {a : Act} {W1 : World} {Q : Exit → Act → World → Prop} (hl : p.length ≤ c) (hs : BytesAt W1 W1.heap.size A p) (hx : x.ng ≤ 90000 ∧ x.nb ≤ 90000 ∧ x.nd ≤ 90000)
    (hsz : a.tmps.size = 44) (hdf : a.defers = []) (t2 : a.eval (.tmp 2) = ptr b2) (t4 : a.eval (.tmp 4) = ptr b4) (t5 : a.eval (.tmp 5) = ptr b5) (t6 : a.eval (.tmp 6) = .slice A p.length c) (i : CtI W0 b2 b4 M b5 x W1)
    (hN : ∀ a' W', CtI W0 b2 b4 M b5 (ctStep x p) W' → Else (fun k => k = b4 ∨ k = M) W1 W' → Q .normal a' W') :
    ct_body.wpIn (Fence.wide.inRound l) n Try.prog Q a W1 := by
  obtain ⟨x1, x2, x3⟩ := hx
  obtain ⟨c0, c1, c2, c3, c4, c5, c6, hz, hp⟩ : ∃ c0 c1 c2 c3 c4 c5 c6, asRec p = r7 c0 c1 c2 c3 c4 c5 c6 ∧ (isGood p = true → p = [c0, c1, c2, c3, c4, c5, c6]) := by
    cases hg : isGood p with
    | false => exact ⟨0, 0, 0, 0, 0, 0, 0, by simp [asRec, hg], fun h => by cases h⟩
    | true =>
      obtain ⟨c0, c1, c2, c3, c4, c5, c6, rfl⟩ := len7 (good_seven hg)
      exact ⟨c0, c1, c2, c3, c4, c5, c6, by simp [asRec, hg, recC], fun _ => rfl⟩
  unfold ct_body
  refine wpIn_block ?_
  have hgd := good_any A p c W1 hl hs
  refine wpIn_seq (region_l 8 (wideF_round _ _) (by kernel_rfl) (by kernel_rfl) ?_)
  intro K hK
  refine ListK.move (i := 0) (v := .slice A p.length c) rfl (by simp [t6]) ?_
  refine ListK.call (i := 1) (vs := #[.slice A p.length c]) rfl (enters_of Try.func67 (by kernel_rfl) rfl) (by simp [hsz]) ((hgd).mono ?_)
  rintro _ W2 ⟨h67, hb2⟩
  rw [hz] at h67
  subst h67
  refine ⟨_, rfl, ?_⟩
  refine ListK.move (i := 2) (v := .tuple #[rV c0 c1 c2 c3 c4 c5 c6, .bool (isGood p)]) rfl (by simp [hsz]) ?_
  refine ListK.extract (i := 3) (u := .tuple #[rV c0 c1 c2 c3 c4 c5 c6, .bool (isGood p)]) (v := rV c0 c1 c2 c3 c4 c5 c6) rfl (by simp [hsz]) (ex0 _ _ _) ?_
  refine ListK.extract (i := 4) (u := .tuple #[rV c0 c1 c2 c3 c4 c5 c6, .bool (isGood p)]) (v := .bool (isGood p)) rfl (by simp [hsz]) (ex1 _ _ _) ?_
  refine ListK.alloc (i := 5) rfl (al83 W2) ?_
  refine ListK.store (i := 6) (u := .pointer (some ⟨W2.heap.size, 0, none⟩)) (u' := rV c0 c1 c2 c3 c4 c5 c6) rfl (by simp [hsz]) (by simp [hsz]) (st83 (Whole.new W2 83 z7)) ?_
  refine ListK.assign (i := 7) (v := .bool (isGood p)) rfl (by simp [hsz]) ?_
  refine ListK.done (hK _ _ ?_)
  clear hK K
  have w7 := put7_whole (Whole.new W2 83 z7) (u8V c0) (u8V c1) (u8V c2) (u8V c3) (u8V c4) (u8V c5) (u8V c6)
  have hb3 : Below W2.heap.size W2 (put7 (W2.alloc (.cells z7 83)) W2.heap.size (u8V c0) (u8V c1) (u8V c2) (u8V c3) (u8V c4) (u8V c5) (u8V c6)) := ((Below.refl _ W2).alloc (Nat.le_refl _) _).trans ((put7_else (w := W2.alloc (.cells z7 83)) (b := W2.heap.size) (u8V c0) (u8V c1) (u8V c2) (u8V c3) (u8V c4) (u8V c5) (u8V c6)).below (by simp) (fun k hk e => by omega))
  have hl5 := (i.below hb2).lt
  have i3 := (i.below hb2).below hb3
  have hB3 := hb2.trans (hb3.mono hb2.size)
  generalize hq7 : W2.heap.size = b7 at *
  generalize put7 (W2.alloc (.cells z7 83)) b7 (u8V c0) (u8V c1) (u8V c2) (u8V c3) (u8V c4) (u8V c5) (u8V c6) = W3 at *
  obtain ⟨o1, o2, o3, o4⟩ := i.ord
  generalize hA : Act.put _ _ _ = a1
  have hz_a1 : a1.tmps.size = 44 := by rw [← hA]; simp only [size_put, hsz]
  have u2 : a1.eval (.tmp 2) = .pointer (some ⟨b2, 0, none⟩) := by rw [← hA]; exact (by simp [t2])
  have u4 : a1.eval (.tmp 4) = .pointer (some ⟨b4, 0, none⟩) := by rw [← hA]; exact (by simp [t4])
  have u5 : a1.eval (.tmp 5) = .pointer (some ⟨b5, 0, none⟩) := by rw [← hA]; exact (by simp [t5])
  have u7 : a1.eval (.tmp 7) = .pointer (some ⟨b7, 0, none⟩) := by rw [← hA]; exact (by simp [hsz])
  have u8 : a1.eval (.tmp 8) = .bool (isGood p) := by rw [← hA]; exact (by simp [hsz])
  have hd_a1 : a1.defers = [] := by rw [← hA]; simp only [defers_put, hdf]
  clear hA
  cases hg : isGood p with
  | false =>
    rw [hg] at u8
    have hst : ctStep x p = ⟨x.ng, x.nb + 1, x.nd, x.sn⟩ := by unfold ctStep; rw [hg]; rfl
    refine wpIn_seq (wpIn_block ?_)
    refine wpIn_seq (region_l 3 (wideF_round _ _) (by kernel_rfl) (by kernel_rfl) ?_)
    intro K hK
    refine ListK.move (i := 0) (v := .bool false) rfl (by simp [u8]) ?_
    refine ListK.un (i := 1) (u := .bool false) (v := .bool true) rfl (by simp [hz_a1]) (not4 _ _) ?_
    refine ListK.assign (i := 2) (v := .bool true) rfl (by simp [hz_a1]) ?_
    refine ListK.done (hK _ _ ?_)
    clear hK K
    refine wpIn_cond (t := true) (by simp [hz_a1]) ?_
    obtain ⟨i4, he4⟩ := i3.set (j := 1) (v := .int .i64 ((x.nb + 1 : Nat) : Int)) (y := ⟨x.ng, x.nb + 1, x.nd, x.sn⟩) (fun _ h => h) rfl
    generalize hA : Act.put _ _ _ = a2
    have hz_a2 : a2.tmps.size = 44 := by rw [← hA]; simp only [size_put, hz_a1]
    have v2 : a2.eval (.tmp 2) = .pointer (some ⟨b2, 0, none⟩) := by rw [← hA]; exact (by simp [u2])
    have v4 : a2.eval (.tmp 4) = .pointer (some ⟨b4, 0, none⟩) := by rw [← hA]; exact (by simp [u4])
    have v5 : a2.eval (.tmp 5) = .pointer (some ⟨b5, 0, none⟩) := by rw [← hA]; exact (by simp [u5])
    have v7 : a2.eval (.tmp 7) = .pointer (some ⟨b7, 0, none⟩) := by rw [← hA]; exact (by simp [u7])
    have hd_a2 : a2.defers = [] := by rw [← hA]; simp only [defers_put, hd_a1]
    clear hA
    refine wpIn_seq (region_l 5 (wideF_round _ _) (by kernel_rfl) (by kernel_rfl) ?_)
    intro K hK
    refine ListK.field (i := 0) (u := .pointer (some ⟨b4, 0, none⟩)) (v := .pointer (some ⟨b4, 1, none⟩)) rfl (by simp [v4]) (fa62_1 _) ?_
    refine ListK.load (i := 1) (p := ⟨b4, 1, none⟩) (v := .int .i64 (x.nb : Int)) rfl (by simp [hz_a2]) (ld3 (i3.w4.cell 1)) ?_
    refine ListK.bin (i := 2) (u := .int .i64 (x.nb : Int)) (u' := .int .i64 1) (v := .int .i64 ((x.nb + 1 : Nat) : Int)) rfl (by simp [hz_a2]) (by simp) (add3 (by omega) (by omega) _) ?_
    refine ListK.field (i := 3) (u := .pointer (some ⟨b4, 0, none⟩)) (v := .pointer (some ⟨b4, 1, none⟩)) rfl (by simp [v4]) (fa62_1 _) ?_
    refine ListK.store (i := 4) (u := .pointer (some ⟨b4, 1, none⟩)) (u' := .int .i64 ((x.nb + 1 : Nat) : Int)) rfl (by simp [hz_a2]) (by simp [hz_a2]) (st3 (i3.w4.cell 1) (i3.w4.frozen 1)) ?_
    refine ListK.done (hK _ _ (wpIn_exit ?_))
    refine hN _ _ (hst ▸ i4) ((Else.of_below _ hB3).trans (he4.mono (fun k _ e => .inl e)))
  | true =>
    rw [hg] at u8
    obtain rfl := hp hg
    refine wpIn_seq (wpIn_block ?_)
    refine wpIn_seq (region_l 3 (wideF_round _ _) (by kernel_rfl) (by kernel_rfl) ?_)
    intro K hK
    refine ListK.move (i := 0) (v := .bool true) rfl (by simp [u8]) ?_
    refine ListK.un (i := 1) (u := .bool true) (v := .bool false) rfl (by simp [hz_a1]) (not4 _ _) ?_
    refine ListK.assign (i := 2) (v := .bool false) rfl (by simp [hz_a1]) ?_
    refine ListK.done (hK _ _ ?_)
    clear hK K
    refine wpIn_cond (t := false) (by simp [hz_a1]) ?_
    generalize hA : Act.put _ _ _ = a2
    have hz_a2 : a2.tmps.size = 44 := by rw [← hA]; simp only [size_put, hz_a1]
    have v2 : a2.eval (.tmp 2) = .pointer (some ⟨b2, 0, none⟩) := by rw [← hA]; exact (by simp [u2])
    have v4 : a2.eval (.tmp 4) = .pointer (some ⟨b4, 0, none⟩) := by rw [← hA]; exact (by simp [u4])
    have v5 : a2.eval (.tmp 5) = .pointer (some ⟨b5, 0, none⟩) := by rw [← hA]; exact (by simp [u5])
    have v7 : a2.eval (.tmp 7) = .pointer (some ⟨b7, 0, none⟩) := by rw [← hA]; exact (by simp [u7])
    have hd_a2 : a2.defers = [] := by rw [← hA]; simp only [defers_put, hd_a1]
    clear hA
    have hlk := i3.mp.look kl102 (k7 [c0, c1, c2, c3, c4, c5, c6]) zv4
    rw [getK_seen (fun r hr => good_seven (i3.gd r hr)) rfl] at hlk
    have h12 : ∀ (y : Ct) (a3 : Act) (W4 : World), a3.tmps.size = 44 → a3.defers = [] → a3.eval (.tmp 2) = ptr b2 → a3.eval (.tmp 4) = ptr b4 → a3.eval (.tmp 5) = ptr b5 → a3.eval (.tmp 7) = ptr b7 → CtI W0 b2 b4 M b5 y W4 → Whole W4 b7 83 (r7 c0 c1 c2 c3 c4 c5 c6) → Else (fun k => k = b4 ∨ k = M) W1 W4 → y.ng = x.ng → y.sn = x.sn → y.nb = x.nb → ctStep x [c0, c1, c2, c3, c4, c5, c6] = ⟨y.ng + 1, y.nb, y.nd, if [c0, c1, c2, c3, c4, c5, c6] ∈ x.sn then x.sn else x.sn ++ [[c0, c1, c2, c3, c4, c5, c6]]⟩ →
        (Code.seq (.region 12 opsCt12 false) (.region 13 opsCt13 false)).wpIn (Fence.wide.inRound l) n Try.prog (Exit.inBlock 1 Q) a3 W4 := by
      intro y a3 W4 hz_a3 hd_a3 q2 q4 q5 q7 i4 w74 he4 hy1 hy2 hy3 hst
      obtain ⟨i5, he5⟩ := i4.set (j := 0) (v := .int .i64 ((y.ng + 1 : Nat) : Int)) (y := ⟨y.ng + 1, y.nb, y.nd, y.sn⟩) (fun _ h => h) rfl
      have w75 := he5.whole (by omega) w74
      refine wpIn_seq (region_l 5 (wideF_round _ _) (by kernel_rfl) (by kernel_rfl) ?_)
      intro K hK
      refine ListK.field (i := 0) (u := .pointer (some ⟨b4, 0, none⟩)) (v := .pointer (some ⟨b4, 0, none⟩)) rfl (by simp [q4]) (fa62_0 _) ?_
      refine ListK.load (i := 1) (p := ⟨b4, 0, none⟩) (v := .int .i64 (y.ng : Int)) rfl (by simp [hz_a3]) (ld3 (i4.w4.cell 0)) ?_
      refine ListK.bin (i := 2) (u := .int .i64 (y.ng : Int)) (u' := .int .i64 1) (v := .int .i64 ((y.ng + 1 : Nat) : Int)) rfl (by simp [hz_a3]) (by simp) (add3 (by omega) (by omega) _) ?_
      refine ListK.field (i := 3) (u := .pointer (some ⟨b4, 0, none⟩)) (v := .pointer (some ⟨b4, 0, none⟩)) rfl (by simp [q4]) (fa62_0 _) ?_
      refine ListK.store (i := 4) (u := .pointer (some ⟨b4, 0, none⟩)) (u' := .int .i64 ((y.ng + 1 : Nat) : Int)) rfl (by simp [hz_a3]) (by simp [hz_a3]) (st3 (i4.w4.cell 0) (i4.w4.frozen 0)) ?_
      refine ListK.done (hK _ _ ?_)
      clear hK K
      obtain ⟨W6, hput, i6, he6⟩ := i5.put hg
      generalize hA : Act.put _ _ _ = a4
      have hz_a4 : a4.tmps.size = 44 := by rw [← hA]; simp only [size_put, hz_a3]
      have r5 : a4.eval (.tmp 5) = .pointer (some ⟨b5, 0, none⟩) := by rw [← hA]; exact (by simp [q5])
      have r7 : a4.eval (.tmp 7) = .pointer (some ⟨b7, 0, none⟩) := by rw [← hA]; exact (by simp [q7])
      have hd_a4 : a4.defers = [] := by rw [← hA]; simp only [defers_put, hd_a3]
      clear hA
      refine region_l 3 (wideF_round _ _) (by kernel_rfl) (by kernel_rfl) ?_
      intro K hK
      refine ListK.load (i := 0) (p := ⟨b5, 0, none⟩) (v := .map (some M)) rfl (by simp [r5]) (ld102 (i5.w5.cell 0)) ?_
      refine ListK.load (i := 1) (p := ⟨b7, 0, none⟩) (v := rV c0 c1 c2 c3 c4 c5 c6) rfl (by simp [r7]) (ld83 w75) ?_
      refine ListK.mapUp (i := 2) (u := .map (some M)) (u' := rV c0 c1 c2 c3 c4 c5 c6) (u'' := .bool true) rfl (by simp [hz_a4]) (by simp [hz_a4]) (by simp) hput ?_
      refine ListK.done (hK _ _ ?_)
      clear hK K
      refine hN _ _ ?_ ((he4.trans (he5.mono (fun k _ e => .inl e))).trans (he6.mono (fun k _ e => .inr e)))
      rw [hst]
      have h6 := i6
      rw [hy2] at h6
      exact h6
    refine wpIn_seq (region_l 4 (wideF_round _ _) (by kernel_rfl) (by kernel_rfl) ?_)
    intro K hK
    refine ListK.load (i := 0) (p := ⟨b5, 0, none⟩) (v := .map (some M)) rfl (by simp [v5]) (ld102 (i3.w5.cell 0)) ?_
    refine ListK.load (i := 1) (p := ⟨b7, 0, none⟩) (v := rV c0 c1 c2 c3 c4 c5 c6) rfl (by simp [v7]) (ld83 w7) ?_
    refine ListK.look (i := 2) (u := .map (some M)) (u' := rV c0 c1 c2 c3 c4 c5 c6) (v := .bool (decide ([c0, c1, c2, c3, c4, c5, c6] ∈ x.sn))) rfl (by simp [hz_a2]) (by simp [hz_a2]) hlk ?_
    refine ListK.assign (i := 3) (v := .bool (decide ([c0, c1, c2, c3, c4, c5, c6] ∈ x.sn))) rfl (by simp [hz_a2]) ?_
    refine ListK.done (hK _ _ ?_)
    clear hK K
    generalize hA : Act.put _ _ _ = a3
    have hz_a3 : a3.tmps.size = 44 := by rw [← hA]; simp only [size_put, hz_a2]
    have s2 : a3.eval (.tmp 2) = .pointer (some ⟨b2, 0, none⟩) := by rw [← hA]; exact (by simp [v2])
    have s4 : a3.eval (.tmp 4) = .pointer (some ⟨b4, 0, none⟩) := by rw [← hA]; exact (by simp [v4])
    have s5 : a3.eval (.tmp 5) = .pointer (some ⟨b5, 0, none⟩) := by rw [← hA]; exact (by simp [v5])
    have s7 : a3.eval (.tmp 7) = .pointer (some ⟨b7, 0, none⟩) := by rw [← hA]; exact (by simp [v7])
    have s29 : a3.eval (.tmp 29) = .bool (decide ([c0, c1, c2, c3, c4, c5, c6] ∈ x.sn)) := by rw [← hA]; exact (by simp [hz_a2])
    have hd_a3 : a3.defers = [] := by rw [← hA]; simp only [defers_put, hd_a2]
    clear hA
    by_cases hin : [c0, c1, c2, c3, c4, c5, c6] ∈ x.sn
    · have hst : ctStep x [c0, c1, c2, c3, c4, c5, c6] = ⟨x.ng + 1, x.nb, x.nd + 1, if [c0, c1, c2, c3, c4, c5, c6] ∈ x.sn then x.sn else x.sn ++ [[c0, c1, c2, c3, c4, c5, c6]]⟩ := by unfold ctStep; rw [if_pos hg, if_pos hin, if_pos hin]
      rw [decide_eq_true hin] at s29
      refine wpIn_cond (t := true) s29 ?_
      obtain ⟨i4, he4⟩ := i3.set (j := 2) (v := .int .i64 ((x.nd + 1 : Nat) : Int)) (y := ⟨x.ng, x.nb, x.nd + 1, x.sn⟩) (fun _ h => h) rfl
      refine region_l 5 (wideF_round _ _) (by kernel_rfl) (by kernel_rfl) ?_
      intro K hK
      refine ListK.field (i := 0) (u := .pointer (some ⟨b4, 0, none⟩)) (v := .pointer (some ⟨b4, 2, none⟩)) rfl (by simp [s4]) (fa62_2 _) ?_
      refine ListK.load (i := 1) (p := ⟨b4, 2, none⟩) (v := .int .i64 (x.nd : Int)) rfl (by simp [hz_a3]) (ld3 (i3.w4.cell 2)) ?_
      refine ListK.bin (i := 2) (u := .int .i64 (x.nd : Int)) (u' := .int .i64 1) (v := .int .i64 ((x.nd + 1 : Nat) : Int)) rfl (by simp [hz_a3]) (by simp) (add3 (by omega) (by omega) _) ?_
      refine ListK.field (i := 3) (u := .pointer (some ⟨b4, 0, none⟩)) (v := .pointer (some ⟨b4, 2, none⟩)) rfl (by simp [s4]) (fa62_2 _) ?_
      refine ListK.store (i := 4) (u := .pointer (some ⟨b4, 2, none⟩)) (u' := .int .i64 ((x.nd + 1 : Nat) : Int)) rfl (by simp [hz_a3]) (by simp [hz_a3]) (st3 (i3.w4.cell 2) (i3.w4.frozen 2)) ?_
      refine ListK.done (hK _ _ ?_)
      clear hK K
      exact h12 ⟨x.ng, x.nb, x.nd + 1, x.sn⟩ _ _ (by simp only [size_put, hz_a3]) (by simp only [defers_put, hd_a3]) (by simp [s2]) (by simp [s4]) (by simp [s5]) (by simp [s7]) i4 (he4.whole (by omega) w7) ((Else.of_below _ hB3).trans (he4.mono (fun k _ e => .inl e))) rfl rfl rfl hst
    · have hst : ctStep x [c0, c1, c2, c3, c4, c5, c6] = ⟨x.ng + 1, x.nb, x.nd, if [c0, c1, c2, c3, c4, c5, c6] ∈ x.sn then x.sn else x.sn ++ [[c0, c1, c2, c3, c4, c5, c6]]⟩ := by unfold ctStep; rw [if_pos hg, if_neg hin, if_neg hin]
      rw [decide_eq_false hin] at s29
      refine wpIn_cond (t := false) s29 (wpIn_skip ?_)
      exact h12 x _ _ hz_a3 hd_a3 s2 s4 s5 s7 i3 w7 (Else.of_below _ hB3) rfl rfl rfl hst
end
end Go.Proofs.YtmdlmmfbcnkanaaR
namespace Go.Proofs.YtmdlmmfbcnkanaaR
open Go.RowKit Go.Shelf
theorem pieces_len : ∀ (l acc : List UInt8), (pieces acc l).length ≤ l.length
  | [], acc => by simp [pieces]
  | b :: l, acc => by
    unfold pieces
    split
    · have := pieces_len l []
      simp only [List.length_cons]
      omega
    · have := pieces_len l (acc ++ [b])
      simp only [List.length_cons]
      omega
def countR (l : List UInt8) : Ct × Int := if 4000 < l.length then (⟨0, 0, 0, []⟩, 3) else (ctAll (pieces [] l), 0)
def CtP (W0 : World) (l : List UInt8) : Ending → World → Prop := fun e w' => e = .returned (.tuple #[.agg (c62 (countR l).1.ng (countR l).1.nb (countR l).1.nd), .int .i64 (countR l).2]) ∧ Below W0.heap.size W0 w'
section
variable {W0 : World} {b2 b4 M b5 : Nat}
set_option maxHeartbeats 400000 in
theorem ct_range_any {c bb : Nat} {A : Option Addr} {l : List UInt8} {a : Act} {W : World} {Q : Exit → Act → World → Prop} (hl : l.length ≤ 4000) (hc : l.length ≤ c) (hs : BytesAt W0 W0.heap.size A l)
    (hsz : a.tmps.size = 44) (t2 : a.eval (.tmp 2) = ptr b2) (t4 : a.eval (.tmp 4) = ptr b4) (t5 : a.eval (.tmp 5) = ptr b5) (t15 : a.eval (.tmp 15) = .func (.func 85) #[] #[ptr bb])
    (wb : Whole W bb 31 #[.slice A l.length c]) (hbb : b5 < bb) (i : CtI W0 b2 b4 M b5 ⟨0, 0, 0, []⟩ W)
    (hN : ∀ D W', W.heap.size ≤ D → CtI W0 b2 b4 M b5 (ctAll (pieces [] l)) W' → W'.heap[D]? = some (.deferred (some [])) → Q .normal { a with defers := mark D :: a.defers } W') :
    ct_range.wpIn Fence.wide 5 Try.prog Q a W := by
  obtain ⟨o1, o2, o3, o4⟩ := i.ord
  have hlt5 := i.lt
  have hltb := wb.lt
  have hpl := pieces_len l []
  obtain ⟨ps, hps⟩ : ∃ ps, ps = pieces [] l := ⟨_, rfl⟩
  rw [← hps] at hpl hN
  unfold ct_range
  refine range_ix (bb := bb) (N := ps.length) (Z := fun W => BytesAt W W0.heap.size A l) rfl (by omega) t15 trivial (enters_of Try.func85 (by kernel_rfl) rfl) (by rw [hps]; exact pieces_it 4 A c W0.heap.size bb l (by omega) hc W wb) (Below.refl _ _) wb.lt (fun i => rfl)
    (fun j W' => CtI W0 b2 b4 M b5 ((ps.take j).foldl ctStep ⟨0, 0, 0, []⟩) W' ∧ W.heap.size ≤ W'.heap.size) (fun _ _ _ => False) ?_ ?_ ?_ ⟨i, Nat.le_refl _⟩
    (fun j a' _ => (a'.tmps.size = 44 ∧ a'.eval (.tmp 2) = ptr b2 ∧ a'.eval (.tmp 4) = ptr b4 ∧ a'.eval (.tmp 5) = ptr b5) ∧ a'.defers = [] ∧ a'.eval (.tmp 6) = .slice (adr A (posP ps j)) (ps[j]?.getD []).length (c - posP ps j)) (fun j a' _ _ _ _ h _ _ => h) ?_ ?_ ?_ ?_
  · rintro j X Y row ⟨h1, h3⟩ hg hr
    refine ⟨h1.else (Else.of_grown hg) (fun k hk e => ?_), Nat.le_trans h3 hg.size⟩
    rcases hr k e.symm with h | ⟨h, _⟩ <;> omega
  · rintro c' j X Y row h
    exact h.elim
  · rintro j X ⟨h2, _⟩
    exact hs.below h2.low (Nat.le_refl _)
  · intro ly j W1 K hj hi hK
    unfold ct_as
    have hv : encP A c l j = #[.slice (adr A (posP ps j)) (ps[j]?.getD []).length (c - posP ps j)] := by rw [hps]; rfl
    rw [hv, fold1]
    refine region_l 1 (wideF_round _ _) (by kernel_rfl) (by kernel_rfl) ?_
    intro KK hKK
    refine ListK.assign (i := 0) (v := .slice (adr A (posP ps j)) (ps[j]?.getD []).length (c - posP ps j)) rfl (by simp [Act.eval, hsz]) ?_
    refine ListK.done (hKK _ _ ?_)
    have hput : ∀ v : Value, (Act.mk (a.tmps.setIfInBounds 16 v) []) = (Act.mk a.tmps []).put (some 16) v := fun _ => rfl
    refine hK _ _ (KeepsFrom.refl _ _) rfl hi ⟨⟨?_, ?_, ?_, ?_⟩, rfl, ?_⟩
    · simp [Act.put, hsz]
    · rw [hput]
      rw [ev_ne (by omega), ev_ne (by omega)]
      exact t2
    · rw [hput]
      rw [ev_ne (by omega), ev_ne (by omega)]
      exact t4
    · rw [hput]
      rw [ev_ne (by omega), ev_ne (by omega)]
      exact t5
    · rw [ev_same (by simp [hsz])]
  · rintro ly j a' W1 hj ⟨h2, h3⟩ ⟨⟨f0, f2, f4, f5⟩, hdf', t6⟩
    have hp := List.getElem?_eq_getElem hj
    rw [hp] at t6
    have hpf := (pieces_find l j).2 ps[j] (by rw [← hps]; exact hp)
    rw [← hps] at hpf
    obtain ⟨_, hp2, _, hp4⟩ := hpf
    have hb1 : BytesAt W1 W1.heap.size (adr A (posP ps j)) ps[j] := by
      rw [hp2]
      exact ((((hs.below h2.low (Nat.le_refl _)).drop (k := posP ps j) (fun _ => rfl)).take _).more h2.low.size)
    have hXk : ∀ k, W.heap.size ≤ k → ¬ (k = b4 ∨ k = M) := fun k hk e => by omega
    have hle := ct_le (ps.take j) ⟨0, 0, 0, []⟩ (Nat.le_refl _)
    have htl : (ps.take j).length ≤ 4000 := by rw [List.length_take]; omega
    refine ct_body_any (by omega) hb1 (by simp only [Nat.zero_add] at hle; omega) f0 hdf' f2 f4 f5 t6 h2 (fun a2 W2 i2 he => ?_)
    refine ⟨KeepsFrom.of_else he hXk, he.block bb (by omega) (fun e => by omega), ?_, Nat.le_trans h3 he.size⟩
    have h1 : ps.take (j + 1) = ps.take j ++ [ps[j]] := by
      rw [List.take_add_one, hp]
      rfl
    rw [h1, List.foldl_append]
    exact i2
  · rintro D W1 hD ⟨h2, _⟩ hh
    rw [List.take_length] at h2
    exact hN D W1 hD h2 hh
  · rintro D c' j W1 hD _ h hh
    exact h.elim
end
set_option maxHeartbeats 400000 in
theorem count_any (A : Option Addr) (l : List UInt8) (c : Nat) (W : World) (hc : l.length ≤ c) (hs : BytesAt W W.heap.size A l) : Calls Try.prog 37 #[.slice A l.length c] W (CtP W l) := by
  refine (callsIn_wide (n := 5)).1 (callsIn_of_wp_marks Try.func37 body37 trivial ?_ rfl)
  obtain ⟨a, ha⟩ : ∃ a : Act, a = { tmps := #[.slice A l.length c] ++ Array.replicate (Try.f37.ntmps - (#[.slice A l.length c] : Array Value).size) undef, defers := [] } := ⟨_, rfl⟩
  have hsz : a.tmps.size = 44 := by rw [ha]; simp [Try.ntmps37]
  have t0 : a.eval (.tmp 0) = .slice A l.length c := by rw [ha]; simp [Act.eval]
  have hd_a : a.defers = [] := by rw [ha]
  rw [← ha]
  clear ha
  unfold code37
  refine wpIn_seq (region_p 2 ?_)
  intro K hK
  refine ListK.alloc (i := 0) rfl (al62 W) ?_
  refine ListK.assign (i := 1) (v := .int .i64 0) rfl (by simp) ?_
  refine ListK.done (hK _ _ ?_)
  clear hK K
  have hb0 : Below W.heap.size W (W.alloc (.cells #[.int .i64 0, .int .i64 0, .int .i64 0] 62)) := (Below.refl _ W).alloc (Nat.le_refl _) _
  have w2 := Whole.new W 62 #[.int .i64 0, .int .i64 0, .int .i64 0]
  generalize hq2 : W.heap.size = b2 at *
  generalize W.alloc (.cells #[.int .i64 0, .int .i64 0, .int .i64 0] 62) = W1 at *
  generalize hA : Act.put _ _ _ = a1
  have hz_a1 : a1.tmps.size = 44 := by rw [← hA]; simp only [size_put, hsz]
  have u0 : a1.eval (.tmp 0) = .slice A l.length c := by rw [← hA]; exact (by simp [t0])
  have u2 : a1.eval (.tmp 2) = .pointer (some ⟨b2, 0, none⟩) := by rw [← hA]; exact (by simp [hsz])
  have hd_a1 : a1.defers = [] := by rw [← hA]; simp only [defers_put, hd_a]
  clear hA
  by_cases hbig : 4000 < l.length
  · have hcr : countR l = (⟨0, 0, 0, []⟩, 3) := by unfold countR; rw [if_pos hbig]
    refine wpIn_seq (wpIn_seq (region_p 3 ?_))
    intro K hK
    refine ListK.move (i := 0) (v := .slice A l.length c) rfl (by simp [u0]) ?_
    refine ListK.len (i := 1) (u := .slice A l.length c) (v := .int .i64 l.length) rfl (by simp [hz_a1]) (ln31 _ _ _ _ _) rfl ?_
    refine ListK.bin (i := 2) (u := .int .i64 l.length) (u' := .int .i64 4000) (v := .bool true) rfl (by simp [hz_a1]) (by simp) (gtrT3 (by omega) _) ?_
    refine ListK.done (hK _ _ ?_)
    clear hK K
    refine wpIn_cond (t := true) (by simp [hz_a1]) ?_
    have he : Else (fun k => k = b2) W1 (((W1.setCell ⟨b2, 0, none⟩ (.int .i64 0)).setCell ⟨b2, 1, none⟩ (.int .i64 0)).setCell ⟨b2, 2, none⟩ (.int .i64 0)) := (((Else.refl (fun k => k = b2) W1).setCell (p := ⟨b2, 0, none⟩) (.inl rfl) _).setCell (p := ⟨b2, 1, none⟩) (.inl rfl) _).setCell (p := ⟨b2, 2, none⟩) (.inl rfl) _
    have w2' := ((w2.set 0 (.int .i64 0)).set 1 (.int .i64 0)).set 2 (.int .i64 0)
    refine wpIn_seq (region_p 3 ?_)
    intro K hK
    refine ListK.bld (i := 0) (ps := #[]) (v := .agg #[.int .i64 0, .int .i64 0, .int .i64 0]) rfl (by simp) (bd62_0 _) ?_
    refine ListK.store (i := 1) (u := .pointer (some ⟨b2, 0, none⟩)) (u' := .agg #[.int .i64 0, .int .i64 0, .int .i64 0]) rfl (by simp [u2]) (by simp [hz_a1]) (st62 w2) ?_
    refine ListK.assign (i := 2) (v := .int .i64 3) rfl (by simp) ?_
    refine ListK.done (hK _ _ (wpIn_ret ?_))
    show LeavesInM _ _ _ _ _ _ (Act.defers _) _ _
    rw [show (Act.defers _) = [] from (by simp only [defers_put, hd_a1])]
    have hB : Below b2 W (((W1.setCell ⟨b2, 0, none⟩ (.int .i64 0)).setCell ⟨b2, 1, none⟩ (.int .i64 0)).setCell ⟨b2, 2, none⟩ (.int .i64 0)) := hb0.trans (he.below (by have := hb0.size; omega) (fun k hk e => by omega))
    refine ⟨.tuple #[.agg #[.int .i64 0, .int .i64 0, .int .i64 0], .int .i64 3], res62b Try.results37 (by simp [u2]) (by simp [hz_a1]) w2', by rw [hcr]; rfl, by rw [hq2]; exact hB⟩
  · have hcr : countR l = (ctAll (pieces [] l), 0) := by unfold countR; rw [if_neg hbig]
    refine wpIn_seq (wpIn_seq (region_p 3 ?_))
    intro K hK
    refine ListK.move (i := 0) (v := .slice A l.length c) rfl (by simp [u0]) ?_
    refine ListK.len (i := 1) (u := .slice A l.length c) (v := .int .i64 l.length) rfl (by simp [hz_a1]) (ln31 _ _ _ _ _) rfl ?_
    refine ListK.bin (i := 2) (u := .int .i64 l.length) (u' := .int .i64 4000) (v := .bool false) rfl (by simp [hz_a1]) (by simp) (gtrF3 (by omega) _) ?_
    refine ListK.done (hK _ _ ?_)
    clear hK K
    refine wpIn_cond (t := false) (by simp [hz_a1]) (wpIn_skip ?_)
    generalize hA : Act.put _ _ _ = a2
    have hz_a2 : a2.tmps.size = 44 := by rw [← hA]; simp only [size_put, hz_a1]
    have v0 : a2.eval (.tmp 0) = .slice A l.length c := by rw [← hA]; exact (by simp [u0])
    have v2 : a2.eval (.tmp 2) = .pointer (some ⟨b2, 0, none⟩) := by rw [← hA]; exact (by simp [u2])
    have hd_a2 : a2.defers = [] := by rw [← hA]; simp only [defers_put, hd_a1]
    clear hA
    refine wpIn_seq (region_p 1 ?_)
    intro K hK
    refine ListK.alloc (i := 0) rfl (al62 W1) ?_
    refine ListK.done (hK _ _ ?_)
    clear hK K
    have hs0 := hb0.size
    have hb1 : Below W1.heap.size W1 (W1.alloc (.cells #[.int .i64 0, .int .i64 0, .int .i64 0] 62)) := (Below.refl _ W1).alloc (Nat.le_refl _) _
    have hB1 := hb0.trans (hb1.mono (by omega))
    have hl2 := w2.lt
    replace w2 := w2.below hb1 w2.lt
    have w4 := Whole.new W1 62 #[.int .i64 0, .int .i64 0, .int .i64 0]
    generalize hq4 : W1.heap.size = b4 at *
    generalize W1.alloc (.cells #[.int .i64 0, .int .i64 0, .int .i64 0] 62) = W2 at *
    generalize hA : Act.put _ _ _ = a3
    have hz_a3 : a3.tmps.size = 44 := by rw [← hA]; simp only [size_put, hz_a2]
    have q0 : a3.eval (.tmp 0) = .slice A l.length c := by rw [← hA]; exact (by simp [v0])
    have q2 : a3.eval (.tmp 2) = .pointer (some ⟨b2, 0, none⟩) := by rw [← hA]; exact (by simp [v2])
    have q4 : a3.eval (.tmp 4) = .pointer (some ⟨b4, 0, none⟩) := by rw [← hA]; exact (by simp [hz_a2])
    have hd_a3 : a3.defers = [] := by rw [← hA]; simp only [defers_put, hd_a2]
    clear hA
    have hmp0 := MapAt.new (kv := kv7) W2
    refine wpIn_seq (region_p 3 ?_)
    intro K hK
    refine ListK.mkM (i := 0) rfl (mm102 W2) ?_
    refine ListK.alloc (i := 1) rfl (al102 (W2.alloc (.map #[] 0))) ?_
    refine ListK.store (i := 2) (u := .pointer (some ⟨(W2.alloc (.map #[] 0)).heap.size, 0, none⟩)) (u' := .map (some W2.heap.size)) rfl (by simp [hz_a3]) (by simp [hz_a3]) (st102 ((Whole.new (W2.alloc (.map #[] 0)) 102 #[.map none]).cell 0) ((Whole.new (W2.alloc (.map #[] 0)) 102 #[.map none]).frozen 0)) ?_
    refine ListK.done (hK _ _ ?_)
    clear hK K
    have hs1 := hB1.size
    have hl4 := w4.lt
    have hbm : Below W2.heap.size W2 (W2.alloc (.map #[] 0)) := (Below.refl _ W2).alloc (Nat.le_refl _) _
    have hB2 := hB1.trans (hbm.mono (by omega))
    replace w2 := w2.below hbm w2.lt
    replace w4 := w4.below hbm w4.lt
    have hlM := hmp0.lt
    generalize hqM : W2.heap.size = M at *
    generalize W2.alloc (.map #[] 0) = W3 at *
    have hb5 : Below W3.heap.size W3 ((W3.alloc (.cells #[.map none] 102)).setCell ⟨W3.heap.size, 0, none⟩ (.map (some M))) := ((Below.refl _ W3).alloc (Nat.le_refl _) _).setCell (p := ⟨W3.heap.size, 0, none⟩) (Nat.le_refl _) _
    have hs2 := hB2.size
    have hB3 := hB2.trans (hb5.mono (by omega))
    replace w2 := w2.below hb5 w2.lt
    replace w4 := w4.below hb5 w4.lt
    have hmp := hmp0.keep (hb5.block M hlM)
    have w5 := (Whole.new W3 102 #[.map none]).set 0 (.map (some M))
    generalize hq5 : W3.heap.size = b5 at *
    generalize (W3.alloc (.cells #[.map none] 102)).setCell ⟨b5, 0, none⟩ (.map (some M)) = W4 at *
    have hl5 := w5.lt
    have hs3 := hB3.size
    have i4 : CtI W b2 b4 M b5 ⟨0, 0, 0, []⟩ W4 := ⟨by rw [hq2]; exact hB3, ⟨by omega, by omega, by omega, by omega⟩, w2, w4, w5, hmp, fun r hr => (List.not_mem_nil hr).elim⟩
    generalize hA : Act.put _ _ _ = a4
    have hz_a4 : a4.tmps.size = 44 := by rw [← hA]; simp only [size_put, hz_a3]
    have r0 : a4.eval (.tmp 0) = .slice A l.length c := by rw [← hA]; exact (by simp [q0])
    have r2 : a4.eval (.tmp 2) = .pointer (some ⟨b2, 0, none⟩) := by rw [← hA]; exact (by simp [q2])
    have r4 : a4.eval (.tmp 4) = .pointer (some ⟨b4, 0, none⟩) := by rw [← hA]; exact (by simp [q4])
    have r5 : a4.eval (.tmp 5) = .pointer (some ⟨b5, 0, none⟩) := by rw [← hA]; exact (by simp [hz_a3])
    have hd_a4 : a4.defers = [] := by rw [← hA]; simp only [defers_put, hd_a3]
    clear hA
    refine wpIn_seq (wpIn_seq (region_p 2 ?_))
    intro K hK
    refine ListK.move (i := 0) (v := .slice A l.length c) rfl (by simp [r0]) ?_
    refine ListK.call (i := 1) (vs := #[.slice A l.length c]) rfl (enters_of Try.func66 (by kernel_rfl) rfl) (by simp [hz_a4]) ((pieces_any A l.length c W4).mono ?_)
    rintro _ W5 ⟨rfl, rfl⟩
    refine ⟨_, rfl, ?_⟩
    refine ListK.done (hK _ _ ?_)
    clear hK K
    have hb6 : Below W4.heap.size W4 (W4.alloc (.cells #[.slice A l.length c] 31)) := (Below.refl _ W4).alloc (Nat.le_refl _) _
    have i5 := i4.below hb6
    have wb := Whole.new W4 31 #[.slice A l.length c]
    generalize hA : Act.put _ _ _ = a5
    have hz_a5 : a5.tmps.size = 44 := by rw [← hA]; simp only [size_put, hz_a4]
    have p2 : a5.eval (.tmp 2) = .pointer (some ⟨b2, 0, none⟩) := by rw [← hA]; exact (by simp [r2])
    have p4 : a5.eval (.tmp 4) = .pointer (some ⟨b4, 0, none⟩) := by rw [← hA]; exact (by simp [r4])
    have p5 : a5.eval (.tmp 5) = .pointer (some ⟨b5, 0, none⟩) := by rw [← hA]; exact (by simp [r5])
    have p15 : a5.eval (.tmp 15) = .func (.func 85) #[] #[ptr W4.heap.size] := by rw [← hA]; exact (by simp [hz_a4])
    have hd_a5 : a5.defers = [] := by rw [← hA]; simp only [defers_put, hd_a4]
    clear hA
    refine wpIn_block (ct_range_any (by omega) hc (by rw [hq2]; exact hs) hz_a5 p2 p4 p5 p15 wb hl5 i5 (fun D W6 hD i6 hh => ?_))
    obtain ⟨o1, o2, o3, o4⟩ := i6.ord
    show (Code.wpIn _ _ _ ct_e _ _ _)
    have hd_a6 : ({ a5 with defers := mark D :: a5.defers } : Act).defers = [mark D] := by simp [hd_a5]
    have z5 : ({ a5 with defers := mark D :: a5.defers } : Act).tmps.size = 44 := hz_a5
    have y2 : ({ a5 with defers := mark D :: a5.defers } : Act).eval (.tmp 2) = ptr b2 := p2
    have y4 : ({ a5 with defers := mark D :: a5.defers } : Act).eval (.tmp 4) = ptr b4 := p4
    generalize ({ a5 with defers := mark D :: a5.defers } : Act) = a6 at *
    unfold ct_e
    generalize hx : ctAll (pieces [] l) = x at *
    have he : Else (fun k => k = b2) W6 (((W6.setCell ⟨b2, 0, none⟩ (.int .i64 (x.ng : Int))).setCell ⟨b2, 1, none⟩ (.int .i64 (x.nb : Int))).setCell ⟨b2, 2, none⟩ (.int .i64 (x.nd : Int))) := (((Else.refl (fun k => k = b2) W6).setCell (p := ⟨b2, 0, none⟩) (.inl rfl) _).setCell (p := ⟨b2, 1, none⟩) (.inl rfl) _).setCell (p := ⟨b2, 2, none⟩) (.inl rfl) _
    have w2' := ((i6.w2.set 0 (.int .i64 (x.ng : Int))).set 1 (.int .i64 (x.nb : Int))).set 2 (.int .i64 (x.nd : Int))
    refine wpIn_seq (region_p 3 ?_)
    intro K hK
    refine ListK.load (i := 0) (p := ⟨b4, 0, none⟩) (v := .agg (c62 x.ng x.nb x.nd)) rfl (by simp [y4]) (ld62 ⟨i6.w4.cell 0, i6.w4.cell 1, i6.w4.cell 2⟩) ?_
    refine ListK.store (i := 1) (u := .pointer (some ⟨b2, 0, none⟩)) (u' := .agg (c62 x.ng x.nb x.nd)) rfl (by simp [y2]) (by simp [z5]) (st62 i6.w2) ?_
    refine ListK.assign (i := 2) (v := .int .i64 0) rfl (by simp) ?_
    refine ListK.done (hK _ _ (wpIn_ret ?_))
    have hB7 := i6.low.trans (he.below i6.low.size (fun k hk e => by omega))
    generalize ((W6.setCell ⟨b2, 0, none⟩ (.int .i64 (x.ng : Int))).setCell ⟨b2, 1, none⟩ (.int .i64 (x.nb : Int))).setCell ⟨b2, 2, none⟩ (.int .i64 (x.nd : Int)) = W7 at *
    have hmk : Mk (b5 + 1) [D] W7 := (Mk.nil _ _).cons (by have := hb6.size; omega) ((he.block D (Array.getElem?_eq_some_iff.1 hh).1 (by have := hb6.size; omega)).trans hh) (fun _ h => (List.not_mem_nil h).elim)
    show LeavesInM _ _ _ _ _ _ (Act.defers _) _ _
    rw [show (Act.defers _) = [D].map mark from by simp only [defers_put, hd_a6, List.map_cons, List.map_nil]]
    refine leaves_marks2 (h := b5 + 1) (v := .tuple #[.agg (c62 x.ng x.nb x.nd), .int .i64 0]) (fun w => Below W.heap.size W w ∧ Whole w b2 62 (c62 x.ng x.nb x.nd)) ?_ ?_ ?_ [D] W7 hmk ⟨hB7, w2'⟩
    · rintro W' D' hD' _ ⟨h1, h2⟩
      exact ⟨below_put_mark h1 (by omega) _, (World.putObj_heap_other (by omega)).trans h2⟩
    · rintro W' ⟨_, h2⟩
      exact res62b Try.results37 (by simp [y2]) (by simp [z5]) h2
    · rintro W' ⟨h1, _⟩
      exact ⟨by rw [hcr], h1⟩
end Go.Proofs.YtmdlmmfbcnkanaaR
namespace Go.Proofs.YtmdlmmfbcnkanaaR

/-- A list without doubles, behind what there is. -/
def withoutL : List (List UInt8) → List (List UInt8) → List (List UInt8)
  | out, [] => out
  | out, p :: l => withoutL (if p ∈ out then out else out ++ [p]) l
theorem withoutL_len : ∀ (l out : List (List UInt8)), (withoutL out l).length ≤ out.length + l.length
  | [], out => by simp [withoutL]
  | p :: l, out => by
    have := withoutL_len l (if p ∈ out then out else out ++ [p])
    rw [withoutL]
    split at this <;> rename_i h <;> simp only [h, if_true, if_false] at this ⊢ <;> simp only [List.length_append, List.length_cons, List.length_nil] at this ⊢ <;> omega
theorem ct_all : ∀ (ps : List (List UInt8)) (x : Ct), x.nd + x.sn.length = x.ng →
    (ps.foldl ctStep x).ng = x.ng + (ps.filter isGood).length ∧ (ps.foldl ctStep x).nb + (ps.filter isGood).length = x.nb + ps.length ∧ (ps.foldl ctStep x).sn = withoutL x.sn (ps.filter isGood) ∧ (ps.foldl ctStep x).nd + (ps.foldl ctStep x).sn.length = (ps.foldl ctStep x).ng
  | [], x, h => ⟨by simp, by simp, by simp [withoutL], h⟩
  | p :: ps, x, h => by
    rw [List.foldl_cons]
    by_cases hg : isGood p = true
    · by_cases hi : p ∈ x.sn
      · have e : ctStep x p = ⟨x.ng + 1, x.nb, x.nd + 1, x.sn⟩ := by unfold ctStep; rw [if_pos hg, if_pos hi]
        have ih := ct_all ps (ctStep x p) (by rw [e]; simp only; omega)
        rw [e] at ih ⊢
        rw [List.filter_cons_of_pos hg, withoutL, if_pos hi]
        simp only [List.length_cons] at ih ⊢
        refine ⟨by omega, by omega, ih.2.2.1, ih.2.2.2⟩
      · have e : ctStep x p = ⟨x.ng + 1, x.nb, x.nd, x.sn ++ [p]⟩ := by unfold ctStep; rw [if_pos hg, if_neg hi]
        have ih := ct_all ps (ctStep x p) (by rw [e]; simp only [List.length_append, List.length_cons, List.length_nil]; omega)
        rw [e] at ih ⊢
        rw [List.filter_cons_of_pos hg, withoutL, if_neg hi]
        simp only [List.length_cons] at ih ⊢
        refine ⟨by omega, by omega, ih.2.2.1, ih.2.2.2⟩
    · have e : ctStep x p = ⟨x.ng, x.nb + 1, x.nd, x.sn⟩ := by unfold ctStep; rw [if_neg hg]
      have ih := ct_all ps (ctStep x p) (by rw [e]; exact h)
      rw [e] at ih ⊢
      rw [List.filter_cons_of_neg hg]
      simp only [List.length_cons] at ih ⊢
      refine ⟨by omega, by omega, ih.2.2.1, ih.2.2.2⟩
theorem counts_is {l : List UInt8} (h : l.length ≤ 4000) : (countR l).2 = 0 ∧ (countR l).1.ng = (goods l).length ∧ (countR l).1.nb + (goods l).length = (pieces [] l).length ∧ (countR l).1.nd + (withoutL [] (goods l)).length = (goods l).length := by
  have ht := ct_all (pieces [] l) ⟨0, 0, 0, []⟩ rfl
  unfold countR
  rw [if_neg (by omega)]
  simp only [ctAll] at ht ⊢
  obtain ⟨h1, h2, h3, h4⟩ := ht
  rw [h3] at h4
  refine ⟨trivial, ?_, ?_, ?_⟩
  · rw [h1]; simp [goods]
  · simpa [goods] using h2
  · rw [h1] at h4
    simpa [goods] using h4
/-- Two digits are a number's just if they say it. -/
theorem two_eq {f g : UInt8} (hf : isDig f = true) (hg : isDig g = true) {n : Nat} (hn : n ≤ 99) : decide ([f, g] = [hi2 n, lo2 n]) = (num2 f g == n) := by
  have key : ∀ (a b : Fin 10) (n : Fin 100), decide ([UInt8.ofNat (48 + a.1), UInt8.ofNat (48 + b.1)] = [hi2 n.1, lo2 n.1]) = (num2 (UInt8.ofNat (48 + a.1)) (UInt8.ofNat (48 + b.1)) == n.1) := by decide +kernel
  have dg : ∀ x : UInt8, isDig x = true → ∃ a : Fin 10, x = UInt8.ofNat (48 + a.1) := by
    intro x hx
    have := of_decide_eq_true hx
    exact ⟨⟨x.toNat - 48, by omega⟩, by apply UInt8.toNat_inj.1; simp; omega⟩
  obtain ⟨a, rfl⟩ := dg f hf
  obtain ⟨b, rfl⟩ := dg g hg
  exact key a b ⟨n, by omega⟩
end Go.Proofs.YtmdlmmfbcnkanaaR
namespace Go.Proofs.YtmdlmmfbcnkanaaR
open Go.RowKit Go.Shelf
theorem mul10 {x y : Operand} {n : Nat} (h : n ≤ 100000) (w : World) : (do eqGuard .mul 3 x y (.int .i64 10) (.int .i64 (n : Int)); binOp .mul 3 (.int .i64 10) (.int .i64 (n : Int)) : Sem Value).run Try.prog w = .ok (.int .i64 ((10 * n : Nat) : Int)) w := by
  have h2 := IntWalk.i64_in (10 * (n : Int)) (by omega)
  go_simp
theorem ListK.indexVW {P : Program} {ops : Array Oper} {K : Act → World → Prop} {k i d : Nat} {a : Act} {w : World} {ty : TypeId} {pos : String} {aft : Array Edge} {gd : Option (Nat × Bool)} {v : Value} {t : TypeId} {x y : Operand} {u u' : Value} (hi : ops[i]? = some ⟨some d, .index t x y, ty, pos, aft, gd⟩) (hx : a.eval x = u) (hy : a.eval y = u') (hv : (Instr.index t u u').run P w = .ok v w)
    (h : ListK P ops K k (i + 1) (a.put (some d) v) w) (hw : Region.wanted ⟨some d, .index t x y, ty, pos, aft, gd⟩ (yielded ops a.tmps) = true := by rfl) : ListK P ops K (k + 1) i a w := ListK.valW hi hw (by simp [execOp, hx, hy, hv]) h
noncomputable def opsNu0 : Array Oper := (Try.f65.body.bind (regionOf 0)).getD #[]
noncomputable def opsNu1 : Array Oper := (Try.f65.body.bind (regionOf 1)).getD #[]
noncomputable def code65 : Code := (.seq (.region 0 opsNu0 false) (.seq (.region 1 opsNu1 true) .ret))
theorem body65 : Try.f65.body = some code65 := by kernel_rfl
section
attribute [local irreducible] AnyK StepK
set_option maxHeartbeats 400000 in
theorem num_any (l : List UInt8) (k : Nat) (b c : UInt8) (hb : l[k]? = some b) (hc : l[k + 1]? = some c) (hk : k ≤ 1000) (W : World) : Calls Try.prog 65 #[strV l, .int .i64 (k : Int)] W (EvP W (.int .i64 (num2 b c : Int))) := by
  have d1 := dig_lt b
  have d2 := dig_lt c
  have hn2 : num2 b c = 10 * dig b + dig c := rfl
  refine (callsIn_wide (n := 5)).1 (callsIn_of_wp Try.func65 body65 trivial ?_ rfl)
  obtain ⟨a, ha⟩ : ∃ a : Act, a = { tmps := #[strV l, .int .i64 (k : Int)] ++ Array.replicate (Try.f65.ntmps - (#[strV l, .int .i64 (k : Int)] : Array Value).size) undef, defers := [] } := ⟨_, rfl⟩
  have hsz : a.tmps.size = 18 := by rw [ha]; simp [Try.ntmps65]
  have t0 : a.eval (.tmp 0) = strV l := by rw [ha]; simp [Act.eval]
  have t1 : a.eval (.tmp 1) = .int .i64 (k : Int) := by rw [ha]; simp [Act.eval]
  have hd_a : a.defers = [] := by rw [ha]
  rw [← ha]
  clear ha
  unfold code65
  refine wpIn_seq (region_p 1 ?_)
  intro K hK
  refine ListK.assign (i := 0) (v := .int .i64 0) rfl (by simp) ?_
  refine ListK.done (hK _ _ ?_)
  clear hK K
  generalize hA : Act.put _ _ _ = a1
  have hz_a1 : a1.tmps.size = 18 := by rw [← hA]; simp only [size_put, hsz]
  have u0 : a1.eval (.tmp 0) = strV l := by rw [← hA]; exact (by simp [t0])
  have u1 : a1.eval (.tmp 1) = .int .i64 (k : Int) := by rw [← hA]; exact (by simp [t1])
  have hd_a1 : a1.defers = [] := by rw [← hA]; simp only [defers_put, hd_a]
  clear hA
  refine wpIn_seq (region_K (KpR (fun w : World => Below W.heap.size W w) (fun _ => false)) (wideF_plain _) (by kernel_rfl) Try.mixed ?_)
  change AnyK _ _ _ _ 14 (Array.replicate 14 false) _ _
  have hR : (fun w : World => Below W.heap.size W w) W.drew := (Below.refl W.heap.size W).drew
  refine AnyK.move (i := 0) may_o (v := strV l) (by simp [u0]) hR ?_
  refine AnyK.move (i := 1) may_o (v := .int .i64 (k : Int)) (by simp [u1]) hR ?_
  refine AnyK.indexV (i := 2) may_o (u := strV l) (u' := .int .i64 (k : Int)) (v := u8V b) (by simp [hz_a1]) (by simp [hz_a1]) (fun w => ix9 hb w) hR ?_
  refine AnyK.bin (i := 3) may_o (u := u8V b) (u' := .int .u8 48) (v := .int .u8 (dig b : Int)) (by simp [hz_a1]) (by simp) (fun w => subu8 b w) hR ?_
  refine AnyK.conv (i := 4) may_o (u := .int .u8 (dig b : Int)) (v := .int .i64 (dig b : Int)) (by simp [hz_a1]) (fun w => cv53 (by omega) (by omega) w) hR ?_
  refine AnyK.bin (i := 5) may_o (u := .int .i64 (10)) (u' := .int .i64 (dig b : Int)) (v := .int .i64 ((10 * dig b : Nat) : Int)) (by simp) (by simp [hz_a1]) (fun w => mul10 (by omega) w) hR ?_
  refine AnyK.move (i := 6) may_o (v := strV l) (by simp [u0]) hR ?_
  refine AnyK.move (i := 7) may_o (v := .int .i64 (k : Int)) (by simp [u1]) hR ?_
  refine AnyK.bin (i := 8) may_o (u := .int .i64 (k : Int)) (u' := .int .i64 (1)) (v := .int .i64 ((k + 1 : Nat) : Int)) (by simp [hz_a1]) (by simp) (fun w => add3 (by omega) (by omega) w) hR ?_
  refine AnyK.indexV (i := 9) may_o (u := strV l) (u' := .int .i64 ((k + 1 : Nat) : Int)) (v := u8V c) (by simp [hz_a1]) (by simp [hz_a1]) (fun w => ix9 hc w) hR ?_
  refine AnyK.bin (i := 10) may_o (u := u8V c) (u' := .int .u8 48) (v := .int .u8 (dig c : Int)) (by simp [hz_a1]) (by simp) (fun w => subu8 c w) hR ?_
  refine AnyK.conv (i := 11) may_o (u := .int .u8 (dig c : Int)) (v := .int .i64 (dig c : Int)) (by simp [hz_a1]) (fun w => cv53 (by omega) (by omega) w) hR ?_
  refine AnyK.bin (i := 12) may_o (u := .int .i64 ((10 * dig b : Nat) : Int)) (u' := .int .i64 (dig c : Int)) (v := .int .i64 (num2 b c : Int)) (by simp [hz_a1]) (by simp [hz_a1]) (fun w => add3e (by omega) (by omega) (by omega) w) hR ?_
  refine AnyK.assign (i := 13) may_o (v := .int .i64 (num2 b c : Int)) (by simp [hz_a1]) hR ?_
  refine AnyK.done (by kernel_rfl) ?_
  refine wpIn_ret ?_
  exact bodyPost_ret (v := .int .i64 (num2 b c : Int)) (res1 Try.results65 (by simp [hz_a1])) (by simp only [defers_put, hd_a1]) ⟨rfl, hR⟩
end
noncomputable def opsIg0 : Array Oper := (Try.f60.body.bind (regionOf 0)).getD #[]
noncomputable def opsIg1 : Array Oper := (Try.f60.body.bind (regionOf 1)).getD #[]
noncomputable def opsIg2 : Array Oper := (Try.f60.body.bind (regionOf 2)).getD #[]
noncomputable def opsIg3 : Array Oper := (Try.f60.body.bind (regionOf 3)).getD #[]
noncomputable def opsIg4 : Array Oper := (Try.f60.body.bind (regionOf 4)).getD #[]
noncomputable def opsIg5 : Array Oper := (Try.f60.body.bind (regionOf 5)).getD #[]
noncomputable def opsIg6 : Array Oper := (Try.f60.body.bind (regionOf 6)).getD #[]
noncomputable def opsIg7 : Array Oper := (Try.f60.body.bind (regionOf 7)).getD #[]
noncomputable def opsIg8 : Array Oper := (Try.f60.body.bind (regionOf 8)).getD #[]
noncomputable def opsIg9 : Array Oper := (Try.f60.body.bind (regionOf 9)).getD #[]
noncomputable def opsIg10 : Array Oper := (Try.f60.body.bind (regionOf 10)).getD #[]
noncomputable def ig_l : Code := (.seq (.seq (.region 4 opsIg4 false) (.cond (.tmp 23) .skip (.exit 0))) (.seq (.block 1 (.seq (.region 6 opsIg6 false) (.cond (.tmp 35) (.seq (.region 7 opsIg7 false) .ret) .skip))) (.region 5 opsIg5 false)))
noncomputable def ig_e : Code := (.seq (.region 10 opsIg10 false) .ret)
noncomputable def ig_c : Code := (.seq (.seq (.region 8 opsIg8 true) (.cond (.tmp 41) (.seq (.region 9 opsIg9 false) .ret) .skip)) ig_e)
noncomputable def ig_b : Code := (.seq (.seq (.region 3 opsIg3 false) (.block 0 (.loop ig_l))) ig_c)
noncomputable def code60 : Code := (.seq (.region 0 opsIg0 false) (.seq (.seq (.region 1 opsIg1 false) (.cond (.tmp 21) (.seq (.region 2 opsIg2 false) .ret) .skip)) ig_b))
theorem body60 : Try.f60.body = some code60 := by kernel_rfl
section
attribute [local irreducible] AnyK StepK
variable {c0 c1 c2 c3 c4 c5 c6 : UInt8}
set_option maxHeartbeats 400000 in
theorem ig_e_any {a : Act} {W0 W : World} (hg : isGood [c0, c1, c2, c3, c4, c5, c6] = (decide (c0 ≠ 72) || headOk (num2 c1 c2) (dig c3) (dig c4)))
    (hz : a.tmps.size = 64) (hd_a : a.defers = []) (t0 : a.eval (.tmp 0) = strV [c0, c1, c2, c3, c4, c5, c6]) (hB : Below W0.heap.size W0 W) :
    ig_e.wpIn Fence.wide 5 Try.prog (bodyPost Try.prog Try.f60 (EvP W0 (.bool (isGood [c0, c1, c2, c3, c4, c5, c6])))) a W := by
  have d3 := dig_lt c3
  have d4 := dig_lt c4
  unfold ig_e
  by_cases h72 : c0 = 72
  · have hv2 : (!decide (c0 = 72)) = false := by simp [h72]
    cases hA : inR (num2 c1 c2 : Int) 1 40
    · have hv : isGood [c0, c1, c2, c3, c4, c5, c6] = false := by rw [hg]; simp [h72, headOk, hA]
      refine wpIn_seq (region_p 23 ?_)
      intro K hK
      refine ListK.move (i := 0) (v := strV [c0, c1, c2, c3, c4, c5, c6]) rfl (by simp [t0]) ?_
      refine ListK.indexV (i := 1) (u := strV [c0, c1, c2, c3, c4, c5, c6]) (u' := .int .i64 0) (v := u8V c0) rfl (by simp [hz]) (by simp) (ix9 (k := 0) rfl _) ?_
      refine ListK.bin (i := 2) (u := u8V c0) (u' := .int .u8 72) (v := .bool false) rfl (by simp [hz]) (by simp) (by rw [← hv2]; exact neq5n c0 72 _) ?_
      refine ListK.move (i := 3) (v := .bool false) rfl (by simp [hz]) ?_
      refine ListK.move (i := 4) (v := strV [c0, c1, c2, c3, c4, c5, c6]) rfl (by simp [t0]) ?_ (hw := wanted_g (e := 45) (b' := false) rfl (by simp [hz]) rfl)
      refine ListK.call (i := 5) (vs := #[strV [c0, c1, c2, c3, c4, c5, c6], .int .i64 1]) rfl (enters_of Try.func65 (by kernel_rfl) rfl) (by simp [hz]) ((num_any [c0, c1, c2, c3, c4, c5, c6] 1 c1 c2 rfl rfl (by omega) W).mono ?_) (hw := wanted_g (e := 45) (b' := false) rfl (by simp [hz]) rfl)
      rintro _ W2 ⟨rfl, hb2⟩
      refine ⟨_, rfl, ?_⟩
      refine ListK.call (i := 6) (vs := #[.int .i64 (num2 c1 c2 : Int), .int .i64 1, .int .i64 40]) rfl (enters_of Try.func63 (by kernel_rfl) rfl) (by simp [hz]) ((refIn_any (num2 c1 c2 : Int) 1 40 W2).mono ?_) (hw := wanted_g (e := 45) (b' := false) rfl (by simp [hz]) rfl)
      rintro _ _ ⟨rfl, rfl⟩
      rw [hA]
      refine ⟨_, rfl, ?_⟩
      refine ListK.move (i := 7) (v := .bool false) rfl (by simp [hz]) ?_ (hw := wanted_g (e := 45) (b' := false) rfl (by simp [hz]) rfl)
      refine ListK.passG (i := 8) (e := 49) (b' := false) rfl rfl (by simp [hz]) rfl ?_
      refine ListK.passG (i := 9) (e := 49) (b' := false) rfl rfl (by simp [hz]) rfl ?_
      refine ListK.passG (i := 10) (e := 49) (b' := false) rfl rfl (by simp [hz]) rfl ?_
      refine ListK.passG (i := 11) (e := 49) (b' := false) rfl rfl (by simp [hz]) rfl ?_
      refine ListK.passG (i := 12) (e := 49) (b' := false) rfl rfl (by simp [hz]) rfl ?_
      refine ListK.pickW (i := 13) (b := false) (v := .bool false) rfl (by simp [hz]) (by simp) ?_ (hw := wanted_g (e := 45) (b' := false) rfl (by simp [hz]) rfl)
      refine ListK.move (i := 14) (v := .bool false) rfl (by simp [hz]) ?_ (hw := wanted_g (e := 45) (b' := false) rfl (by simp [hz]) rfl)
      refine ListK.passG (i := 15) (e := 56) (b' := false) rfl rfl (by simp [hz]) rfl ?_
      refine ListK.passG (i := 16) (e := 56) (b' := false) rfl rfl (by simp [hz]) rfl ?_
      refine ListK.passG (i := 17) (e := 56) (b' := false) rfl rfl (by simp [hz]) rfl ?_
      refine ListK.passG (i := 18) (e := 56) (b' := false) rfl rfl (by simp [hz]) rfl ?_
      refine ListK.passG (i := 19) (e := 56) (b' := false) rfl rfl (by simp [hz]) rfl ?_
      refine ListK.pickW (i := 20) (b := false) (v := .bool false) rfl (by simp [hz]) (by simp) ?_ (hw := wanted_g (e := 45) (b' := false) rfl (by simp [hz]) rfl)
      refine ListK.pick (i := 21) (b := false) (v := .bool false) rfl (by simp [hz]) (by simp [hz]) ?_
      refine ListK.assign (i := 22) (v := .bool false) rfl (by simp [hz]) ?_
      refine ListK.done (hK _ _ (wpIn_ret ?_))
      exact bodyPost_ret (v := .bool (isGood [c0, c1, c2, c3, c4, c5, c6])) (res1 Try.results60 (by rw [hv]; exact (by simp [hz]))) (by simp only [defers_put, hd_a]) ⟨rfl, hB.trans (hb2.mono hB.size)⟩
    · cases hC : inR (dig c3 : Int) 2 8
      · have hv : isGood [c0, c1, c2, c3, c4, c5, c6] = false := by rw [hg]; simp [h72, headOk, hA, hC]
        refine wpIn_seq (region_p 23 ?_)
        intro K hK
        refine ListK.move (i := 0) (v := strV [c0, c1, c2, c3, c4, c5, c6]) rfl (by simp [t0]) ?_
        refine ListK.indexV (i := 1) (u := strV [c0, c1, c2, c3, c4, c5, c6]) (u' := .int .i64 0) (v := u8V c0) rfl (by simp [hz]) (by simp) (ix9 (k := 0) rfl _) ?_
        refine ListK.bin (i := 2) (u := u8V c0) (u' := .int .u8 72) (v := .bool false) rfl (by simp [hz]) (by simp) (by rw [← hv2]; exact neq5n c0 72 _) ?_
        refine ListK.move (i := 3) (v := .bool false) rfl (by simp [hz]) ?_
        refine ListK.move (i := 4) (v := strV [c0, c1, c2, c3, c4, c5, c6]) rfl (by simp [t0]) ?_ (hw := wanted_g (e := 45) (b' := false) rfl (by simp [hz]) rfl)
        refine ListK.call (i := 5) (vs := #[strV [c0, c1, c2, c3, c4, c5, c6], .int .i64 1]) rfl (enters_of Try.func65 (by kernel_rfl) rfl) (by simp [hz]) ((num_any [c0, c1, c2, c3, c4, c5, c6] 1 c1 c2 rfl rfl (by omega) W).mono ?_) (hw := wanted_g (e := 45) (b' := false) rfl (by simp [hz]) rfl)
        rintro _ W2 ⟨rfl, hb2⟩
        refine ⟨_, rfl, ?_⟩
        refine ListK.call (i := 6) (vs := #[.int .i64 (num2 c1 c2 : Int), .int .i64 1, .int .i64 40]) rfl (enters_of Try.func63 (by kernel_rfl) rfl) (by simp [hz]) ((refIn_any (num2 c1 c2 : Int) 1 40 W2).mono ?_) (hw := wanted_g (e := 45) (b' := false) rfl (by simp [hz]) rfl)
        rintro _ _ ⟨rfl, rfl⟩
        rw [hA]
        refine ⟨_, rfl, ?_⟩
        refine ListK.move (i := 7) (v := .bool true) rfl (by simp [hz]) ?_ (hw := wanted_g (e := 45) (b' := false) rfl (by simp [hz]) rfl)
        refine ListK.move (i := 8) (v := strV [c0, c1, c2, c3, c4, c5, c6]) rfl (by simp [t0]) ?_ (hw := wanted_g (e := 49) (b' := true) rfl (by simp [hz]) rfl)
        refine ListK.indexVW (i := 9) (u := strV [c0, c1, c2, c3, c4, c5, c6]) (u' := .int .i64 3) (v := u8V c3) rfl (by simp [hz]) (by simp) (ix9 (k := 3) rfl _) ?_ (hw := wanted_g (e := 49) (b' := true) rfl (by simp [hz]) rfl)
        refine ListK.bin (i := 10) (u := u8V c3) (u' := .int .u8 48) (v := .int .u8 (dig c3 : Int)) rfl (by simp [hz]) (by simp) (subu8 c3 _) ?_ (hw := wanted_g (e := 49) (b' := true) rfl (by simp [hz]) rfl)
        refine ListK.conv (i := 11) (u := .int .u8 (dig c3 : Int)) (v := .int .i64 (dig c3 : Int)) rfl (by simp [hz]) (cv53 (by omega) (by omega) _) ?_ (hw := wanted_g (e := 49) (b' := true) rfl (by simp [hz]) rfl)
        refine ListK.call (i := 12) (vs := #[.int .i64 (dig c3 : Int), .int .i64 2, .int .i64 8]) rfl (enters_of Try.func63 (by kernel_rfl) rfl) (by simp [hz]) ((refIn_any (dig c3 : Int) 2 8 W2).mono ?_) (hw := wanted_g (e := 49) (b' := true) rfl (by simp [hz]) rfl)
        rintro _ _ ⟨rfl, rfl⟩
        rw [hC]
        refine ⟨_, rfl, ?_⟩
        refine ListK.pickW (i := 13) (b := true) (v := .bool false) rfl (by simp [hz]) (by simp [hz]) ?_ (hw := wanted_g (e := 45) (b' := false) rfl (by simp [hz]) rfl)
        refine ListK.move (i := 14) (v := .bool false) rfl (by simp [hz]) ?_ (hw := wanted_g (e := 45) (b' := false) rfl (by simp [hz]) rfl)
        refine ListK.passG (i := 15) (e := 56) (b' := false) rfl rfl (by simp [hz]) rfl ?_
        refine ListK.passG (i := 16) (e := 56) (b' := false) rfl rfl (by simp [hz]) rfl ?_
        refine ListK.passG (i := 17) (e := 56) (b' := false) rfl rfl (by simp [hz]) rfl ?_
        refine ListK.passG (i := 18) (e := 56) (b' := false) rfl rfl (by simp [hz]) rfl ?_
        refine ListK.passG (i := 19) (e := 56) (b' := false) rfl rfl (by simp [hz]) rfl ?_
        refine ListK.pickW (i := 20) (b := false) (v := .bool false) rfl (by simp [hz]) (by simp) ?_ (hw := wanted_g (e := 45) (b' := false) rfl (by simp [hz]) rfl)
        refine ListK.pick (i := 21) (b := false) (v := .bool false) rfl (by simp [hz]) (by simp [hz]) ?_
        refine ListK.assign (i := 22) (v := .bool false) rfl (by simp [hz]) ?_
        refine ListK.done (hK _ _ (wpIn_ret ?_))
        exact bodyPost_ret (v := .bool (isGood [c0, c1, c2, c3, c4, c5, c6])) (res1 Try.results60 (by rw [hv]; exact (by simp [hz]))) (by simp only [defers_put, hd_a]) ⟨rfl, hB.trans (hb2.mono hB.size)⟩
      · have hv : isGood [c0, c1, c2, c3, c4, c5, c6] = inR (dig c4 : Int) 1 9 := by rw [hg]; simp [h72, headOk, hA, hC]
        refine wpIn_seq (region_p 23 ?_)
        intro K hK
        refine ListK.move (i := 0) (v := strV [c0, c1, c2, c3, c4, c5, c6]) rfl (by simp [t0]) ?_
        refine ListK.indexV (i := 1) (u := strV [c0, c1, c2, c3, c4, c5, c6]) (u' := .int .i64 0) (v := u8V c0) rfl (by simp [hz]) (by simp) (ix9 (k := 0) rfl _) ?_
        refine ListK.bin (i := 2) (u := u8V c0) (u' := .int .u8 72) (v := .bool false) rfl (by simp [hz]) (by simp) (by rw [← hv2]; exact neq5n c0 72 _) ?_
        refine ListK.move (i := 3) (v := .bool false) rfl (by simp [hz]) ?_
        refine ListK.move (i := 4) (v := strV [c0, c1, c2, c3, c4, c5, c6]) rfl (by simp [t0]) ?_ (hw := wanted_g (e := 45) (b' := false) rfl (by simp [hz]) rfl)
        refine ListK.call (i := 5) (vs := #[strV [c0, c1, c2, c3, c4, c5, c6], .int .i64 1]) rfl (enters_of Try.func65 (by kernel_rfl) rfl) (by simp [hz]) ((num_any [c0, c1, c2, c3, c4, c5, c6] 1 c1 c2 rfl rfl (by omega) W).mono ?_) (hw := wanted_g (e := 45) (b' := false) rfl (by simp [hz]) rfl)
        rintro _ W2 ⟨rfl, hb2⟩
        refine ⟨_, rfl, ?_⟩
        refine ListK.call (i := 6) (vs := #[.int .i64 (num2 c1 c2 : Int), .int .i64 1, .int .i64 40]) rfl (enters_of Try.func63 (by kernel_rfl) rfl) (by simp [hz]) ((refIn_any (num2 c1 c2 : Int) 1 40 W2).mono ?_) (hw := wanted_g (e := 45) (b' := false) rfl (by simp [hz]) rfl)
        rintro _ _ ⟨rfl, rfl⟩
        rw [hA]
        refine ⟨_, rfl, ?_⟩
        refine ListK.move (i := 7) (v := .bool true) rfl (by simp [hz]) ?_ (hw := wanted_g (e := 45) (b' := false) rfl (by simp [hz]) rfl)
        refine ListK.move (i := 8) (v := strV [c0, c1, c2, c3, c4, c5, c6]) rfl (by simp [t0]) ?_ (hw := wanted_g (e := 49) (b' := true) rfl (by simp [hz]) rfl)
        refine ListK.indexVW (i := 9) (u := strV [c0, c1, c2, c3, c4, c5, c6]) (u' := .int .i64 3) (v := u8V c3) rfl (by simp [hz]) (by simp) (ix9 (k := 3) rfl _) ?_ (hw := wanted_g (e := 49) (b' := true) rfl (by simp [hz]) rfl)
        refine ListK.bin (i := 10) (u := u8V c3) (u' := .int .u8 48) (v := .int .u8 (dig c3 : Int)) rfl (by simp [hz]) (by simp) (subu8 c3 _) ?_ (hw := wanted_g (e := 49) (b' := true) rfl (by simp [hz]) rfl)
        refine ListK.conv (i := 11) (u := .int .u8 (dig c3 : Int)) (v := .int .i64 (dig c3 : Int)) rfl (by simp [hz]) (cv53 (by omega) (by omega) _) ?_ (hw := wanted_g (e := 49) (b' := true) rfl (by simp [hz]) rfl)
        refine ListK.call (i := 12) (vs := #[.int .i64 (dig c3 : Int), .int .i64 2, .int .i64 8]) rfl (enters_of Try.func63 (by kernel_rfl) rfl) (by simp [hz]) ((refIn_any (dig c3 : Int) 2 8 W2).mono ?_) (hw := wanted_g (e := 49) (b' := true) rfl (by simp [hz]) rfl)
        rintro _ _ ⟨rfl, rfl⟩
        rw [hC]
        refine ⟨_, rfl, ?_⟩
        refine ListK.pickW (i := 13) (b := true) (v := .bool true) rfl (by simp [hz]) (by simp [hz]) ?_ (hw := wanted_g (e := 45) (b' := false) rfl (by simp [hz]) rfl)
        refine ListK.move (i := 14) (v := .bool true) rfl (by simp [hz]) ?_ (hw := wanted_g (e := 45) (b' := false) rfl (by simp [hz]) rfl)
        refine ListK.move (i := 15) (v := strV [c0, c1, c2, c3, c4, c5, c6]) rfl (by simp [t0]) ?_ (hw := wanted_g (e := 56) (b' := true) rfl (by simp [hz]) rfl)
        refine ListK.indexVW (i := 16) (u := strV [c0, c1, c2, c3, c4, c5, c6]) (u' := .int .i64 4) (v := u8V c4) rfl (by simp [hz]) (by simp) (ix9 (k := 4) rfl _) ?_ (hw := wanted_g (e := 56) (b' := true) rfl (by simp [hz]) rfl)
        refine ListK.bin (i := 17) (u := u8V c4) (u' := .int .u8 48) (v := .int .u8 (dig c4 : Int)) rfl (by simp [hz]) (by simp) (subu8 c4 _) ?_ (hw := wanted_g (e := 56) (b' := true) rfl (by simp [hz]) rfl)
        refine ListK.conv (i := 18) (u := .int .u8 (dig c4 : Int)) (v := .int .i64 (dig c4 : Int)) rfl (by simp [hz]) (cv53 (by omega) (by omega) _) ?_ (hw := wanted_g (e := 56) (b' := true) rfl (by simp [hz]) rfl)
        refine ListK.call (i := 19) (vs := #[.int .i64 (dig c4 : Int), .int .i64 1, .int .i64 9]) rfl (enters_of Try.func63 (by kernel_rfl) rfl) (by simp [hz]) ((refIn_any (dig c4 : Int) 1 9 W2).mono ?_) (hw := wanted_g (e := 56) (b' := true) rfl (by simp [hz]) rfl)
        rintro _ _ ⟨rfl, rfl⟩
        refine ⟨_, rfl, ?_⟩
        refine ListK.pickW (i := 20) (b := true) (v := .bool (inR (dig c4 : Int) 1 9)) rfl (by simp [hz]) (by simp [hz]) ?_ (hw := wanted_g (e := 45) (b' := false) rfl (by simp [hz]) rfl)
        refine ListK.pick (i := 21) (b := false) (v := .bool (inR (dig c4 : Int) 1 9)) rfl (by simp [hz]) (by simp [hz]) ?_
        refine ListK.assign (i := 22) (v := .bool (inR (dig c4 : Int) 1 9)) rfl (by simp [hz]) ?_
        refine ListK.done (hK _ _ (wpIn_ret ?_))
        exact bodyPost_ret (v := .bool (isGood [c0, c1, c2, c3, c4, c5, c6])) (res1 Try.results60 (by rw [hv]; exact (by simp [hz]))) (by simp only [defers_put, hd_a]) ⟨rfl, hB.trans (hb2.mono hB.size)⟩
  · have hv2 : (!decide (c0 = 72)) = true := by simp [h72]
    have hv : isGood [c0, c1, c2, c3, c4, c5, c6] = true := by rw [hg]; simp [h72]
    refine wpIn_seq (region_p 23 ?_)
    intro K hK
    refine ListK.move (i := 0) (v := strV [c0, c1, c2, c3, c4, c5, c6]) rfl (by simp [t0]) ?_
    refine ListK.indexV (i := 1) (u := strV [c0, c1, c2, c3, c4, c5, c6]) (u' := .int .i64 0) (v := u8V c0) rfl (by simp [hz]) (by simp) (ix9 (k := 0) rfl _) ?_
    refine ListK.bin (i := 2) (u := u8V c0) (u' := .int .u8 72) (v := .bool true) rfl (by simp [hz]) (by simp) (by rw [← hv2]; exact neq5n c0 72 _) ?_
    refine ListK.move (i := 3) (v := .bool true) rfl (by simp [hz]) ?_
    refine ListK.passG (i := 4) (e := 45) (b' := true) rfl rfl (by simp [hz]) rfl ?_
    refine ListK.passG (i := 5) (e := 45) (b' := true) rfl rfl (by simp [hz]) rfl ?_
    refine ListK.passG (i := 6) (e := 45) (b' := true) rfl rfl (by simp [hz]) rfl ?_
    refine ListK.passG (i := 7) (e := 45) (b' := true) rfl rfl (by simp [hz]) rfl ?_
    refine ListK.passU (i := 8) (e := 49) rfl rfl (by simp [hz]) ?_
    refine ListK.passU (i := 9) (e := 49) rfl rfl (by simp [hz]) ?_
    refine ListK.passU (i := 10) (e := 49) rfl rfl (by simp [hz]) ?_
    refine ListK.passU (i := 11) (e := 49) rfl rfl (by simp [hz]) ?_
    refine ListK.passU (i := 12) (e := 49) rfl rfl (by simp [hz]) ?_
    refine ListK.passG (i := 13) (e := 45) (b' := true) rfl rfl (by simp [hz]) rfl ?_
    refine ListK.passG (i := 14) (e := 45) (b' := true) rfl rfl (by simp [hz]) rfl ?_
    refine ListK.passU (i := 15) (e := 56) rfl rfl (by simp [hz]) ?_
    refine ListK.passU (i := 16) (e := 56) rfl rfl (by simp [hz]) ?_
    refine ListK.passU (i := 17) (e := 56) rfl rfl (by simp [hz]) ?_
    refine ListK.passU (i := 18) (e := 56) rfl rfl (by simp [hz]) ?_
    refine ListK.passU (i := 19) (e := 56) rfl rfl (by simp [hz]) ?_
    refine ListK.passG (i := 20) (e := 45) (b' := true) rfl rfl (by simp [hz]) rfl ?_
    refine ListK.pick (i := 21) (b := true) (v := .bool true) rfl (by simp [hz]) (by simp) ?_
    refine ListK.assign (i := 22) (v := .bool true) rfl (by simp [hz]) ?_
    refine ListK.done (hK _ _ (wpIn_ret ?_))
    exact bodyPost_ret (v := .bool (isGood [c0, c1, c2, c3, c4, c5, c6])) (res1 Try.results60 (by rw [hv]; exact (by simp [hz]))) (by simp only [defers_put, hd_a]) ⟨rfl, hB⟩
set_option maxHeartbeats 400000 in
theorem ig_c_any {a : Act} {W0 : World} (h0 : c0 = 72 ∨ c0 = 82 ∨ c0 = 80) (hdg : ∀ j x, 1 ≤ j → [c0, c1, c2, c3, c4, c5, c6][j]? = some x → isDig x = true)
    (hz : a.tmps.size = 64) (hd_a : a.defers = []) (t0 : a.eval (.tmp 0) = strV [c0, c1, c2, c3, c4, c5, c6]) :
    ig_c.wpIn Fence.wide 5 Try.prog (bodyPost Try.prog Try.f60 (EvP W0 (.bool (isGood [c0, c1, c2, c3, c4, c5, c6])))) a W0 := by
  have g1 := hdg 1 c1 (by omega) rfl
  have g2 := hdg 2 c2 (by omega) rfl
  have g3 := hdg 3 c3 (by omega) rfl
  have g4 := hdg 4 c4 (by omega) rfl
  have g5 := hdg 5 c5 (by omega) rfl
  have g6 := hdg 6 c6 (by omega) rfl
  have hck := chk5_lt c0 c1 c2 c3 c4
  have h2 := two_eq g5 g6 (n := chk5 c0 c1 c2 c3 c4) (by omega)
  have hk : (c0 == 72 || c0 == 82 || c0 == 80) = true := by rcases h0 with rfl | rfl | rfl <;> decide
  have hne : (c0 != 72) = decide (c0 ≠ 72) := by by_cases h : c0 = 72 <;> simp [h]
  have hg : isGood [c0, c1, c2, c3, c4, c5, c6] = ((num2 c5 c6 == chk5 c0 c1 c2 c3 c4) && (decide (c0 ≠ 72) || headOk (num2 c1 c2) (dig c3) (dig c4))) := by
    show good7 c0 c1 c2 c3 c4 c5 c6 = _
    unfold good7
    rw [hk, g1, g2, g3, g4, g5, g6, hne]
    simp
  rw [← h2] at hg
  unfold ig_c
  refine wpIn_seq (wpIn_seq (region_K (KpR (fun w : World => Below W0.heap.size W0 w) (fun _ => false)) (wideF_plain _) (by kernel_rfl) Try.mixed ?_))
  change AnyK _ _ _ _ 6 (Array.replicate 6 false) _ _
  have hR : (fun w : World => Below W0.heap.size W0 w) W0.drew := (Below.refl W0.heap.size W0).drew
  refine AnyK.move (i := 0) may_o (v := strV [c0, c1, c2, c3, c4, c5, c6]) (by simp [t0]) hR ?_
  refine AnyK.sliceL (i := 1) may_o (u := strV [c0, c1, c2, c3, c4, c5, c6]) (u' := .int .i64 (5)) (v := strV [c5, c6]) (by simp [hz]) (by simp) (fun w => sl9L (l := [c0, c1, c2, c3, c4, c5, c6]) (a := 5) (by simp) w) hR ?_
  refine AnyK.move (i := 2) may_o (v := strV [c0, c1, c2, c3, c4, c5, c6]) (by simp [t0]) hR ?_
  refine AnyK.sliceH (i := 3) may_o (u := strV [c0, c1, c2, c3, c4, c5, c6]) (u' := .int .i64 (5)) (v := strV [c0, c1, c2, c3, c4]) (by simp [hz]) (by simp) (fun w => sl9H (l := [c0, c1, c2, c3, c4, c5, c6]) (a := 5) (by simp) w) hR ?_
  refine AnyK.pick1 (i := 4) (by kernel_rfl) ?_
  refine StepK.call (i := 4) (f := 57) (vs := #[strV [c0, c1, c2, c3, c4]]) rfl (enters_of Try.func57 (by kernel_rfl) rfl) rfl (by simp [hz]) ((refCheck_any c0 c1 c2 c3 c4 _).mono ?_)
  rintro _ V4 ⟨rfl, hb4⟩
  replace hR : (fun w : World => Below W0.heap.size W0 w) V4 := hR.trans (hb4.mono hR.size)
  refine ⟨_, rfl, fun _ _ => hR, ?_⟩
  refine AnyK.bin (i := 5) may_o (u := strV [c5, c6]) (u' := strV (twoL (chk5 c0 c1 c2 c3 c4))) (v := .bool (!decide ([c5, c6] = twoL (chk5 c0 c1 c2 c3 c4)))) (by simp [hz]) (by simp [hz]) (fun w => neq9n _ _ w) hR ?_
  refine AnyK.done (by kernel_rfl) ?_
  by_cases hq : [c5, c6] = [hi2 (chk5 c0 c1 c2 c3 c4), lo2 (chk5 c0 c1 c2 c3 c4)]
  · rw [decide_eq_true hq, Bool.true_and] at hg
    have hq2 : (!decide ([c5, c6] = twoL (chk5 c0 c1 c2 c3 c4))) = false := by rw [show decide ([c5, c6] = twoL (chk5 c0 c1 c2 c3 c4)) = true from decide_eq_true hq]; rfl
    rw [hq2]
    refine wpIn_cond (t := false) (by simp [hz]) (wpIn_skip ?_)
    exact ig_e_any hg (by simp only [size_put, hz]) (by simp only [defers_put, hd_a]) (by simp [t0]) hR
  · rw [decide_eq_false hq, Bool.false_and] at hg
    have hq2 : (!decide ([c5, c6] = twoL (chk5 c0 c1 c2 c3 c4))) = true := by rw [show decide ([c5, c6] = twoL (chk5 c0 c1 c2 c3 c4)) = false from decide_eq_false hq]; rfl
    rw [hq2]
    refine wpIn_cond (t := true) (by simp [hz]) ?_
    generalize hA : Act.put _ _ _ = a2
    have hz_a2 : a2.tmps.size = 64 := by rw [← hA]; simp only [size_put, hz]
    have v0 : a2.eval (.tmp 0) = strV [c0, c1, c2, c3, c4, c5, c6] := by rw [← hA]; exact (by simp [t0])
    have hd_a2 : a2.defers = [] := by rw [← hA]; simp only [defers_put, hd_a]
    clear hA
    refine wpIn_seq (region_p 1 ?_)
    intro K hK
    refine ListK.assign (i := 0) (v := .bool false) rfl (by simp) ?_
    refine ListK.done (hK _ _ (wpIn_ret ?_))
    exact bodyPost_ret (v := .bool (isGood [c0, c1, c2, c3, c4, c5, c6])) (res1 Try.results60 (by rw [hg]; exact (by simp [hz_a2]))) (by simp only [defers_put, hd_a2]) ⟨rfl, hR⟩
set_option maxHeartbeats 400000 in
theorem ig_b_any {a : Act} {W : World} (h0 : c0 = 72 ∨ c0 = 82 ∨ c0 = 80)
    (hz : a.tmps.size = 64) (hd_a : a.defers = []) (t0 : a.eval (.tmp 0) = strV [c0, c1, c2, c3, c4, c5, c6]) :
    ig_b.wpIn Fence.wide 5 Try.prog (bodyPost Try.prog Try.f60 (EvP W (.bool (isGood [c0, c1, c2, c3, c4, c5, c6])))) a W := by
  unfold ig_b
  refine wpIn_seq (wpIn_seq (region_p 1 ?_))
  intro K hK
  refine ListK.assign (i := 0) (v := .int .i64 1) rfl (by simp) ?_
  refine ListK.done (hK _ _ ?_)
  clear hK K
  generalize hA : Act.put _ _ _ = a1
  have hz_a1 : a1.tmps.size = 64 := by rw [← hA]; simp only [size_put, hz]
  have u0 : a1.eval (.tmp 0) = strV [c0, c1, c2, c3, c4, c5, c6] := by rw [← hA]; exact (by simp [t0])
  have u3 : a1.eval (.tmp 3) = .int .i64 1 := by rw [← hA]; exact (by simp [hz])
  have hd_a1 : a1.defers = [] := by rw [← hA]; simp only [defers_put, hd_a]
  clear hA
  refine wpIn_block (wpIn_loop (fun a W' => ∃ k : Nat, W' = W ∧ 1 ≤ k ∧ k ≤ 7 ∧ (∀ j x, 1 ≤ j → j < k → [c0, c1, c2, c3, c4, c5, c6][j]? = some x → isDig x = true) ∧ a.tmps.size = 64 ∧ a.defers = [] ∧ a.eval (.tmp 0) = strV [c0, c1, c2, c3, c4, c5, c6] ∧ a.eval (.tmp 3) = .int .i64 (k : Int)) (fun a _ => 7 - (intOf (a.eval (.tmp 3))).toNat)
    ⟨1, rfl, Nat.le_refl _, by omega, fun j x h1 h2 => by omega, hz_a1, hd_a1, u0, u3⟩ ?_)
  rintro b1 W1 ⟨k, hW1, hk1, hk7, hdg, hz_b1, hd_b1, s0, s3⟩
  subst hW1
  unfold ig_l
  by_cases hlt : k < 7
  · skip
    refine wpIn_seq (wpIn_seq (region_p 2 ?_))
    intro K hK
    refine ListK.move (i := 0) (v := .int .i64 (k : Int)) rfl (by simp [s3]) ?_
    refine ListK.bin (i := 1) (u := .int .i64 (k : Int)) (u' := .int .i64 7) (v := .bool true) rfl (by simp [hz_b1]) (by simp) (lssT3 (by omega) _) ?_
    refine ListK.done (hK _ _ ?_)
    clear hK K
    refine wpIn_cond (t := true) (by simp [hz_b1]) (wpIn_skip ?_)
    generalize hA : Act.put _ _ _ = b2
    have hz_b2 : b2.tmps.size = 64 := by rw [← hA]; simp only [size_put, hz_b1]
    have v0 : b2.eval (.tmp 0) = strV [c0, c1, c2, c3, c4, c5, c6] := by rw [← hA]; exact (by simp [s0])
    have v3 : b2.eval (.tmp 3) = .int .i64 (k : Int) := by rw [← hA]; exact (by simp [s3])
    have hd_b2 : b2.defers = [] := by rw [← hA]; simp only [defers_put, hd_b1]
    clear hA
    refine wpIn_seq (wpIn_block ?_)
    obtain ⟨b, hb⟩ : ∃ b, [c0, c1, c2, c3, c4, c5, c6][k]? = some b := ⟨_, List.getElem?_eq_getElem (by simpa using hlt)⟩
    have hbad : isDig b = false → isGood [c0, c1, c2, c3, c4, c5, c6] = false := by
      intro hn
      refine Bool.eq_false_iff.2 fun hgd => ?_
      have : isDig c1 = true ∧ isDig c2 = true ∧ isDig c3 = true ∧ isDig c4 = true ∧ isDig c5 = true ∧ isDig c6 = true := by
        have hgd : good7 c0 c1 c2 c3 c4 c5 c6 = true := hgd
        simp only [good7, Bool.and_eq_true] at hgd
        obtain ⟨⟨⟨_, ⟨⟨⟨⟨⟨x1, x2⟩, x3⟩, x4⟩, x5⟩, x6⟩⟩, _⟩, _⟩ := hgd
        exact ⟨x1, x2, x3, x4, x5, x6⟩
      obtain ⟨x1, x2, x3, x4, x5, x6⟩ := this
      have hx : isDig b = true := by
        rcases k with _ | _ | _ | _ | _ | _ | _ | k
        · omega
        · cases hb; exact x1
        · cases hb; exact x2
        · cases hb; exact x3
        · cases hb; exact x4
        · cases hb; exact x5
        · cases hb; exact x6
        · omega
      rw [hn] at hx
      cases hx
    by_cases hlo : b.toNat < 48
    · have hn : isDig b = false := decide_eq_false (by omega)
      have hd1 : decide ((b.toNat : Int) < 48) = true := by simp; omega
      refine wpIn_seq (region_p 10 ?_)
      intro K hK
      refine ListK.move (i := 0) (v := strV [c0, c1, c2, c3, c4, c5, c6]) rfl (by simp [v0]) ?_
      refine ListK.move (i := 1) (v := .int .i64 (k : Int)) rfl (by simp [v3]) ?_
      refine ListK.indexV (i := 2) (u := strV [c0, c1, c2, c3, c4, c5, c6]) (u' := .int .i64 (k : Int)) (v := u8V b) rfl (by simp [hz_b2]) (by simp [hz_b2]) (ix9 hb _) ?_
      refine ListK.bin (i := 3) (u := u8V b) (u' := .int .u8 48) (v := .bool true) rfl (by simp [hz_b2]) (by simp) (by rw [← hd1]; exact lss5n b 48 _) ?_
      refine ListK.move (i := 4) (v := .bool true) rfl (by simp [hz_b2]) ?_
      refine ListK.passG (i := 5) (e := 30) (b' := true) rfl rfl (by simp [hz_b2]) rfl ?_
      refine ListK.passG (i := 6) (e := 30) (b' := true) rfl rfl (by simp [hz_b2]) rfl ?_
      refine ListK.passG (i := 7) (e := 30) (b' := true) rfl rfl (by simp [hz_b2]) rfl ?_
      refine ListK.passG (i := 8) (e := 30) (b' := true) rfl rfl (by simp [hz_b2]) rfl ?_
      refine ListK.pick (i := 9) (b := true) (v := .bool true) rfl (by simp [hz_b2]) (by simp) ?_
      refine ListK.done (hK _ _ ?_)
      clear hK K
      refine wpIn_cond (t := true) (by simp [hz_b2]) ?_
      generalize hA : Act.put _ _ _ = b3
      have hz_b3 : b3.tmps.size = 64 := by rw [← hA]; simp only [size_put, hz_b2]
      have q0 : b3.eval (.tmp 0) = strV [c0, c1, c2, c3, c4, c5, c6] := by rw [← hA]; exact (by simp [v0])
      have hd_b3 : b3.defers = [] := by rw [← hA]; simp only [defers_put, hd_b2]
      clear hA
      refine wpIn_seq (region_p 1 ?_)
      intro K hK
      refine ListK.assign (i := 0) (v := .bool false) rfl (by simp) ?_
      refine ListK.done (hK _ _ (wpIn_ret ?_))
      exact bodyPost_ret (v := .bool (isGood [c0, c1, c2, c3, c4, c5, c6])) (res1 Try.results60 (by rw [hbad hn]; exact (by simp [hz_b3]))) (by simp only [defers_put, hd_b3]) ⟨rfl, Below.refl _ _⟩
    · have hd1 : decide ((b.toNat : Int) < 48) = false := by simp; omega
      by_cases hhi : 57 < b.toNat
      · have hn : isDig b = false := decide_eq_false (by omega)
        have hd2 : decide (57 < (b.toNat : Int)) = true := by simp; omega
        refine wpIn_seq (region_p 10 ?_)
        intro K hK
        refine ListK.move (i := 0) (v := strV [c0, c1, c2, c3, c4, c5, c6]) rfl (by simp [v0]) ?_
        refine ListK.move (i := 1) (v := .int .i64 (k : Int)) rfl (by simp [v3]) ?_
        refine ListK.indexV (i := 2) (u := strV [c0, c1, c2, c3, c4, c5, c6]) (u' := .int .i64 (k : Int)) (v := u8V b) rfl (by simp [hz_b2]) (by simp [hz_b2]) (ix9 hb _) ?_
        refine ListK.bin (i := 3) (u := u8V b) (u' := .int .u8 48) (v := .bool false) rfl (by simp [hz_b2]) (by simp) (by rw [← hd1]; exact lss5n b 48 _) ?_
        refine ListK.move (i := 4) (v := .bool false) rfl (by simp [hz_b2]) ?_
        refine ListK.move (i := 5) (v := strV [c0, c1, c2, c3, c4, c5, c6]) rfl (by simp [v0]) ?_ (hw := wanted_g (e := 30) (b' := false) rfl (by simp [hz_b2]) rfl)
        refine ListK.move (i := 6) (v := .int .i64 (k : Int)) rfl (by simp [v3]) ?_ (hw := wanted_g (e := 30) (b' := false) rfl (by simp [hz_b2]) rfl)
        refine ListK.indexVW (i := 7) (u := strV [c0, c1, c2, c3, c4, c5, c6]) (u' := .int .i64 (k : Int)) (v := u8V b) rfl (by simp [hz_b2]) (by simp [hz_b2]) (ix9 hb _) ?_ (hw := wanted_g (e := 30) (b' := false) rfl (by simp [hz_b2]) rfl)
        refine ListK.bin (i := 8) (u := u8V b) (u' := .int .u8 57) (v := .bool true) rfl (by simp [hz_b2]) (by simp) (by rw [← hd2]; exact gtr5n b 57 _) ?_ (hw := wanted_g (e := 30) (b' := false) rfl (by simp [hz_b2]) rfl)
        refine ListK.pick (i := 9) (b := false) (v := .bool true) rfl (by simp [hz_b2]) (by simp [hz_b2]) ?_
        refine ListK.done (hK _ _ ?_)
        clear hK K
        refine wpIn_cond (t := true) (by simp [hz_b2]) ?_
        generalize hA : Act.put _ _ _ = b3
        have hz_b3 : b3.tmps.size = 64 := by rw [← hA]; simp only [size_put, hz_b2]
        have q0 : b3.eval (.tmp 0) = strV [c0, c1, c2, c3, c4, c5, c6] := by rw [← hA]; exact (by simp [v0])
        have hd_b3 : b3.defers = [] := by rw [← hA]; simp only [defers_put, hd_b2]
        clear hA
        refine wpIn_seq (region_p 1 ?_)
        intro K hK
        refine ListK.assign (i := 0) (v := .bool false) rfl (by simp) ?_
        refine ListK.done (hK _ _ (wpIn_ret ?_))
        exact bodyPost_ret (v := .bool (isGood [c0, c1, c2, c3, c4, c5, c6])) (res1 Try.results60 (by rw [hbad hn]; exact (by simp [hz_b3]))) (by simp only [defers_put, hd_b3]) ⟨rfl, Below.refl _ _⟩
      · have hy : isDig b = true := decide_eq_true (by omega)
        have hd2 : decide (57 < (b.toNat : Int)) = false := by simp; omega
        refine wpIn_seq (region_p 10 ?_)
        intro K hK
        refine ListK.move (i := 0) (v := strV [c0, c1, c2, c3, c4, c5, c6]) rfl (by simp [v0]) ?_
        refine ListK.move (i := 1) (v := .int .i64 (k : Int)) rfl (by simp [v3]) ?_
        refine ListK.indexV (i := 2) (u := strV [c0, c1, c2, c3, c4, c5, c6]) (u' := .int .i64 (k : Int)) (v := u8V b) rfl (by simp [hz_b2]) (by simp [hz_b2]) (ix9 hb _) ?_
        refine ListK.bin (i := 3) (u := u8V b) (u' := .int .u8 48) (v := .bool false) rfl (by simp [hz_b2]) (by simp) (by rw [← hd1]; exact lss5n b 48 _) ?_
        refine ListK.move (i := 4) (v := .bool false) rfl (by simp [hz_b2]) ?_
        refine ListK.move (i := 5) (v := strV [c0, c1, c2, c3, c4, c5, c6]) rfl (by simp [v0]) ?_ (hw := wanted_g (e := 30) (b' := false) rfl (by simp [hz_b2]) rfl)
        refine ListK.move (i := 6) (v := .int .i64 (k : Int)) rfl (by simp [v3]) ?_ (hw := wanted_g (e := 30) (b' := false) rfl (by simp [hz_b2]) rfl)
        refine ListK.indexVW (i := 7) (u := strV [c0, c1, c2, c3, c4, c5, c6]) (u' := .int .i64 (k : Int)) (v := u8V b) rfl (by simp [hz_b2]) (by simp [hz_b2]) (ix9 hb _) ?_ (hw := wanted_g (e := 30) (b' := false) rfl (by simp [hz_b2]) rfl)
        refine ListK.bin (i := 8) (u := u8V b) (u' := .int .u8 57) (v := .bool false) rfl (by simp [hz_b2]) (by simp) (by rw [← hd2]; exact gtr5n b 57 _) ?_ (hw := wanted_g (e := 30) (b' := false) rfl (by simp [hz_b2]) rfl)
        refine ListK.pick (i := 9) (b := false) (v := .bool false) rfl (by simp [hz_b2]) (by simp [hz_b2]) ?_
        refine ListK.done (hK _ _ ?_)
        clear hK K
        refine wpIn_cond (t := false) (by simp [hz_b2]) (wpIn_skip ?_)
        generalize hA : Act.put _ _ _ = b3
        have hz_b3 : b3.tmps.size = 64 := by rw [← hA]; simp only [size_put, hz_b2]
        have q0 : b3.eval (.tmp 0) = strV [c0, c1, c2, c3, c4, c5, c6] := by rw [← hA]; exact (by simp [v0])
        have q3 : b3.eval (.tmp 3) = .int .i64 (k : Int) := by rw [← hA]; exact (by simp [v3])
        have hd_b3 : b3.defers = [] := by rw [← hA]; simp only [defers_put, hd_b2]
        clear hA
        refine region_p 3 ?_
        intro K hK
        refine ListK.move (i := 0) (v := .int .i64 (k : Int)) rfl (by simp [q3]) ?_
        refine ListK.bin (i := 1) (u := .int .i64 (k : Int)) (u' := .int .i64 1) (v := .int .i64 ((k + 1 : Nat) : Int)) rfl (by simp [hz_b3]) (by simp) (add3 (by omega) (by omega) _) ?_
        refine ListK.assign (i := 2) (v := .int .i64 ((k + 1 : Nat) : Int)) rfl (by simp [hz_b3]) ?_
        refine ListK.done (hK _ _ ?_)
        clear hK K
        refine ⟨⟨k + 1, rfl, by omega, by omega, fun j x h1 h2 h3 => ?_, (by simp only [size_put, hz_b3]), (by simp only [defers_put, hd_b3]), (by simp [q0]), (by simp [hz_b3])⟩, ?_⟩
        · by_cases hjk : j = k
          · subst hjk
            rw [hb] at h3
            cases h3
            exact hy
          · exact hdg j x h1 (by omega) h3
        · rw [s3, show (Act.put _ _ _).eval (.tmp 3) = .int .i64 ((k + 1 : Nat) : Int) from (by simp [hz_b3])]
          simp only [intOf]
          omega
  · have hk : k = 7 := by omega
    refine wpIn_seq (wpIn_seq (region_p 2 ?_))
    intro K hK
    refine ListK.move (i := 0) (v := .int .i64 (k : Int)) rfl (by simp [s3]) ?_
    refine ListK.bin (i := 1) (u := .int .i64 (k : Int)) (u' := .int .i64 7) (v := .bool false) rfl (by simp [hz_b1]) (by simp) (lssF3 (by omega) _) ?_
    refine ListK.done (hK _ _ ?_)
    clear hK K
    refine wpIn_cond (t := false) (by simp [hz_b1]) (wpIn_exit ?_)
    show ig_c.wpIn _ _ _ _ _ _
    refine ig_c_any h0 (fun j x h1 h2 => hdg j x h1 ?_ h2) (by simp only [size_put, hz_b1]) (by simp only [defers_put, hd_b1]) (by simp [s0])
    have := (List.getElem?_eq_some_iff.1 h2).1
    simp only [List.length_cons, List.length_nil] at this
    omega
end
set_option maxHeartbeats 400000 in
theorem isGood_any (l : List UInt8) (hl : l.length ≤ 100000) (W : World) : Calls Try.prog 60 #[strV l] W (EvP W (.bool (isGood l))) := by
  refine (callsIn_wide (n := 5)).1 (callsIn_of_wp Try.func60 body60 trivial ?_ rfl)
  obtain ⟨a, ha⟩ : ∃ a : Act, a = { tmps := #[strV l] ++ Array.replicate (Try.f60.ntmps - (#[strV l] : Array Value).size) undef, defers := [] } := ⟨_, rfl⟩
  have hsz : a.tmps.size = 64 := by rw [ha]; simp [Try.ntmps60]
  have t0 : a.eval (.tmp 0) = strV l := by rw [ha]; simp [Act.eval]
  have hd_a : a.defers = [] := by rw [ha]
  rw [← ha]
  clear ha
  unfold code60
  refine wpIn_seq (region_p 1 ?_)
  intro K hK
  refine ListK.assign (i := 0) (v := .bool false) rfl (by simp) ?_
  refine ListK.done (hK _ _ ?_)
  clear hK K
  generalize hA : Act.put _ _ _ = a1
  have hz_a1 : a1.tmps.size = 64 := by rw [← hA]; simp only [size_put, hsz]
  have u0 : a1.eval (.tmp 0) = strV l := by rw [← hA]; exact (by simp [t0])
  have hd_a1 : a1.defers = [] := by rw [← hA]; simp only [defers_put, hd_a]
  clear hA
  by_cases h7 : l.length = 7
  · obtain ⟨c0, c1, c2, c3, c4, c5, c6, rfl⟩ := len7 h7
    by_cases h1 : c0 = 72
    · have d1 : (!decide (c0 = 72)) = false := by simp [h1]
      refine wpIn_seq (wpIn_seq (region_p 18 ?_))
      intro K hK
      refine ListK.move (i := 0) (v := strV [c0, c1, c2, c3, c4, c5, c6]) rfl (by simp [u0]) ?_
      refine ListK.len (i := 1) (u := strV [c0, c1, c2, c3, c4, c5, c6]) (v := .int .i64 (([c0, c1, c2, c3, c4, c5, c6]).length : Int)) rfl (by simp [hz_a1]) (ln9 _ _ _) rfl ?_
      refine ListK.bin (i := 2) (u := .int .i64 (([c0, c1, c2, c3, c4, c5, c6]).length : Int)) (u' := .int .i64 7) (v := .bool false) rfl (by simp [hz_a1]) (by simp) (neqF (by simp) _) ?_
      refine ListK.move (i := 3) (v := .bool false) rfl (by simp [hz_a1]) ?_
      refine ListK.move (i := 4) (v := strV [c0, c1, c2, c3, c4, c5, c6]) rfl (by simp [u0]) ?_ (hw := wanted_g (e := 7) (b' := false) rfl (by simp [hz_a1]) rfl)
      refine ListK.indexVW (i := 5) (u := strV [c0, c1, c2, c3, c4, c5, c6]) (u' := .int .i64 0) (v := u8V c0) rfl (by simp [hz_a1]) (by simp) (ix9 (k := 0) rfl _) ?_ (hw := wanted_g (e := 7) (b' := false) rfl (by simp [hz_a1]) rfl)
      refine ListK.bin (i := 6) (u := u8V c0) (u' := .int .u8 72) (v := .bool false) rfl (by simp [hz_a1]) (by simp) (by rw [← d1]; exact neq5n c0 72 _) ?_ (hw := wanted_g (e := 7) (b' := false) rfl (by simp [hz_a1]) rfl)
      refine ListK.move (i := 7) (v := .bool false) rfl (by simp [hz_a1]) ?_ (hw := wanted_g (e := 7) (b' := false) rfl (by simp [hz_a1]) rfl)
      refine ListK.passG (i := 8) (e := 11) (b' := false) rfl rfl (by simp [hz_a1]) rfl ?_
      refine ListK.passG (i := 9) (e := 11) (b' := false) rfl rfl (by simp [hz_a1]) rfl ?_
      refine ListK.passG (i := 10) (e := 11) (b' := false) rfl rfl (by simp [hz_a1]) rfl ?_
      refine ListK.pickW (i := 11) (b := false) (v := .bool false) rfl (by simp [hz_a1]) (by simp) ?_ (hw := wanted_g (e := 7) (b' := false) rfl (by simp [hz_a1]) rfl)
      refine ListK.move (i := 12) (v := .bool false) rfl (by simp [hz_a1]) ?_ (hw := wanted_g (e := 7) (b' := false) rfl (by simp [hz_a1]) rfl)
      refine ListK.passG (i := 13) (e := 16) (b' := false) rfl rfl (by simp [hz_a1]) rfl ?_
      refine ListK.passG (i := 14) (e := 16) (b' := false) rfl rfl (by simp [hz_a1]) rfl ?_
      refine ListK.passG (i := 15) (e := 16) (b' := false) rfl rfl (by simp [hz_a1]) rfl ?_
      refine ListK.pickW (i := 16) (b := false) (v := .bool false) rfl (by simp [hz_a1]) (by simp) ?_ (hw := wanted_g (e := 7) (b' := false) rfl (by simp [hz_a1]) rfl)
      refine ListK.pick (i := 17) (b := false) (v := .bool false) rfl (by simp [hz_a1]) (by simp [hz_a1]) ?_
      refine ListK.done (hK _ _ ?_)
      clear hK K
      refine wpIn_cond (t := false) (by simp [hz_a1]) (wpIn_skip ?_)
      exact ig_b_any (.inl h1) (by simp only [size_put, hz_a1]) (by simp only [defers_put, hd_a1]) (by simp [u0])
    · have d1 : (!decide (c0 = 72)) = true := by simp [h1]
      by_cases h2 : c0 = 82
      · have d2 : (!decide (c0 = 82)) = false := by simp [h2]
        refine wpIn_seq (wpIn_seq (region_p 18 ?_))
        intro K hK
        refine ListK.move (i := 0) (v := strV [c0, c1, c2, c3, c4, c5, c6]) rfl (by simp [u0]) ?_
        refine ListK.len (i := 1) (u := strV [c0, c1, c2, c3, c4, c5, c6]) (v := .int .i64 (([c0, c1, c2, c3, c4, c5, c6]).length : Int)) rfl (by simp [hz_a1]) (ln9 _ _ _) rfl ?_
        refine ListK.bin (i := 2) (u := .int .i64 (([c0, c1, c2, c3, c4, c5, c6]).length : Int)) (u' := .int .i64 7) (v := .bool false) rfl (by simp [hz_a1]) (by simp) (neqF (by simp) _) ?_
        refine ListK.move (i := 3) (v := .bool false) rfl (by simp [hz_a1]) ?_
        refine ListK.move (i := 4) (v := strV [c0, c1, c2, c3, c4, c5, c6]) rfl (by simp [u0]) ?_ (hw := wanted_g (e := 7) (b' := false) rfl (by simp [hz_a1]) rfl)
        refine ListK.indexVW (i := 5) (u := strV [c0, c1, c2, c3, c4, c5, c6]) (u' := .int .i64 0) (v := u8V c0) rfl (by simp [hz_a1]) (by simp) (ix9 (k := 0) rfl _) ?_ (hw := wanted_g (e := 7) (b' := false) rfl (by simp [hz_a1]) rfl)
        refine ListK.bin (i := 6) (u := u8V c0) (u' := .int .u8 72) (v := .bool true) rfl (by simp [hz_a1]) (by simp) (by rw [← d1]; exact neq5n c0 72 _) ?_ (hw := wanted_g (e := 7) (b' := false) rfl (by simp [hz_a1]) rfl)
        refine ListK.move (i := 7) (v := .bool true) rfl (by simp [hz_a1]) ?_ (hw := wanted_g (e := 7) (b' := false) rfl (by simp [hz_a1]) rfl)
        refine ListK.move (i := 8) (v := strV [c0, c1, c2, c3, c4, c5, c6]) rfl (by simp [u0]) ?_ (hw := wanted_g (e := 11) (b' := true) rfl (by simp [hz_a1]) rfl)
        refine ListK.indexVW (i := 9) (u := strV [c0, c1, c2, c3, c4, c5, c6]) (u' := .int .i64 0) (v := u8V c0) rfl (by simp [hz_a1]) (by simp) (ix9 (k := 0) rfl _) ?_ (hw := wanted_g (e := 11) (b' := true) rfl (by simp [hz_a1]) rfl)
        refine ListK.bin (i := 10) (u := u8V c0) (u' := .int .u8 82) (v := .bool false) rfl (by simp [hz_a1]) (by simp) (by rw [← d2]; exact neq5n c0 82 _) ?_ (hw := wanted_g (e := 11) (b' := true) rfl (by simp [hz_a1]) rfl)
        refine ListK.pickW (i := 11) (b := true) (v := .bool false) rfl (by simp [hz_a1]) (by simp [hz_a1]) ?_ (hw := wanted_g (e := 7) (b' := false) rfl (by simp [hz_a1]) rfl)
        refine ListK.move (i := 12) (v := .bool false) rfl (by simp [hz_a1]) ?_ (hw := wanted_g (e := 7) (b' := false) rfl (by simp [hz_a1]) rfl)
        refine ListK.passG (i := 13) (e := 16) (b' := false) rfl rfl (by simp [hz_a1]) rfl ?_
        refine ListK.passG (i := 14) (e := 16) (b' := false) rfl rfl (by simp [hz_a1]) rfl ?_
        refine ListK.passG (i := 15) (e := 16) (b' := false) rfl rfl (by simp [hz_a1]) rfl ?_
        refine ListK.pickW (i := 16) (b := false) (v := .bool false) rfl (by simp [hz_a1]) (by simp) ?_ (hw := wanted_g (e := 7) (b' := false) rfl (by simp [hz_a1]) rfl)
        refine ListK.pick (i := 17) (b := false) (v := .bool false) rfl (by simp [hz_a1]) (by simp [hz_a1]) ?_
        refine ListK.done (hK _ _ ?_)
        clear hK K
        refine wpIn_cond (t := false) (by simp [hz_a1]) (wpIn_skip ?_)
        exact ig_b_any (.inr (.inl h2)) (by simp only [size_put, hz_a1]) (by simp only [defers_put, hd_a1]) (by simp [u0])
      · have d2 : (!decide (c0 = 82)) = true := by simp [h2]
        by_cases h3 : c0 = 80
        · have d3 : (!decide (c0 = 80)) = false := by simp [h3]
          refine wpIn_seq (wpIn_seq (region_p 18 ?_))
          intro K hK
          refine ListK.move (i := 0) (v := strV [c0, c1, c2, c3, c4, c5, c6]) rfl (by simp [u0]) ?_
          refine ListK.len (i := 1) (u := strV [c0, c1, c2, c3, c4, c5, c6]) (v := .int .i64 (([c0, c1, c2, c3, c4, c5, c6]).length : Int)) rfl (by simp [hz_a1]) (ln9 _ _ _) rfl ?_
          refine ListK.bin (i := 2) (u := .int .i64 (([c0, c1, c2, c3, c4, c5, c6]).length : Int)) (u' := .int .i64 7) (v := .bool false) rfl (by simp [hz_a1]) (by simp) (neqF (by simp) _) ?_
          refine ListK.move (i := 3) (v := .bool false) rfl (by simp [hz_a1]) ?_
          refine ListK.move (i := 4) (v := strV [c0, c1, c2, c3, c4, c5, c6]) rfl (by simp [u0]) ?_ (hw := wanted_g (e := 7) (b' := false) rfl (by simp [hz_a1]) rfl)
          refine ListK.indexVW (i := 5) (u := strV [c0, c1, c2, c3, c4, c5, c6]) (u' := .int .i64 0) (v := u8V c0) rfl (by simp [hz_a1]) (by simp) (ix9 (k := 0) rfl _) ?_ (hw := wanted_g (e := 7) (b' := false) rfl (by simp [hz_a1]) rfl)
          refine ListK.bin (i := 6) (u := u8V c0) (u' := .int .u8 72) (v := .bool true) rfl (by simp [hz_a1]) (by simp) (by rw [← d1]; exact neq5n c0 72 _) ?_ (hw := wanted_g (e := 7) (b' := false) rfl (by simp [hz_a1]) rfl)
          refine ListK.move (i := 7) (v := .bool true) rfl (by simp [hz_a1]) ?_ (hw := wanted_g (e := 7) (b' := false) rfl (by simp [hz_a1]) rfl)
          refine ListK.move (i := 8) (v := strV [c0, c1, c2, c3, c4, c5, c6]) rfl (by simp [u0]) ?_ (hw := wanted_g (e := 11) (b' := true) rfl (by simp [hz_a1]) rfl)
          refine ListK.indexVW (i := 9) (u := strV [c0, c1, c2, c3, c4, c5, c6]) (u' := .int .i64 0) (v := u8V c0) rfl (by simp [hz_a1]) (by simp) (ix9 (k := 0) rfl _) ?_ (hw := wanted_g (e := 11) (b' := true) rfl (by simp [hz_a1]) rfl)
          refine ListK.bin (i := 10) (u := u8V c0) (u' := .int .u8 82) (v := .bool true) rfl (by simp [hz_a1]) (by simp) (by rw [← d2]; exact neq5n c0 82 _) ?_ (hw := wanted_g (e := 11) (b' := true) rfl (by simp [hz_a1]) rfl)
          refine ListK.pickW (i := 11) (b := true) (v := .bool true) rfl (by simp [hz_a1]) (by simp [hz_a1]) ?_ (hw := wanted_g (e := 7) (b' := false) rfl (by simp [hz_a1]) rfl)
          refine ListK.move (i := 12) (v := .bool true) rfl (by simp [hz_a1]) ?_ (hw := wanted_g (e := 7) (b' := false) rfl (by simp [hz_a1]) rfl)
          refine ListK.move (i := 13) (v := strV [c0, c1, c2, c3, c4, c5, c6]) rfl (by simp [u0]) ?_ (hw := wanted_g (e := 16) (b' := true) rfl (by simp [hz_a1]) rfl)
          refine ListK.indexVW (i := 14) (u := strV [c0, c1, c2, c3, c4, c5, c6]) (u' := .int .i64 0) (v := u8V c0) rfl (by simp [hz_a1]) (by simp) (ix9 (k := 0) rfl _) ?_ (hw := wanted_g (e := 16) (b' := true) rfl (by simp [hz_a1]) rfl)
          refine ListK.bin (i := 15) (u := u8V c0) (u' := .int .u8 80) (v := .bool false) rfl (by simp [hz_a1]) (by simp) (by rw [← d3]; exact neq5n c0 80 _) ?_ (hw := wanted_g (e := 16) (b' := true) rfl (by simp [hz_a1]) rfl)
          refine ListK.pickW (i := 16) (b := true) (v := .bool false) rfl (by simp [hz_a1]) (by simp [hz_a1]) ?_ (hw := wanted_g (e := 7) (b' := false) rfl (by simp [hz_a1]) rfl)
          refine ListK.pick (i := 17) (b := false) (v := .bool false) rfl (by simp [hz_a1]) (by simp [hz_a1]) ?_
          refine ListK.done (hK _ _ ?_)
          clear hK K
          refine wpIn_cond (t := false) (by simp [hz_a1]) (wpIn_skip ?_)
          exact ig_b_any (.inr (.inr h3)) (by simp only [size_put, hz_a1]) (by simp only [defers_put, hd_a1]) (by simp [u0])
        · have d3 : (!decide (c0 = 80)) = true := by simp [h3]
          have hv : isGood [c0, c1, c2, c3, c4, c5, c6] = false := by
            show good7 c0 c1 c2 c3 c4 c5 c6 = false
            simp [good7, h1, h2, h3]
          refine wpIn_seq (wpIn_seq (region_p 18 ?_))
          intro K hK
          refine ListK.move (i := 0) (v := strV [c0, c1, c2, c3, c4, c5, c6]) rfl (by simp [u0]) ?_
          refine ListK.len (i := 1) (u := strV [c0, c1, c2, c3, c4, c5, c6]) (v := .int .i64 (([c0, c1, c2, c3, c4, c5, c6]).length : Int)) rfl (by simp [hz_a1]) (ln9 _ _ _) rfl ?_
          refine ListK.bin (i := 2) (u := .int .i64 (([c0, c1, c2, c3, c4, c5, c6]).length : Int)) (u' := .int .i64 7) (v := .bool false) rfl (by simp [hz_a1]) (by simp) (neqF (by simp) _) ?_
          refine ListK.move (i := 3) (v := .bool false) rfl (by simp [hz_a1]) ?_
          refine ListK.move (i := 4) (v := strV [c0, c1, c2, c3, c4, c5, c6]) rfl (by simp [u0]) ?_ (hw := wanted_g (e := 7) (b' := false) rfl (by simp [hz_a1]) rfl)
          refine ListK.indexVW (i := 5) (u := strV [c0, c1, c2, c3, c4, c5, c6]) (u' := .int .i64 0) (v := u8V c0) rfl (by simp [hz_a1]) (by simp) (ix9 (k := 0) rfl _) ?_ (hw := wanted_g (e := 7) (b' := false) rfl (by simp [hz_a1]) rfl)
          refine ListK.bin (i := 6) (u := u8V c0) (u' := .int .u8 72) (v := .bool true) rfl (by simp [hz_a1]) (by simp) (by rw [← d1]; exact neq5n c0 72 _) ?_ (hw := wanted_g (e := 7) (b' := false) rfl (by simp [hz_a1]) rfl)
          refine ListK.move (i := 7) (v := .bool true) rfl (by simp [hz_a1]) ?_ (hw := wanted_g (e := 7) (b' := false) rfl (by simp [hz_a1]) rfl)
          refine ListK.move (i := 8) (v := strV [c0, c1, c2, c3, c4, c5, c6]) rfl (by simp [u0]) ?_ (hw := wanted_g (e := 11) (b' := true) rfl (by simp [hz_a1]) rfl)
          refine ListK.indexVW (i := 9) (u := strV [c0, c1, c2, c3, c4, c5, c6]) (u' := .int .i64 0) (v := u8V c0) rfl (by simp [hz_a1]) (by simp) (ix9 (k := 0) rfl _) ?_ (hw := wanted_g (e := 11) (b' := true) rfl (by simp [hz_a1]) rfl)
          refine ListK.bin (i := 10) (u := u8V c0) (u' := .int .u8 82) (v := .bool true) rfl (by simp [hz_a1]) (by simp) (by rw [← d2]; exact neq5n c0 82 _) ?_ (hw := wanted_g (e := 11) (b' := true) rfl (by simp [hz_a1]) rfl)
          refine ListK.pickW (i := 11) (b := true) (v := .bool true) rfl (by simp [hz_a1]) (by simp [hz_a1]) ?_ (hw := wanted_g (e := 7) (b' := false) rfl (by simp [hz_a1]) rfl)
          refine ListK.move (i := 12) (v := .bool true) rfl (by simp [hz_a1]) ?_ (hw := wanted_g (e := 7) (b' := false) rfl (by simp [hz_a1]) rfl)
          refine ListK.move (i := 13) (v := strV [c0, c1, c2, c3, c4, c5, c6]) rfl (by simp [u0]) ?_ (hw := wanted_g (e := 16) (b' := true) rfl (by simp [hz_a1]) rfl)
          refine ListK.indexVW (i := 14) (u := strV [c0, c1, c2, c3, c4, c5, c6]) (u' := .int .i64 0) (v := u8V c0) rfl (by simp [hz_a1]) (by simp) (ix9 (k := 0) rfl _) ?_ (hw := wanted_g (e := 16) (b' := true) rfl (by simp [hz_a1]) rfl)
          refine ListK.bin (i := 15) (u := u8V c0) (u' := .int .u8 80) (v := .bool true) rfl (by simp [hz_a1]) (by simp) (by rw [← d3]; exact neq5n c0 80 _) ?_ (hw := wanted_g (e := 16) (b' := true) rfl (by simp [hz_a1]) rfl)
          refine ListK.pickW (i := 16) (b := true) (v := .bool true) rfl (by simp [hz_a1]) (by simp [hz_a1]) ?_ (hw := wanted_g (e := 7) (b' := false) rfl (by simp [hz_a1]) rfl)
          refine ListK.pick (i := 17) (b := false) (v := .bool true) rfl (by simp [hz_a1]) (by simp [hz_a1]) ?_
          refine ListK.done (hK _ _ ?_)
          clear hK K
          refine wpIn_cond (t := true) (by simp [hz_a1]) ?_
          generalize hA : Act.put _ _ _ = a2
          have hz_a2 : a2.tmps.size = 64 := by rw [← hA]; simp only [size_put, hz_a1]
          have v0 : a2.eval (.tmp 0) = strV [c0, c1, c2, c3, c4, c5, c6] := by rw [← hA]; exact (by simp [u0])
          have hd_a2 : a2.defers = [] := by rw [← hA]; simp only [defers_put, hd_a1]
          clear hA
          refine wpIn_seq (region_p 1 ?_)
          intro K hK
          refine ListK.assign (i := 0) (v := .bool false) rfl (by simp) ?_
          refine ListK.done (hK _ _ (wpIn_ret ?_))
          exact bodyPost_ret (v := .bool (isGood [c0, c1, c2, c3, c4, c5, c6])) (res1 Try.results60 (by rw [hv]; exact (by simp [hz_a2]))) (by simp only [defers_put, hd_a2]) ⟨rfl, Below.refl _ _⟩
  · have hv : isGood l = false := by
      unfold isGood
      split
      · exact (h7 rfl).elim
      · rfl
    refine wpIn_seq (wpIn_seq (region_p 18 ?_))
    intro K hK
    refine ListK.move (i := 0) (v := strV l) rfl (by simp [u0]) ?_
    refine ListK.len (i := 1) (u := strV l) (v := .int .i64 ((l).length : Int)) rfl (by simp [hz_a1]) (ln9 _ _ _) rfl ?_
    refine ListK.bin (i := 2) (u := .int .i64 ((l).length : Int)) (u' := .int .i64 7) (v := .bool true) rfl (by simp [hz_a1]) (by simp) (neqT (by omega) _) ?_
    refine ListK.move (i := 3) (v := .bool true) rfl (by simp [hz_a1]) ?_
    refine ListK.passG (i := 4) (e := 7) (b' := true) rfl rfl (by simp [hz_a1]) rfl ?_
    refine ListK.passG (i := 5) (e := 7) (b' := true) rfl rfl (by simp [hz_a1]) rfl ?_
    refine ListK.passG (i := 6) (e := 7) (b' := true) rfl rfl (by simp [hz_a1]) rfl ?_
    refine ListK.passG (i := 7) (e := 7) (b' := true) rfl rfl (by simp [hz_a1]) rfl ?_
    refine ListK.passU (i := 8) (e := 11) rfl rfl (by simp [hz_a1]) ?_
    refine ListK.passU (i := 9) (e := 11) rfl rfl (by simp [hz_a1]) ?_
    refine ListK.passU (i := 10) (e := 11) rfl rfl (by simp [hz_a1]) ?_
    refine ListK.passG (i := 11) (e := 7) (b' := true) rfl rfl (by simp [hz_a1]) rfl ?_
    refine ListK.passG (i := 12) (e := 7) (b' := true) rfl rfl (by simp [hz_a1]) rfl ?_
    refine ListK.passU (i := 13) (e := 16) rfl rfl (by simp [hz_a1]) ?_
    refine ListK.passU (i := 14) (e := 16) rfl rfl (by simp [hz_a1]) ?_
    refine ListK.passU (i := 15) (e := 16) rfl rfl (by simp [hz_a1]) ?_
    refine ListK.passG (i := 16) (e := 7) (b' := true) rfl rfl (by simp [hz_a1]) rfl ?_
    refine ListK.pick (i := 17) (b := true) (v := .bool true) rfl (by simp [hz_a1]) (by simp) ?_
    refine ListK.done (hK _ _ ?_)
    clear hK K
    refine wpIn_cond (t := true) (by simp [hz_a1]) ?_
    generalize hA : Act.put _ _ _ = a2
    have hz_a2 : a2.tmps.size = 64 := by rw [← hA]; simp only [size_put, hz_a1]
    have v0 : a2.eval (.tmp 0) = strV l := by rw [← hA]; exact (by simp [u0])
    have hd_a2 : a2.defers = [] := by rw [← hA]; simp only [defers_put, hd_a1]
    clear hA
    refine wpIn_seq (region_p 1 ?_)
    intro K hK
    refine ListK.assign (i := 0) (v := .bool false) rfl (by simp) ?_
    refine ListK.done (hK _ _ (wpIn_ret ?_))
    exact bodyPost_ret (v := .bool (isGood l)) (res1 Try.results60 (by rw [hv]; exact (by simp [hz_a2]))) (by simp only [defers_put, hd_a2]) ⟨rfl, Below.refl _ _⟩
end Go.Proofs.YtmdlmmfbcnkanaaR
namespace Go.Proofs.YtmdlmmfbcnkanaaR
open Go.RowKit Go.Shelf
theorem StrsAt.drop {w : World} {B b off : Nat} {L : List (List UInt8)} (k : Nat) (h : StrsAt w B (some ⟨b, off, none⟩) L) : StrsAt w B (some ⟨b, off + k, none⟩) (L.drop k) := by
  intro i l hl
  rw [List.getElem?_drop] at hl
  obtain ⟨b', o', e, h1, h2⟩ := h (k + i) l hl
  cases e
  exact ⟨b, off + k, rfl, h1, by rw [Nat.add_assoc]; exact h2⟩
theorem StrsAt.take {w : World} {B : Nat} {A : Option Addr} {L : List (List UInt8)} (k : Nat) (h : StrsAt w B A L) : StrsAt w B A (L.take k) := by
  intro i l hl
  rw [List.getElem?_take] at hl
  split at hl
  · exact h i l hl
  · cases hl
end Go.Proofs.YtmdlmmfbcnkanaaR
namespace Go.Proofs.YtmdlmmfbcnkanaaR
open Go.RowKit Go.Shelf
section
variable {ops : Array Oper} {K : Act → World → Prop} {Kp : Nat → World → World → Prop} {fuel d i : Nat} {listed : Array Bool} {a : Act} {w w' : World} {ty : TypeId} {pos : String} {aft : Array Edge} {v v2 v' : Value}
theorem StepK.app36 {s z : Operand} (hi : ops[i]? = some ⟨some d, .call { callee := .builtin .append, args := #[s, z], argTypes := #[36, 36] }, ty, pos, aft, none⟩) (hs : a.eval s = v) (hx : a.eval z = v2)
    (hr : (Builtin.append_ #[36, 36] ty #[v, v2]).run Try.prog w = .ok v' w') (hk : Kp i w w') (h : AnyK Try.prog ops K Kp fuel (listed.setIfInBounds i true) (a.put (some d) v') w') : StepK Try.prog ops K Kp fuel listed a w i := by
  unfold StepK opG
  simp only [hi]
  rw [if_pos (show Region.wanted _ _ = true from rfl)]
  simp [Oper.wp, execOp, resolve, invoke, builtin, hs, hx, hr, Oper.upon]
  exact ⟨hk, h⟩
end
/-- What is left of some records. -/
structure Tn (L : List (List UInt8)) (i : Nat) (T : List (List UInt8)) : Prop where
  sub : ∀ r, r ∈ T → r ∈ L
  hd : 0 < i → ∀ h, L[0]? = some h → h ∈ T
  len : T.length ≤ 2 * i
theorem Tn.skip {L : List (List UInt8)} {i : Nat} {T : List (List UInt8)} (t : Tn L i T) (hi : 0 < i) : Tn L (i + 1) T := ⟨t.sub, fun _ => t.hd hi, by have := t.len; omega⟩
theorem Tn.one {L : List (List UInt8)} {i : Nat} {T : List (List UInt8)} {l : List UInt8} (t : Tn L i T) (hl : L[i]? = some l) : Tn L (i + 1) (T ++ [l]) := by
  refine ⟨fun r hr => ?_, fun _ h hh => ?_, by have := t.len; simp; omega⟩
  · rcases List.mem_append.1 hr with hr | hr
    · exact t.sub r hr
    · simp at hr
      rw [hr]
      exact List.mem_of_getElem? hl
  · by_cases h0 : i = 0
    · subst h0
      rw [hl] at hh
      cases hh
      simp
    · exact List.mem_append_left _ (t.hd (by omega) h hh)
theorem Tn.two {L : List (List UInt8)} {i : Nat} {T : List (List UInt8)} {l : List UInt8} (t : Tn L i T) (hl : L[i]? = some l) : Tn L (i + 1) (T ++ [l, l]) := by
  have h1 := t.one hl
  refine ⟨fun r hr => h1.sub r (by simpa using hr), fun h0 h hh => by simpa using h1.hd h0 h hh, by have := t.len; simp; omega⟩
theorem WordsAt.below {w w' : World} {B : Nat} {A : Option Addr} {l : List Nat} (h : WordsAt w B A l) (hb : Below B w w') : WordsAt w' B A l := by
  intro k x hx
  obtain ⟨h1, b, off, e, h2, h3⟩ := h k x hx
  exact ⟨h1, b, off, e, h2, by rw [hb.cell (show Addr.block ⟨b, off + k, none⟩ < B from h2)]; exact h3⟩
theorem WordsAt.more {w : World} {B B' : Nat} {A : Option Addr} {l : List Nat} (h : WordsAt w B A l) (hb : B ≤ B') : WordsAt w B' A l := by
  intro k x hx
  obtain ⟨h1, b, off, e, h2, h3⟩ := h k x hx
  exact ⟨h1, b, off, e, Nat.lt_of_lt_of_le h2 hb, h3⟩
theorem os_none (W : World) : OS W (.slice none 0 0) [] W := ⟨Below.refl _ _, rfl, .inl ⟨rfl, rfl⟩⟩
theorem StrsAt.wide {w : World} {B B' : Nat} {A : Option Addr} {L : List (List UInt8)} (h : StrsAt w B A L) (hb : B ≤ B') : StrsAt w B' A L := by
  intro i l hl
  obtain ⟨b, o, e1, e2, e3⟩ := h i l hl
  exact ⟨b, o, e1, Nat.lt_of_lt_of_le e2 hb, e3⟩
section
attribute [local irreducible] AnyK StepK
variable {L : List (List UInt8)} {A Aw : Option Addr} {c cw by_ : Nat} {lw : List Nat} {W : World}
end
end Go.Proofs.YtmdlmmfbcnkanaaR
namespace Go.Proofs.YtmdlmmfbcnkanaaR
open Go.RowKit Go.Shelf
noncomputable def opsGo30 : Array Oper := (Try.f32.body.bind (regionOf 0)).getD #[]
noncomputable def opsGo31 : Array Oper := (Try.f32.body.bind (regionOf 1)).getD #[]
noncomputable def opsGo32 : Array Oper := (Try.f32.body.bind (regionOf 2)).getD #[]
noncomputable def opsGo33 : Array Oper := (Try.f32.body.bind (regionOf 3)).getD #[]
noncomputable def opsGo34 : Array Oper := (Try.f32.body.bind (regionOf 4)).getD #[]
noncomputable def opsGo35 : Array Oper := (Try.f32.body.bind (regionOf 5)).getD #[]
noncomputable def opsGo36 : Array Oper := (Try.f32.body.bind (regionOf 6)).getD #[]
noncomputable def opsGo37 : Array Oper := (Try.f32.body.bind (regionOf 7)).getD #[]
noncomputable def gd_l : Code := (.seq (.seq (.region 3 opsGo33 false) (.cond (.tmp 8) .skip (.exit 0))) (.seq (.block 1 (.seq (.region 5 opsGo35 false) (.cond (.tmp 15) (.region 6 opsGo36 false) .skip))) (.region 4 opsGo34 false)))
noncomputable def code32 : Code := (.seq (.region 0 opsGo30 false) (.seq (.region 1 opsGo31 false) (.seq (.seq (.region 2 opsGo32 false) (.block 0 (.loop gd_l))) (.seq (.region 7 opsGo37 false) .ret))))
theorem body32 : Try.f32.body = some code32 := by kernel_rfl
set_option maxHeartbeats 400000 in
theorem refGood_any (A : Option Addr) (c : Nat) (L : List (List UInt8)) (hL : L.length ≤ 90000) (hx8 : ∀ x, x ∈ L → x.length ≤ 100000) (W : World) (hst : StrsAt W W.heap.size A L) : Calls Try.prog 32 #[.slice A L.length c] W (fun e w' => ∃ v, e = .returned v ∧ OS W v (L.filter isGood) w') := by
  refine (callsIn_wide (n := 5)).1 (callsIn_of_wp Try.func32 body32 trivial ?_ rfl)
  obtain ⟨a, ha⟩ : ∃ a : Act, a = { tmps := #[.slice A L.length c] ++ Array.replicate (Try.f32.ntmps - (#[.slice A L.length c] : Array Value).size) undef, defers := [] } := ⟨_, rfl⟩
  have hsz : a.tmps.size = 24 := by rw [ha]; simp [Try.ntmps32]
  have t0 : a.eval (.tmp 0) = .slice A L.length c := by rw [ha]; simp [Act.eval]
  have hd_a : a.defers = [] := by rw [ha]
  rw [← ha]
  clear ha
  unfold code32
  refine wpIn_seq (region_p 1 ?_)
  intro K hK
  refine ListK.assign (i := 0) (v := .slice none 0 0) rfl (by simp) ?_
  refine ListK.done (hK _ _ ?_)
  clear hK K
  refine wpIn_seq (region_p 1 ?_)
  intro K hK
  refine ListK.assign (i := 0) (v := .slice none 0 0) rfl (by simp) ?_
  refine ListK.done (hK _ _ ?_)
  clear hK K
  refine wpIn_seq (wpIn_seq (region_p 1 ?_))
  intro K hK
  refine ListK.assign (i := 0) (v := .int .i64 0) rfl (by simp) ?_
  refine ListK.done (hK _ _ ?_)
  clear hK K
  generalize hA : Act.put _ _ _ = a1
  have hz_a1 : a1.tmps.size = 24 := by rw [← hA]; simp only [size_put, hsz]
  have u0 : a1.eval (.tmp 0) = .slice A L.length c := by rw [← hA]; exact (by simp [t0])
  have u3 : a1.eval (.tmp 3) = .slice none 0 0 := by rw [← hA]; exact (by simp [hsz])
  have u4 : a1.eval (.tmp 4) = .int .i64 0 := by rw [← hA]; exact (by simp [hsz])
  have hd_a1 : a1.defers = [] := by rw [← hA]; simp only [defers_put, hd_a]
  clear hA
  refine wpIn_block (wpIn_loop (fun a W' => ∃ (i : Nat) (v : Value), i ≤ L.length ∧ OS W v ((L.take i).filter isGood) W' ∧ a.tmps.size = 24 ∧ a.defers = [] ∧ a.eval (.tmp 0) = .slice A L.length c ∧ a.eval (.tmp 3) = v ∧ a.eval (.tmp 4) = .int .i64 (i : Int)) (fun a _ => L.length - (intOf (a.eval (.tmp 4))).toNat)
    ⟨0, _, Nat.zero_le _, os_none W, hz_a1, hd_a1, u0, u3, u4⟩ ?_)
  rintro b1 W1 ⟨i, v, hi, os, hz_b1, hd_b1, s0, s3, s4⟩
  unfold gd_l
  by_cases hlt : i < L.length
  · have hx := List.getElem?_eq_getElem hlt
    obtain ⟨gb, off, hA, hgb, hc⟩ := hst i _ hx
    have hc1 := (os.low.cell (p := ⟨gb, off + i, none⟩) hgb).trans hc
    have hxl := hx8 L[i] (List.getElem_mem hlt)
    obtain ⟨x, hxe⟩ : ∃ x, L[i] = x := ⟨_, rfl⟩
    rw [hxe] at hx hc hc1 hxl
    have htk : L.take (i + 1) = L.take i ++ [x] := by rw [List.take_add_one, hx]; rfl
    have hnext : ∀ (b : Act) (W' : World) (v' : Value), b.tmps.size = 24 → b.defers = [] → b.eval (.tmp 0) = .slice A L.length c → b.eval (.tmp 3) = v' → b.eval (.tmp 4) = .int .i64 (i : Int) → OS W v' ((L.take (i + 1)).filter isGood) W' →
        (Code.region 4 opsGo34 false).wpIn Fence.wide 5 Try.prog (fun e a' w' => e = .normal ∧ (∃ (i : Nat) (v : Value), i ≤ L.length ∧ OS W v ((L.take i).filter isGood) w' ∧ a'.tmps.size = 24 ∧ a'.defers = [] ∧ a'.eval (.tmp 0) = .slice A L.length c ∧ a'.eval (.tmp 3) = v ∧ a'.eval (.tmp 4) = .int .i64 (i : Int)) ∧ L.length - (intOf (a'.eval (.tmp 4))).toNat < L.length - (intOf (b1.eval (.tmp 4))).toNat) b W' := by
      intro b W' v' hz_b hd_b p0 p3 p4 os'
      refine region_p 3 ?_
      intro K hK
      refine ListK.move (i := 0) (v := .int .i64 (i : Int)) rfl (by simp [p4]) ?_
      refine ListK.bin (i := 1) (u := .int .i64 (i : Int)) (u' := .int .i64 1) (v := .int .i64 ((i + 1 : Nat) : Int)) rfl (by simp [hz_b]) (by simp) (add3 (by omega) (by omega) _) ?_
      refine ListK.assign (i := 2) (v := .int .i64 ((i + 1 : Nat) : Int)) rfl (by simp [hz_b]) ?_
      refine ListK.done (hK _ _ ?_)
      clear hK K
      refine ⟨rfl, ⟨i + 1, v', by omega, os', (by simp only [size_put, hz_b]), (by simp only [defers_put, hd_b]), (by simp [p0]), (by simp [p3]), (by simp [hz_b])⟩, ?_⟩
      rw [s4, show (Act.put _ _ _).eval (.tmp 4) = .int .i64 ((i + 1 : Nat) : Int) from (by simp [hz_b])]
      simp only [intOf]
      omega
    subst hA
    refine wpIn_seq (wpIn_seq (region_p 4 ?_))
    intro K hK
    refine ListK.move (i := 0) (v := .int .i64 (i : Int)) rfl (by simp [s4]) ?_
    refine ListK.move (i := 1) (v := .slice (some ⟨gb, off, none⟩) L.length c) rfl (by simp [s0]) ?_
    refine ListK.len (i := 2) (u := .slice (some ⟨gb, off, none⟩) L.length c) (v := .int .i64 L.length) rfl (by simp [hz_b1]) (ln36 _ _ _ _ _) rfl ?_
    refine ListK.bin (i := 3) (u := .int .i64 (i : Int)) (u' := .int .i64 L.length) (v := .bool true) rfl (by simp [hz_b1]) (by simp [hz_b1]) (lssT3 (by omega) _) ?_
    refine ListK.done (hK _ _ ?_)
    clear hK K
    refine wpIn_cond (t := true) (by simp [hz_b1]) (wpIn_skip ?_)
    generalize hA : Act.put _ _ _ = b2
    have hz_b2 : b2.tmps.size = 24 := by rw [← hA]; simp only [size_put, hz_b1]
    have o0 : b2.eval (.tmp 0) = .slice (some ⟨gb, off, none⟩) L.length c := by rw [← hA]; exact (by simp [s0])
    have o3 : b2.eval (.tmp 3) = v := by rw [← hA]; exact (by simp [s3])
    have o4 : b2.eval (.tmp 4) = .int .i64 (i : Int) := by rw [← hA]; exact (by simp [s4])
    have hd_b2 : b2.defers = [] := by rw [← hA]; simp only [defers_put, hd_b1]
    clear hA
    refine wpIn_seq (wpIn_block ?_)
    refine wpIn_seq (region_p 5 ?_)
    intro K hK
    refine ListK.move (i := 0) (v := .slice (some ⟨gb, off, none⟩) L.length c) rfl (by simp [o0]) ?_
    refine ListK.move (i := 1) (v := .int .i64 (i : Int)) rfl (by simp [o4]) ?_
    refine ListK.index (i := 2) (u := .slice (some ⟨gb, off, none⟩) L.length c) (u' := .int .i64 (i : Int)) (v := .pointer (some ⟨gb, off + i, none⟩)) rfl (by simp [hz_b2]) (by simp [hz_b2]) (ix36 hlt _) ?_
    refine ListK.load (i := 3) (p := ⟨gb, off + i, none⟩) (v := strV x) rfl (by simp [hz_b2]) (ld9 (hc1)) ?_
    refine ListK.call (i := 4) (vs := #[strV x]) rfl (enters_of Try.func60 (by kernel_rfl) rfl) (by simp [hz_b2]) ((isGood_any x hxl W1).mono ?_)
    rintro _ W2 ⟨rfl, hb2⟩
    refine ⟨_, rfl, ?_⟩
    refine ListK.done (hK _ _ ?_)
    clear hK K
    have os2 := os.below hb2
    cases hg : isGood x
    · refine wpIn_cond (t := false) (by rw [← hg]; exact (by simp [hz_b2])) (wpIn_skip ?_)
      refine Go.Code.wpIn_mono (fun e a'' w'' hq => ?_) (hnext _ W2 v (by simp only [size_put, hz_b2]) (by simp only [defers_put, hd_b2]) (by simp [o0]) (by simp [o3]) (by simp [o4]) (by rw [htk, List.filter_append, List.filter_cons_of_neg (by rw [hg]; decide)]; simpa using os2))
      obtain ⟨rfl, h1, h2⟩ := hq
      exact ⟨h1, h2⟩
    · refine wpIn_cond (t := true) (by rw [← hg]; exact (by simp [hz_b2])) ?_
      generalize hA : Act.put _ _ _ = b3
      have hz_b3 : b3.tmps.size = 24 := by rw [← hA]; simp only [size_put, hz_b2]
      have q0 : b3.eval (.tmp 0) = .slice (some ⟨gb, off, none⟩) L.length c := by rw [← hA]; exact (by simp [o0])
      have q3 : b3.eval (.tmp 3) = v := by rw [← hA]; exact (by simp [o3])
      have q4 : b3.eval (.tmp 4) = .int .i64 (i : Int) := by rw [← hA]; exact (by simp [o4])
      have hd_b3 : b3.defers = [] := by rw [← hA]; simp only [defers_put, hd_b2]
      clear hA
      have hc2 := (os2.low.cell (p := ⟨gb, off + i, none⟩) hgb).trans hc
      have hfl : ((L.take i).filter isGood).length ≤ 90000 := by
        have h1 := List.length_filter_le isGood (L.take i)
        rw [List.length_take] at h1
        omega
      obtain ⟨v4, W4, hap4, os4⟩ := app36_run (l := x) (b := W2.heap.size) (c := 1) (ty := 36) (os2.below ((Below.refl W2.heap.size W2).alloc (Nat.le_refl _) (.cells #[strV x] 9))) ((Whole.new W2 9 #[strV x]).cell 0) (by omega)
      refine region_p 8 ?_
      intro K hK
      refine ListK.move (i := 0) (v := v) rfl (by simp [q3]) ?_
      refine ListK.move (i := 1) (v := .slice (some ⟨gb, off, none⟩) L.length c) rfl (by simp [q0]) ?_
      refine ListK.move (i := 2) (v := .int .i64 (i : Int)) rfl (by simp [q4]) ?_
      refine ListK.index (i := 3) (u := .slice (some ⟨gb, off, none⟩) L.length c) (u' := .int .i64 (i : Int)) (v := .pointer (some ⟨gb, off + i, none⟩)) rfl (by simp [hz_b3]) (by simp [hz_b3]) (ix36 hlt _) ?_
      refine ListK.load (i := 4) (p := ⟨gb, off + i, none⟩) (v := strV x) rfl (by simp [hz_b3]) (ld9 (hc2)) ?_
      refine ListK.bsl (i := 5) (ps := #[(0, strV x)]) (v := .slice (some ⟨W2.heap.size, 0, none⟩) 1 1) rfl (by simp [hz_b3]) (bs36_1 _ W2) ?_
      refine ListK.app36 (i := 6) rfl (by simp [hz_b3]) (by simp [hz_b3]) hap4 ?_
      refine ListK.assign (i := 7) (v := v4) rfl (by simp [hz_b3]) ?_
      refine ListK.done (hK _ _ ?_)
      clear hK K
      refine Go.Code.wpIn_mono (fun e a'' w'' hq => ?_) (hnext _ W4 v4 (by simp only [size_put, hz_b3]) (by simp only [defers_put, hd_b3]) (by simp [q0]) (by simp [hz_b3]) (by simp [q4]) (by rw [htk, List.filter_append, List.filter_cons_of_pos hg]; exact os4))
      obtain ⟨rfl, h1, h2⟩ := hq
      exact ⟨h1, h2⟩
  · have hie : i = L.length := by omega
    refine wpIn_seq (wpIn_seq (region_p 4 ?_))
    intro K hK
    refine ListK.move (i := 0) (v := .int .i64 (i : Int)) rfl (by simp [s4]) ?_
    refine ListK.move (i := 1) (v := .slice A L.length c) rfl (by simp [s0]) ?_
    refine ListK.len (i := 2) (u := .slice A L.length c) (v := .int .i64 L.length) rfl (by simp [hz_b1]) (ln36 _ _ _ _ _) rfl ?_
    refine ListK.bin (i := 3) (u := .int .i64 (i : Int)) (u' := .int .i64 L.length) (v := .bool false) rfl (by simp [hz_b1]) (by simp [hz_b1]) (lssF3 (by omega) _) ?_
    refine ListK.done (hK _ _ ?_)
    clear hK K
    refine wpIn_cond (t := false) (by simp [hz_b1]) (wpIn_exit ?_)
    show (Code.wpIn _ _ _ (Code.seq _ _) _ _ _)
    rw [hie, List.take_length] at os
    refine wpIn_seq (region_p 2 ?_)
    intro K hK
    refine ListK.move (i := 0) (v := v) rfl (by simp [s3]) ?_
    refine ListK.assign (i := 1) (v := v) rfl (by simp [hz_b1]) ?_
    refine ListK.done (hK _ _ (wpIn_ret ?_))
    exact bodyPost_ret (v := v) (res1 Try.results32 (by simp [hz_b1])) (by simp only [defers_put, hd_b1]) ⟨v, rfl, os⟩
theorem without_app : ∀ (l1 out l2 : List (List UInt8)), withoutL out (l1 ++ l2) = withoutL (withoutL out l1) l2
  | [], out, l2 => rfl
  | p :: l1, out, l2 => by
    rw [List.cons_append, withoutL, without_app l1 _ l2]
    conv => rhs; rw [withoutL]
noncomputable def opsWo0 : Array Oper := (Try.f38.body.bind (regionOf 0)).getD #[]
noncomputable def opsWo1 : Array Oper := (Try.f38.body.bind (regionOf 1)).getD #[]
noncomputable def opsWo2 : Array Oper := (Try.f38.body.bind (regionOf 2)).getD #[]
noncomputable def opsWo3 : Array Oper := (Try.f38.body.bind (regionOf 3)).getD #[]
noncomputable def opsWo4 : Array Oper := (Try.f38.body.bind (regionOf 4)).getD #[]
noncomputable def opsWo5 : Array Oper := (Try.f38.body.bind (regionOf 5)).getD #[]
noncomputable def opsWo6 : Array Oper := (Try.f38.body.bind (regionOf 6)).getD #[]
noncomputable def opsWo7 : Array Oper := (Try.f38.body.bind (regionOf 7)).getD #[]
noncomputable def opsWo8 : Array Oper := (Try.f38.body.bind (regionOf 8)).getD #[]
noncomputable def opsWo9 : Array Oper := (Try.f38.body.bind (regionOf 9)).getD #[]
noncomputable def opsWo10 : Array Oper := (Try.f38.body.bind (regionOf 10)).getD #[]
noncomputable def opsWo11 : Array Oper := (Try.f38.body.bind (regionOf 11)).getD #[]
noncomputable def opsWo12 : Array Oper := (Try.f38.body.bind (regionOf 12)).getD #[]
noncomputable def wo_k : Code := (.seq (.seq (.region 7 opsWo7 false) (.cond (.tmp 16) .skip (.exit 2))) (.seq (.block 3 (.region 9 opsWo9 true)) (.region 8 opsWo8 false)))
noncomputable def wo_c : Code := (.seq (.region 10 opsWo10 false) (.cond (.tmp 32) (.region 11 opsWo11 false) .skip))
noncomputable def wo_b : Code := (.seq (.seq (.region 6 opsWo6 false) (.block 2 (.loop wo_k))) wo_c)
noncomputable def wo_l : Code := (.seq (.seq (.region 3 opsWo3 false) (.cond (.tmp 10) .skip (.exit 0))) (.seq (.block 1 (.seq (.region 5 opsWo5 false) wo_b)) (.region 4 opsWo4 false)))
noncomputable def code38 : Code := (.seq (.region 0 opsWo0 false) (.seq (.region 1 opsWo1 false) (.seq (.seq (.region 2 opsWo2 false) (.block 0 (.loop wo_l))) (.seq (.region 12 opsWo12 false) .ret))))
theorem body38 : Try.f38.body = some code38 := by kernel_rfl
section
attribute [local irreducible] AnyK StepK
variable {L O : List (List UInt8)} {W : World} {x : List UInt8} {c gb off i : Nat} {v : Value}
set_option maxHeartbeats 400000 in
theorem wo_c_any {a : Act} {W1 : World} {Q : Exit → Act → World → Prop} (hO : O.length ≤ 90000) (hlt : i < L.length) (hc : W1.cell? ⟨gb, off + i, none⟩ = some (strV x)) (os : OS W v O W1)
    (hz : a.tmps.size = 41) (hd_a : a.defers = []) (t0 : a.eval (.tmp 0) = .slice (some ⟨gb, off, none⟩) L.length c) (t3 : a.eval (.tmp 3) = v) (t4 : a.eval (.tmp 4) = .int .i64 (i : Int)) (t5 : a.eval (.tmp 5) = .bool (decide (x ∈ O)))
    (hQ : ∀ (b : Act) (W' : World) (v' : Value), b.tmps.size = 41 → b.defers = [] → b.eval (.tmp 0) = .slice (some ⟨gb, off, none⟩) L.length c → b.eval (.tmp 3) = v' → b.eval (.tmp 4) = .int .i64 (i : Int) → OS W v' (if x ∈ O then O else O ++ [x]) W' → Q .normal b W') :
    wo_c.wpIn Fence.wide 5 Try.prog Q a W1 := by
  unfold wo_c
  by_cases hin : x ∈ O
  · rw [decide_eq_true hin] at t5
    refine wpIn_seq (region_p 2 ?_)
    intro K hK
    refine ListK.move (i := 0) (v := .bool true) rfl (by simp [t5]) ?_
    refine ListK.un (i := 1) (u := .bool true) (v := .bool false) rfl (by simp [hz]) (not4 _ _) ?_
    refine ListK.done (hK _ _ ?_)
    clear hK K
    refine wpIn_cond (t := false) (by simp [hz]) (wpIn_skip ?_)
    exact hQ _ _ v (by simp only [size_put, hz]) (by simp only [defers_put, hd_a]) (by simp [t0]) (by simp [t3]) (by simp [t4]) (by rw [if_pos hin]; exact os)
  · rw [decide_eq_false hin] at t5
    refine wpIn_seq (region_p 2 ?_)
    intro K hK
    refine ListK.move (i := 0) (v := .bool false) rfl (by simp [t5]) ?_
    refine ListK.un (i := 1) (u := .bool false) (v := .bool true) rfl (by simp [hz]) (not4 _ _) ?_
    refine ListK.done (hK _ _ ?_)
    clear hK K
    refine wpIn_cond (t := true) (by simp [hz]) ?_
    generalize hA : Act.put _ _ _ = b3
    have hz_b3 : b3.tmps.size = 41 := by rw [← hA]; simp only [size_put, hz]
    have q0 : b3.eval (.tmp 0) = .slice (some ⟨gb, off, none⟩) L.length c := by rw [← hA]; exact (by simp [t0])
    have q3 : b3.eval (.tmp 3) = v := by rw [← hA]; exact (by simp [t3])
    have q4 : b3.eval (.tmp 4) = .int .i64 (i : Int) := by rw [← hA]; exact (by simp [t4])
    have hd_b3 : b3.defers = [] := by rw [← hA]; simp only [defers_put, hd_a]
    clear hA
    obtain ⟨v4, W4, hap4, os4⟩ := app36_run (l := x) (b := W1.heap.size) (c := 1) (ty := 36) (os.below ((Below.refl W1.heap.size W1).alloc (Nat.le_refl _) (.cells #[strV x] 9))) ((Whole.new W1 9 #[strV x]).cell 0) (by omega)
    refine region_p 8 ?_
    intro K hK
    refine ListK.move (i := 0) (v := v) rfl (by simp [q3]) ?_
    refine ListK.move (i := 1) (v := .slice (some ⟨gb, off, none⟩) L.length c) rfl (by simp [q0]) ?_
    refine ListK.move (i := 2) (v := .int .i64 (i : Int)) rfl (by simp [q4]) ?_
    refine ListK.index (i := 3) (u := .slice (some ⟨gb, off, none⟩) L.length c) (u' := .int .i64 (i : Int)) (v := .pointer (some ⟨gb, off + i, none⟩)) rfl (by simp [hz_b3]) (by simp [hz_b3]) (ix36 hlt _) ?_
    refine ListK.load (i := 4) (p := ⟨gb, off + i, none⟩) (v := strV x) rfl (by simp [hz_b3]) (ld9 (hc)) ?_
    refine ListK.bsl (i := 5) (ps := #[(0, strV x)]) (v := .slice (some ⟨W1.heap.size, 0, none⟩) 1 1) rfl (by simp [hz_b3]) (bs36_1 _ W1) ?_
    refine ListK.app36 (i := 6) rfl (by simp [hz_b3]) (by simp [hz_b3]) hap4 ?_
    refine ListK.assign (i := 7) (v := v4) rfl (by simp [hz_b3]) ?_
    refine ListK.done (hK _ _ ?_)
    clear hK K
    exact hQ _ _ v4 (by simp only [size_put, hz_b3]) (by simp only [defers_put, hd_b3]) (by simp [q0]) (by simp [hz_b3]) (by simp [q4]) (by rw [if_neg hin]; exact os4)
set_option maxHeartbeats 400000 in
theorem wo_b_any {a : Act} {W1 : World} {Q : Exit → Act → World → Prop} (hO : O.length ≤ 90000) (hlt : i < L.length) (hgb : gb < W1.heap.size) (hc : W1.cell? ⟨gb, off + i, none⟩ = some (strV x)) (os : OS W v O W1)
    (hz : a.tmps.size = 41) (hd_a : a.defers = []) (t0 : a.eval (.tmp 0) = .slice (some ⟨gb, off, none⟩) L.length c) (t3 : a.eval (.tmp 3) = v) (t4 : a.eval (.tmp 4) = .int .i64 (i : Int)) (t5 : a.eval (.tmp 5) = .bool false)
    (hQ : ∀ (b : Act) (W' : World) (v' : Value), b.tmps.size = 41 → b.defers = [] → b.eval (.tmp 0) = .slice (some ⟨gb, off, none⟩) L.length c → b.eval (.tmp 3) = v' → b.eval (.tmp 4) = .int .i64 (i : Int) → OS W v' (if x ∈ O then O else O ++ [x]) W' → Q .normal b W') :
    wo_b.wpIn Fence.wide 5 Try.prog Q a W1 := by
  obtain ⟨Ao, co, rfl, hso⟩ := os.strs
  unfold wo_b
  refine wpIn_seq (wpIn_seq (region_p 1 ?_))
  intro K hK
  refine ListK.assign (i := 0) (v := .int .i64 0) rfl (by simp) ?_
  refine ListK.done (hK _ _ ?_)
  clear hK K
  generalize hA : Act.put _ _ _ = a1
  have hz_a1 : a1.tmps.size = 41 := by rw [← hA]; simp only [size_put, hz]
  have u0 : a1.eval (.tmp 0) = .slice (some ⟨gb, off, none⟩) L.length c := by rw [← hA]; exact (by simp [t0])
  have u3 : a1.eval (.tmp 3) = .slice Ao O.length co := by rw [← hA]; exact (by simp [t3])
  have u4 : a1.eval (.tmp 4) = .int .i64 (i : Int) := by rw [← hA]; exact (by simp [t4])
  have u5 : a1.eval (.tmp 5) = .bool false := by rw [← hA]; exact (by simp [t5])
  have u6 : a1.eval (.tmp 6) = .int .i64 0 := by rw [← hA]; exact (by simp [hz])
  have hd_a1 : a1.defers = [] := by rw [← hA]; simp only [defers_put, hd_a]
  clear hA
  refine wpIn_block (wpIn_loop (fun a W' => ∃ k : Nat, Below W1.heap.size W1 W' ∧ k ≤ O.length ∧ a.tmps.size = 41 ∧ a.defers = [] ∧ a.eval (.tmp 0) = .slice (some ⟨gb, off, none⟩) L.length c ∧ a.eval (.tmp 3) = .slice Ao O.length co ∧ a.eval (.tmp 4) = .int .i64 (i : Int) ∧ a.eval (.tmp 5) = .bool (decide (x ∈ O.take k)) ∧ a.eval (.tmp 6) = .int .i64 (k : Int)) (fun a _ => O.length - (intOf (a.eval (.tmp 6))).toNat)
    ⟨0, Below.refl _ _, Nat.zero_le _, hz_a1, hd_a1, u0, u3, u4, by rw [u5]; simp, u6⟩ ?_)
  rintro b1 W2 ⟨k, hb2, hk, hz_b1, hd_b1, s0, s3, s4, s5, s6⟩
  unfold wo_k
  by_cases hkl : k < O.length
  · have hy := List.getElem?_eq_getElem hkl
    obtain ⟨g, o, hA, hg, hcg⟩ := hso k _ hy
    obtain ⟨y, hye⟩ : ∃ y, O[k] = y := ⟨_, rfl⟩
    rw [hye] at hy hcg
    subst hA
    have htk : O.take (k + 1) = O.take k ++ [y] := by rw [List.take_add_one, hy]; rfl
    have hcg2 := (hb2.cell (p := ⟨g, o + k, none⟩) hg).trans hcg
    have hc2 := (hb2.cell (p := ⟨gb, off + i, none⟩) hgb).trans hc
    have hbd := (Below.refl W2.heap.size W2).drew
    have hcg3 := (hbd.cell (p := ⟨g, o + k, none⟩) (Nat.lt_of_lt_of_le hg hb2.size)).trans hcg2
    have hc3 := (hbd.cell (p := ⟨gb, off + i, none⟩) (Nat.lt_of_lt_of_le hgb hb2.size)).trans hc2
    refine wpIn_seq (wpIn_seq (region_p 4 ?_))
    intro K hK
    refine ListK.move (i := 0) (v := .int .i64 (k : Int)) rfl (by simp [s6]) ?_
    refine ListK.move (i := 1) (v := .slice (some ⟨g, o, none⟩) O.length co) rfl (by simp [s3]) ?_
    refine ListK.len (i := 2) (u := .slice (some ⟨g, o, none⟩) O.length co) (v := .int .i64 O.length) rfl (by simp [hz_b1]) (ln36 _ _ _ _ _) rfl ?_
    refine ListK.bin (i := 3) (u := .int .i64 (k : Int)) (u' := .int .i64 O.length) (v := .bool true) rfl (by simp [hz_b1]) (by simp [hz_b1]) (lssT3 (by omega) _) ?_
    refine ListK.done (hK _ _ ?_)
    clear hK K
    refine wpIn_cond (t := true) (by simp [hz_b1]) (wpIn_skip ?_)
    generalize hA : Act.put _ _ _ = b2
    have hz_b2 : b2.tmps.size = 41 := by rw [← hA]; simp only [size_put, hz_b1]
    have o0 : b2.eval (.tmp 0) = .slice (some ⟨gb, off, none⟩) L.length c := by rw [← hA]; exact (by simp [s0])
    have o3 : b2.eval (.tmp 3) = .slice (some ⟨g, o, none⟩) O.length co := by rw [← hA]; exact (by simp [s3])
    have o4 : b2.eval (.tmp 4) = .int .i64 (i : Int) := by rw [← hA]; exact (by simp [s4])
    have o5 : b2.eval (.tmp 5) = .bool (decide (x ∈ O.take k)) := by rw [← hA]; exact (by simp [s5])
    have o6 : b2.eval (.tmp 6) = .int .i64 (k : Int) := by rw [← hA]; exact (by simp [s6])
    have hd_b2 : b2.defers = [] := by rw [← hA]; simp only [defers_put, hd_b1]
    clear hA
    refine wpIn_seq (wpIn_block ?_)
    have hnext : ∀ (b : Act) (W' : World), Below W2.heap.size W2 W' → b.tmps.size = 41 → b.defers = [] → b.eval (.tmp 0) = .slice (some ⟨gb, off, none⟩) L.length c → b.eval (.tmp 3) = .slice (some ⟨g, o, none⟩) O.length co → b.eval (.tmp 4) = .int .i64 (i : Int) → b.eval (.tmp 5) = .bool (decide (x ∈ O.take (k + 1))) → b.eval (.tmp 6) = .int .i64 (k : Int) →
        (Code.region 8 opsWo8 false).wpIn Fence.wide 5 Try.prog (fun e a' w' => e = .normal ∧ (∃ k : Nat, Below W1.heap.size W1 w' ∧ k ≤ O.length ∧ a'.tmps.size = 41 ∧ a'.defers = [] ∧ a'.eval (.tmp 0) = .slice (some ⟨gb, off, none⟩) L.length c ∧ a'.eval (.tmp 3) = .slice (some ⟨g, o, none⟩) O.length co ∧ a'.eval (.tmp 4) = .int .i64 (i : Int) ∧ a'.eval (.tmp 5) = .bool (decide (x ∈ O.take k)) ∧ a'.eval (.tmp 6) = .int .i64 (k : Int)) ∧ O.length - (intOf (a'.eval (.tmp 6))).toNat < O.length - (intOf (b1.eval (.tmp 6))).toNat) b W' := by
      intro b W' hb' hz_b hd_b p0 p3 p4 p5 p6
      refine region_p 3 ?_
      intro K hK
      refine ListK.move (i := 0) (v := .int .i64 (k : Int)) rfl (by simp [p6]) ?_
      refine ListK.bin (i := 1) (u := .int .i64 (k : Int)) (u' := .int .i64 1) (v := .int .i64 ((k + 1 : Nat) : Int)) rfl (by simp [hz_b]) (by simp) (add3 (by omega) (by omega) _) ?_
      refine ListK.assign (i := 2) (v := .int .i64 ((k + 1 : Nat) : Int)) rfl (by simp [hz_b]) ?_
      refine ListK.done (hK _ _ ?_)
      clear hK K
      refine ⟨rfl, ⟨k + 1, hb2.trans (hb'.mono hb2.size), by omega, (by simp only [size_put, hz_b]), (by simp only [defers_put, hd_b]), (by simp [p0]), (by simp [p3]), (by simp [p4]), (by simp [p5]), (by simp [hz_b])⟩, ?_⟩
      rw [s6, show (Act.put _ _ _).eval (.tmp 6) = .int .i64 ((k + 1 : Nat) : Int) from (by simp [hz_b])]
      simp only [intOf]
      omega
    by_cases hin : x ∈ O.take k
    · rw [decide_eq_true hin] at o5
      have hin2 : decide (x ∈ O.take (k + 1)) = true := decide_eq_true (by rw [htk]; exact List.mem_append_left _ hin)
      rw [hin2] at hnext
      refine region_K (KpR (fun w : World => (w.cell? ⟨g, o + k, none⟩ = some (strV y) ∧ w.cell? ⟨gb, off + i, none⟩ = some (strV x)) ∧ Below W2.heap.size W2 w) (fun _ => false)) (wideF_plain _) (by kernel_rfl) Try.mixed ?_
      change AnyK _ _ _ _ 13 (Array.replicate 13 false) _ _
      have hR : (fun w : World => (w.cell? ⟨g, o + k, none⟩ = some (strV y) ∧ w.cell? ⟨gb, off + i, none⟩ = some (strV x)) ∧ Below W2.heap.size W2 w) W2.drew := ⟨⟨hcg3, hc3⟩, hbd⟩
      refine AnyK.move (i := 0) may_o (v := .bool true) (by simp [o5]) hR ?_
      refine AnyK.move (i := 1) may_o (v := .bool true) (by simp [hz_b2]) hR ?_
      refine AnyK.passG (i := 2) may_o (e := 20) (b' := true) rfl (by simp [hz_b2]) rfl hR ?_
      refine AnyK.passG (i := 3) may_o (e := 20) (b' := true) rfl (by simp [hz_b2]) rfl hR ?_
      refine AnyK.passG (i := 4) may_o (e := 20) (b' := true) rfl (by simp [hz_b2]) rfl hR ?_
      refine AnyK.passG (i := 5) may_o (e := 20) (b' := true) rfl (by simp [hz_b2]) rfl hR ?_
      refine AnyK.passG (i := 6) may_o (e := 20) (b' := true) rfl (by simp [hz_b2]) rfl hR ?_
      refine AnyK.passG (i := 7) may_o (e := 20) (b' := true) rfl (by simp [hz_b2]) rfl hR ?_
      refine AnyK.passG (i := 8) may_o (e := 20) (b' := true) rfl (by simp [hz_b2]) rfl hR ?_
      refine AnyK.passG (i := 9) may_o (e := 20) (b' := true) rfl (by simp [hz_b2]) rfl hR ?_
      refine AnyK.passG (i := 10) may_o (e := 20) (b' := true) rfl (by simp [hz_b2]) rfl hR ?_
      refine AnyK.pick (i := 11) may_o (b := true) (v := .bool true) (by simp [hz_b2]) (by simp) hR ?_
      refine AnyK.assign (i := 12) may_o (v := .bool true) (by simp [hz_b2]) hR ?_
      refine AnyK.done (by kernel_rfl) ?_
      refine Go.Code.wpIn_mono (fun e a'' w'' hq => ?_) (hnext _ _ hR.2 (by simp only [size_put, hz_b2]) (by simp only [defers_put, hd_b2]) (by simp [o0]) (by simp [o3]) (by simp [o4]) (by simp [hz_b2]) (by simp [o6]))
      obtain ⟨rfl, h1, h2⟩ := hq
      exact ⟨h1, h2⟩
    · rw [decide_eq_false hin] at o5
      have hin2 : decide (x ∈ O.take (k + 1)) = decide (y = x) := by
        rw [htk]
        refine decide_eq_decide.2 ?_
        rw [List.mem_append, List.mem_singleton]
        exact ⟨fun h => (h.resolve_left hin).symm, fun h => .inr h.symm⟩
      rw [hin2] at hnext
      refine region_K (KpR (fun w : World => (w.cell? ⟨g, o + k, none⟩ = some (strV y) ∧ w.cell? ⟨gb, off + i, none⟩ = some (strV x)) ∧ Below W2.heap.size W2 w) (fun _ => false)) (wideF_plain _) (by kernel_rfl) Try.mixed ?_
      change AnyK _ _ _ _ 13 (Array.replicate 13 false) _ _
      have hR : (fun w : World => (w.cell? ⟨g, o + k, none⟩ = some (strV y) ∧ w.cell? ⟨gb, off + i, none⟩ = some (strV x)) ∧ Below W2.heap.size W2 w) W2.drew := ⟨⟨hcg3, hc3⟩, hbd⟩
      refine AnyK.move (i := 0) may_o (v := .bool false) (by simp [o5]) hR ?_
      refine AnyK.move (i := 1) may_o (v := .bool false) (by simp [hz_b2]) hR ?_
      refine AnyK.move (i := 2) may_o (v := .slice (some ⟨g, o, none⟩) O.length co) (by simp [o3]) hR (hw := (by exact wanted_g (e := 20) (b' := false) rfl (by simp [hz_b2]) rfl)) ?_
      refine AnyK.move (i := 3) may_o (v := .int .i64 (k : Int)) (by simp [o6]) hR (hw := (by exact wanted_g (e := 20) (b' := false) rfl (by simp [hz_b2]) rfl)) ?_
      refine AnyK.index (i := 4) may_o (u := .slice (some ⟨g, o, none⟩) O.length co) (u' := .int .i64 (k : Int)) (v := .pointer (some ⟨g, o + k, none⟩)) (by simp [hz_b2]) (by simp [hz_b2]) (fun w => ix36 hkl w) hR (hw := (by exact wanted_g (e := 20) (b' := false) rfl (by simp [hz_b2]) rfl)) ?_
      refine AnyK.load (i := 5) may_o (p := ⟨g, o + k, none⟩) (v := strV y) (by simp [hz_b2]) (fun w hw => ld9 hw.1.1) hR (hw := (by exact wanted_g (e := 20) (b' := false) rfl (by simp [hz_b2]) rfl)) ?_
      refine AnyK.move (i := 6) may_o (v := .slice (some ⟨gb, off, none⟩) L.length c) (by simp [o0]) hR (hw := (by exact wanted_g (e := 20) (b' := false) rfl (by simp [hz_b2]) rfl)) ?_
      refine AnyK.move (i := 7) may_o (v := .int .i64 (i : Int)) (by simp [o4]) hR (hw := (by exact wanted_g (e := 20) (b' := false) rfl (by simp [hz_b2]) rfl)) ?_
      refine AnyK.index (i := 8) may_o (u := .slice (some ⟨gb, off, none⟩) L.length c) (u' := .int .i64 (i : Int)) (v := .pointer (some ⟨gb, off + i, none⟩)) (by simp [hz_b2]) (by simp [hz_b2]) (fun w => ix36 hlt w) hR (hw := (by exact wanted_g (e := 20) (b' := false) rfl (by simp [hz_b2]) rfl)) ?_
      refine AnyK.load (i := 9) may_o (p := ⟨gb, off + i, none⟩) (v := strV x) (by simp [hz_b2]) (fun w hw => ld9 hw.1.2) hR (hw := (by exact wanted_g (e := 20) (b' := false) rfl (by simp [hz_b2]) rfl)) ?_
      refine AnyK.bin (i := 10) may_o (u := strV y) (u' := strV x) (v := .bool (decide (y = x))) (by simp [hz_b2]) (by simp [hz_b2]) (fun w => eql9n y x w) hR (hw := (by exact wanted_g (e := 20) (b' := false) rfl (by simp [hz_b2]) rfl)) ?_
      refine AnyK.pick (i := 11) may_o (b := false) (v := .bool (decide (y = x))) (by simp [hz_b2]) (by simp [hz_b2]) hR ?_
      refine AnyK.assign (i := 12) may_o (v := .bool (decide (y = x))) (by simp [hz_b2]) hR ?_
      refine AnyK.done (by kernel_rfl) ?_
      refine Go.Code.wpIn_mono (fun e a'' w'' hq => ?_) (hnext _ _ hR.2 (by simp only [size_put, hz_b2]) (by simp only [defers_put, hd_b2]) (by simp [o0]) (by simp [o3]) (by simp [o4]) (by simp [hz_b2]) (by simp [o6]))
      obtain ⟨rfl, h1, h2⟩ := hq
      exact ⟨h1, h2⟩
  · have hke : k = O.length := by omega
    refine wpIn_seq (wpIn_seq (region_p 4 ?_))
    intro K hK
    refine ListK.move (i := 0) (v := .int .i64 (k : Int)) rfl (by simp [s6]) ?_
    refine ListK.move (i := 1) (v := .slice Ao O.length co) rfl (by simp [s3]) ?_
    refine ListK.len (i := 2) (u := .slice Ao O.length co) (v := .int .i64 O.length) rfl (by simp [hz_b1]) (ln36 _ _ _ _ _) rfl ?_
    refine ListK.bin (i := 3) (u := .int .i64 (k : Int)) (u' := .int .i64 O.length) (v := .bool false) rfl (by simp [hz_b1]) (by simp [hz_b1]) (lssF3 (by omega) _) ?_
    refine ListK.done (hK _ _ ?_)
    clear hK K
    refine wpIn_cond (t := false) (by simp [hz_b1]) (wpIn_exit ?_)
    show wo_c.wpIn _ _ _ _ _ _
    rw [hke, List.take_length] at s5
    exact wo_c_any hO hlt ((hb2.cell (p := ⟨gb, off + i, none⟩) hgb).trans hc) (os.below hb2) (by simp only [size_put, hz_b1]) (by simp only [defers_put, hd_b1]) (by simp [s0]) (by simp [s3]) (by simp [s4]) (by simp [s5]) hQ
end
set_option maxHeartbeats 400000 in
theorem refWithout_any (A : Option Addr) (c : Nat) (L : List (List UInt8)) (hL : L.length ≤ 90000) (W : World) (hst : StrsAt W W.heap.size A L) : Calls Try.prog 38 #[.slice A L.length c] W (fun e w' => ∃ v, e = .returned v ∧ OS W v (withoutL [] L) w') := by
  refine (callsIn_wide (n := 5)).1 (callsIn_of_wp Try.func38 body38 trivial ?_ rfl)
  obtain ⟨a, ha⟩ : ∃ a : Act, a = { tmps := #[.slice A L.length c] ++ Array.replicate (Try.f38.ntmps - (#[.slice A L.length c] : Array Value).size) undef, defers := [] } := ⟨_, rfl⟩
  have hsz : a.tmps.size = 41 := by rw [ha]; simp [Try.ntmps38]
  have t0 : a.eval (.tmp 0) = .slice A L.length c := by rw [ha]; simp [Act.eval]
  have hd_a : a.defers = [] := by rw [ha]
  rw [← ha]
  clear ha
  unfold code38
  refine wpIn_seq (region_p 1 ?_)
  intro K hK
  refine ListK.assign (i := 0) (v := .slice none 0 0) rfl (by simp) ?_
  refine ListK.done (hK _ _ ?_)
  clear hK K
  refine wpIn_seq (region_p 1 ?_)
  intro K hK
  refine ListK.assign (i := 0) (v := .slice none 0 0) rfl (by simp) ?_
  refine ListK.done (hK _ _ ?_)
  clear hK K
  refine wpIn_seq (wpIn_seq (region_p 1 ?_))
  intro K hK
  refine ListK.assign (i := 0) (v := .int .i64 0) rfl (by simp) ?_
  refine ListK.done (hK _ _ ?_)
  clear hK K
  generalize hA : Act.put _ _ _ = a1
  have hz_a1 : a1.tmps.size = 41 := by rw [← hA]; simp only [size_put, hsz]
  have u0 : a1.eval (.tmp 0) = .slice A L.length c := by rw [← hA]; exact (by simp [t0])
  have u3 : a1.eval (.tmp 3) = .slice none 0 0 := by rw [← hA]; exact (by simp [hsz])
  have u4 : a1.eval (.tmp 4) = .int .i64 0 := by rw [← hA]; exact (by simp [hsz])
  have hd_a1 : a1.defers = [] := by rw [← hA]; simp only [defers_put, hd_a]
  clear hA
  refine wpIn_block (wpIn_loop (fun a W' => ∃ (i : Nat) (v : Value), i ≤ L.length ∧ OS W v (withoutL [] (L.take i)) W' ∧ a.tmps.size = 41 ∧ a.defers = [] ∧ a.eval (.tmp 0) = .slice A L.length c ∧ a.eval (.tmp 3) = v ∧ a.eval (.tmp 4) = .int .i64 (i : Int)) (fun a _ => L.length - (intOf (a.eval (.tmp 4))).toNat)
    ⟨0, _, Nat.zero_le _, os_none W, hz_a1, hd_a1, u0, u3, u4⟩ ?_)
  rintro b1 W1 ⟨i, v, hi, os, hz_b1, hd_b1, s0, s3, s4⟩
  unfold wo_l
  by_cases hlt : i < L.length
  · have hx := List.getElem?_eq_getElem hlt
    obtain ⟨gb, off, hA, hgb, hc⟩ := hst i _ hx
    have hc1 := (os.low.cell (p := ⟨gb, off + i, none⟩) hgb).trans hc
    obtain ⟨x, hxe⟩ : ∃ x, L[i] = x := ⟨_, rfl⟩
    rw [hxe] at hx hc hc1
    have htk : L.take (i + 1) = L.take i ++ [x] := by rw [List.take_add_one, hx]; rfl
    have hwo : withoutL [] (L.take (i + 1)) = if x ∈ withoutL [] (L.take i) then withoutL [] (L.take i) else withoutL [] (L.take i) ++ [x] := by
      rw [htk, without_app]
      rfl
    have hwl : (withoutL [] (L.take i)).length ≤ 90000 := by
      have h1 := withoutL_len (L.take i) []
      rw [List.length_take] at h1
      simp only [List.length_nil] at h1
      omega
    subst hA
    refine wpIn_seq (wpIn_seq (region_p 4 ?_))
    intro K hK
    refine ListK.move (i := 0) (v := .int .i64 (i : Int)) rfl (by simp [s4]) ?_
    refine ListK.move (i := 1) (v := .slice (some ⟨gb, off, none⟩) L.length c) rfl (by simp [s0]) ?_
    refine ListK.len (i := 2) (u := .slice (some ⟨gb, off, none⟩) L.length c) (v := .int .i64 L.length) rfl (by simp [hz_b1]) (ln36 _ _ _ _ _) rfl ?_
    refine ListK.bin (i := 3) (u := .int .i64 (i : Int)) (u' := .int .i64 L.length) (v := .bool true) rfl (by simp [hz_b1]) (by simp [hz_b1]) (lssT3 (by omega) _) ?_
    refine ListK.done (hK _ _ ?_)
    clear hK K
    refine wpIn_cond (t := true) (by simp [hz_b1]) (wpIn_skip ?_)
    generalize hA : Act.put _ _ _ = b2
    have hz_b2 : b2.tmps.size = 41 := by rw [← hA]; simp only [size_put, hz_b1]
    have o0 : b2.eval (.tmp 0) = .slice (some ⟨gb, off, none⟩) L.length c := by rw [← hA]; exact (by simp [s0])
    have o3 : b2.eval (.tmp 3) = v := by rw [← hA]; exact (by simp [s3])
    have o4 : b2.eval (.tmp 4) = .int .i64 (i : Int) := by rw [← hA]; exact (by simp [s4])
    have hd_b2 : b2.defers = [] := by rw [← hA]; simp only [defers_put, hd_b1]
    clear hA
    refine wpIn_seq (wpIn_block ?_)
    refine wpIn_seq (region_p 1 ?_)
    intro K hK
    refine ListK.assign (i := 0) (v := .bool false) rfl (by simp) ?_
    refine ListK.done (hK _ _ ?_)
    clear hK K
    refine wo_b_any (W := W) (L := L) (c := c) (v := v) (off := off) hwl hlt (Nat.lt_of_lt_of_le hgb os.low.size) hc1 os (by simp only [size_put, hz_b2]) (by simp only [defers_put, hd_b2]) (by simp [o0]) (by simp [o3]) (by simp [o4]) (by simp [hz_b2]) ?_
    intro b W' v' hz_b hd_b p0 p3 p4 os'
    rw [← hwo] at os'
    show (Code.wpIn _ _ _ (Code.region _ _ _) _ _ _)
    refine region_p 3 ?_
    intro K hK
    refine ListK.move (i := 0) (v := .int .i64 (i : Int)) rfl (by simp [p4]) ?_
    refine ListK.bin (i := 1) (u := .int .i64 (i : Int)) (u' := .int .i64 1) (v := .int .i64 ((i + 1 : Nat) : Int)) rfl (by simp [hz_b]) (by simp) (add3 (by omega) (by omega) _) ?_
    refine ListK.assign (i := 2) (v := .int .i64 ((i + 1 : Nat) : Int)) rfl (by simp [hz_b]) ?_
    refine ListK.done (hK _ _ ?_)
    clear hK K
    refine ⟨⟨i + 1, v', by omega, os', (by simp only [size_put, hz_b]), (by simp only [defers_put, hd_b]), (by simp [p0]), (by simp [p3]), (by simp [hz_b])⟩, ?_⟩
    rw [s4, show (Act.put _ _ _).eval (.tmp 4) = .int .i64 ((i + 1 : Nat) : Int) from (by simp [hz_b])]
    simp only [intOf]
    omega
  · have hie : i = L.length := by omega
    refine wpIn_seq (wpIn_seq (region_p 4 ?_))
    intro K hK
    refine ListK.move (i := 0) (v := .int .i64 (i : Int)) rfl (by simp [s4]) ?_
    refine ListK.move (i := 1) (v := .slice A L.length c) rfl (by simp [s0]) ?_
    refine ListK.len (i := 2) (u := .slice A L.length c) (v := .int .i64 L.length) rfl (by simp [hz_b1]) (ln36 _ _ _ _ _) rfl ?_
    refine ListK.bin (i := 3) (u := .int .i64 (i : Int)) (u' := .int .i64 L.length) (v := .bool false) rfl (by simp [hz_b1]) (by simp [hz_b1]) (lssF3 (by omega) _) ?_
    refine ListK.done (hK _ _ ?_)
    clear hK K
    refine wpIn_cond (t := false) (by simp [hz_b1]) (wpIn_exit ?_)
    show (Code.wpIn _ _ _ (Code.seq _ _) _ _ _)
    rw [hie, List.take_length] at os
    refine wpIn_seq (region_p 2 ?_)
    intro K hK
    refine ListK.move (i := 0) (v := v) rfl (by simp [s3]) ?_
    refine ListK.assign (i := 1) (v := v) rfl (by simp [hz_b1]) ?_
    refine ListK.done (hK _ _ (wpIn_ret ?_))
    exact bodyPost_ret (v := v) (res1 Try.results38 (by simp [hz_b1])) (by simp only [defers_put, hd_b1]) ⟨v, rfl, os⟩
end Go.Proofs.YtmdlmmfbcnkanaaR
namespace Go.Proofs.YtmdlmmfbcnkanaaR
open Go.RowKit Go.Shelf
section
variable {s : Ser} {A : Option Addr} {c : Nat} {h : Head}
attribute [local irreducible] AnyK StepK
end
end Go.Proofs.YtmdlmmfbcnkanaaR
namespace Go.Proofs.YtmdlmmfbcnkanaaR
open Go.RowKit Go.Shelf
section
variable {s : Ser} {A : Option Addr} {c b3 ba M : Nat} {h : Head} {m : List (List UInt8)} {W0 : World}
attribute [local irreducible] AnyK StepK
end
end Go.Proofs.YtmdlmmfbcnkanaaR
namespace Go.Proofs.YtmdlmmfbcnkanaaR
open Go.RowKit Go.Shelf
section
variable {s : Ser} {A : Option Addr} {c b3 ba M : Nat} {h : Head} {m : List (List UInt8)} {W0 : World}
attribute [local irreducible] AnyK StepK
end
section
attribute [local irreducible] AnyK StepK
end
end Go.Proofs.YtmdlmmfbcnkanaaR
namespace Go.Proofs.YtmdlmmfbcnkanaaR

/-- A reading as a number. -/
def rdN (s : Ser) (i : Nat) : Nat := (s.rd.getD i 0).toNat
def smN (s : Ser) (b : Nat) : Nat := (sumB s b).toNat
def hdR (s : Ser) : List UInt8 := made 72 s.rd.length (10 * s.width.toNat + s.step.toNat)
def hdH (s : Ser) : Head := ⟨s.rd.length, s.width.toNat, s.step.toNat⟩
theorem mem_recsTo {s : Ser} : ∀ {k : Nat} {r : List UInt8}, r ∈ recsTo s k ↔ r = hdR s ∨ (∃ i, i < k ∧ r = made 82 i (rdN s i)) ∨ (∃ i, i < k ∧ closesB s.rd.length s.width i = true ∧ r = made 80 (i / s.width.toNat) (smN s (i / s.width.toNat)))
  | 0, r => by simp [recsTo, hdR]
  | k + 1, r => by
    unfold recsTo
    rw [List.mem_append, List.mem_append, mem_recsTo (k := k)]
    constructor
    · rintro (((h | ⟨i, h1, h2⟩ | ⟨i, h1, h2, h3⟩) | h) | h)
      · exact .inl h
      · exact .inr (.inl ⟨i, by omega, h2⟩)
      · exact .inr (.inr ⟨i, by omega, h2, h3⟩)
      · simp at h
        exact .inr (.inl ⟨k, by omega, h⟩)
      · split at h
        · rename_i hc
          simp at h
          exact .inr (.inr ⟨k, by omega, hc, h⟩)
        · simp at h
    · rintro (h | ⟨i, h1, h2⟩ | ⟨i, h1, h2, h3⟩)
      · exact .inl (.inl (.inl h))
      · by_cases e : i = k
        · subst e
          exact .inl (.inr (List.mem_singleton.2 h2))
        · exact .inl (.inl (.inr (.inl ⟨i, by omega, h2⟩)))
      · by_cases e : i = k
        · subst e
          refine .inr ?_
          rw [if_pos h2]
          exact List.mem_singleton.2 h3
        · exact .inl (.inl (.inr (.inr ⟨i, by omega, h2, h3⟩)))
/-- What a valid series is like, in numbers. -/
structure SerN (s : Ser) : Prop where
  len : 1 ≤ s.rd.length ∧ s.rd.length ≤ 40
  wd : 2 ≤ s.width.toNat ∧ s.width.toNat ≤ 8 ∧ s.width = (s.width.toNat : Int)
  st : 1 ≤ s.step.toNat ∧ s.step.toNat ≤ 9 ∧ s.step = (s.step.toNat : Int)
  rd : ∀ i, i < s.rd.length → rdN s i ≤ 99 ∧ s.rd[i]? = some (rdN s i : Int)
  sm : ∀ b, smN s b ≤ 99 ∧ sumB s b = (smN s b : Int)
  near : ∀ i, i + 1 < s.rd.length → rdN s (i + 1) ≤ rdN s i + s.step.toNat ∧ rdN s i ≤ rdN s (i + 1) + s.step.toNat
theorem div_le40 {s : Ser} (n : SerN s) {i : Nat} (hi : i < s.rd.length) : i / s.width.toNat ≤ 40 := by
  have := Nat.div_le_self i s.width.toNat
  have := n.len
  omega
theorem hdR_ok {s : Ser} (n : SerN s) : isGood (hdR s) = true ∧ nameOf (hdR s) = (72, 0) ∧ headOf (hdR s) = hdH s ∧ (10 : UInt8) ∉ hdR s := by
  have h1 := n.len
  have h2 := n.wd
  have h3 := n.st
  have hb : 10 * s.width.toNat + s.step.toNat ≤ 99 := by omega
  refine ⟨made_good (.inl rfl) (by omega) hb (fun _ => headOk_iff.2 ⟨by omega, by omega, by omega⟩), ?_, made_head (by omega) (by omega) (by omega), made_no10 (by decide) (by omega) hb⟩
  unfold hdR
  rw [made_name (by omega), if_pos rfl]
theorem recR_ok {s : Ser} (n : SerN s) {i : Nat} (hi : i < s.rd.length) : isGood (made 82 i (rdN s i)) = true ∧ nameOf (made 82 i (rdN s i)) = (82, i) ∧ valOf (made 82 i (rdN s i)) = rdN s i ∧ (10 : UInt8) ∉ made 82 i (rdN s i) := by
  have h1 := n.len
  have h2 := (n.rd i hi).1
  refine ⟨made_good (.inr (.inl rfl)) (by omega) h2 (fun h => by cases h), ?_, made_val h2, made_no10 (by decide) (by omega) h2⟩
  rw [made_name (by omega), if_neg (by decide)]
theorem recP_ok {s : Ser} (n : SerN s) {b : Nat} (hb : b ≤ 40) : isGood (made 80 b (smN s b)) = true ∧ nameOf (made 80 b (smN s b)) = (80, b) ∧ valOf (made 80 b (smN s b)) = smN s b ∧ (10 : UInt8) ∉ made 80 b (smN s b) := by
  have h2 := (n.sm b).1
  refine ⟨made_good (.inr (.inr rfl)) (by omega) h2 (fun h => by cases h), ?_, made_val h2, made_no10 (by decide) (by omega) h2⟩
  rw [made_name (by omega), if_neg (by decide)]
theorem file_func {s : Ser} (n : SerN s) : Func (fileL s) := by
  intro a b ha hb he
  rcases mem_recsTo.1 ha with rfl | ⟨i, h1, rfl⟩ | ⟨i, h1, _, rfl⟩ <;> rcases mem_recsTo.1 hb with rfl | ⟨j, h2, rfl⟩ | ⟨j, h2, _, rfl⟩
  · rfl
  · rw [(hdR_ok n).2.1, (recR_ok n h2).2.1] at he
    cases he
  · rw [(hdR_ok n).2.1, (recP_ok n (div_le40 n h2)).2.1] at he
    cases he
  · rw [(hdR_ok n).2.1, (recR_ok n h1).2.1] at he
    cases he
  · rw [(recR_ok n h1).2.1, (recR_ok n h2).2.1] at he
    simp at he
    rw [he]
  · rw [(recR_ok n h1).2.1, (recP_ok n (div_le40 n h2)).2.1] at he
    cases he
  · rw [(hdR_ok n).2.1, (recP_ok n (div_le40 n h1)).2.1] at he
    cases he
  · rw [(recP_ok n (div_le40 n h1)).2.1, (recR_ok n h2).2.1] at he
    cases he
  · rw [(recP_ok n (div_le40 n h1)).2.1, (recP_ok n (div_le40 n h2)).2.1] at he
    simp at he
    rw [he]
/-- What is read of some records of a file. -/
structure RdM (s : Ser) (m : List (List UInt8)) : Prop where
  sub : ∀ r, r ∈ m → r ∈ fileL s
  hd : hdR s ∈ m
theorem RdM.func {s : Ser} {m : List (List UInt8)} (h : RdM s m) (n : SerN s) : Func m := (file_func n).of_sub h.sub
theorem RdM.out {s : Ser} {m : List (List UInt8)} (h : RdM s m) (n : SerN s) : m.any (outOf (hdH s)) = false := by
  rw [List.any_eq_false]
  intro r hr
  have hw := n.wd
  rcases mem_recsTo.1 (h.sub r hr) with rfl | ⟨i, h1, rfl⟩ | ⟨i, h1, _, rfl⟩
  · simp [outOf, (hdR_ok n).2.1]
  · simp [outOf, (recR_ok n h1).2.1, hdH, h1]
  · have hd : i / s.width.toNat < (s.rd.length + s.width.toNat - 1) / s.width.toNat := by
      have h2 : i / s.width.toNat + 1 ≤ (s.rd.length + s.width.toNat - 1) / s.width.toNat := by
        rw [Nat.le_div_iff_mul_le (by omega), Nat.add_mul, Nat.one_mul]
        have := Nat.div_mul_le_self i s.width.toNat
        omega
      omega
    simp [outOf, (recP_ok n (div_le40 n h1)).2.1, hdH, Head.blocks, hd]
end Go.Proofs.YtmdlmmfbcnkanaaR
namespace Go.Proofs.YtmdlmmfbcnkanaaR

end Go.Proofs.YtmdlmmfbcnkanaaR
namespace Go.Proofs.YtmdlmmfbcnkanaaR

/-- What is left of a file. -/
structure TornF (s : Ser) (T : List (List UInt8)) : Prop where
  sub : ∀ r, r ∈ T → r ∈ fileL s
  hd : hdR s ∈ T
  len : T.length ≤ 162
  bytes : (linesL T).length = 8 * T.length
end Go.Proofs.YtmdlmmfbcnkanaaR
namespace Go.Proofs.YtmdlmmfbcnkanaaR

/-- Two lots of records that say the same but for a reading. -/
structure SameBut (h : Head) (m m' : List (List UInt8)) (k n : Nat) : Prop where
  other : ∀ j s x, j ≠ k → after h m' j s x = after h m j s x
  at_ : ∀ s, after h m' k s n = after h m k s n
end Go.Proofs.YtmdlmmfbcnkanaaR
namespace Go.Proofs.YtmdlmmfbcnkanaaR

end Go.Proofs.YtmdlmmfbcnkanaaR
namespace Go.Proofs.YtmdlmmfbcnkanaaR
open Go.RowKit Go.Shelf
section
attribute [local irreducible] AnyK StepK
variable {s : Ser} {T : List (List UInt8)} {r : List UInt8} {W : World}
end
end Go.Proofs.YtmdlmmfbcnkanaaR
namespace Go.Proofs.YtmdlmmfbcnkanaaR
open Go.RowKit Go.Shelf
section
attribute [local irreducible] AnyK StepK
variable {s : Ser} {T : List (List UInt8)} {W : World}
end
end Go.Proofs.YtmdlmmfbcnkanaaR
namespace Go.Proofs.YtmdlmmfbcnkanaaR
open Go.RowKit Go.Shelf
section
attribute [local irreducible] AnyK StepK
variable {s : Ser} {T : List (List UInt8)} {W : World}
end
end Go.Proofs.YtmdlmmfbcnkanaaR
namespace Go.Proofs.YtmdlmmfbcnkanaaR
open Go.RowKit Go.Shelf
section
attribute [local irreducible] AnyK StepK
variable {s : Ser} {T : List (List UInt8)} {W : World}
end
end Go.Proofs.YtmdlmmfbcnkanaaR
namespace Go.Proofs.YtmdlmmfbcnkanaaR
open Go.RowKit Go.Shelf
theorem eql62c {x y : Operand} (w : World) : (do eqGuard .eql 62 x y (.agg #[.int .i64 0, .int .i64 0, .int .i64 0]) (.agg #[.int .i64 0, .int .i64 0, .int .i64 0]); binOp .eql 62 (.agg #[.int .i64 0, .int .i64 0, .int .i64 0]) (.agg #[.int .i64 0, .int .i64 0, .int .i64 0]) : Sem Value).run Try.prog w = .ok (.bool true) w := by
  go_simp
theorem pieces_mem : ∀ (l acc p : List UInt8), p ∈ pieces acc l → p.length ≤ acc.length + l.length
  | [], acc, p, h => by simp [pieces] at h
  | b :: l, acc, p, h => by
    rw [pieces] at h
    split at h
    · rcases List.mem_cons.1 h with rfl | h
      · simp only [List.length_cons]; omega
      · have := pieces_mem l [] p h
        simp only [List.length_cons, List.length_nil] at this ⊢
        omega
    · have := pieces_mem l _ p h
      simp only [List.length_append, List.length_cons, List.length_nil] at this ⊢
      omega
noncomputable def opsCn0 : Array Oper := (Try.f8.body.bind (regionOf 0)).getD #[]
noncomputable def opsCn1 : Array Oper := (Try.f8.body.bind (regionOf 1)).getD #[]
noncomputable def opsCn2 : Array Oper := (Try.f8.body.bind (regionOf 2)).getD #[]
noncomputable def opsCn3 : Array Oper := (Try.f8.body.bind (regionOf 3)).getD #[]
noncomputable def opsCn4 : Array Oper := (Try.f8.body.bind (regionOf 4)).getD #[]
noncomputable def opsCn5 : Array Oper := (Try.f8.body.bind (regionOf 5)).getD #[]
noncomputable def opsCn6 : Array Oper := (Try.f8.body.bind (regionOf 6)).getD #[]
noncomputable def opsCn7 : Array Oper := (Try.f8.body.bind (regionOf 7)).getD #[]
noncomputable def opsCn8 : Array Oper := (Try.f8.body.bind (regionOf 8)).getD #[]
noncomputable def cn_e : Code := (.seq (.region 8 opsCn8 true) .ret)
noncomputable def code8 : Code := (.seq (.region 0 opsCn0 false) (.seq (.seq (.region 1 opsCn1 false) (.cond (.tmp 9) (.seq (.region 2 opsCn2 false) .ret) .skip)) (.seq (.region 3 opsCn3 false) (.seq (.seq (.region 4 opsCn4 false) (.cond (.tmp 19) (.seq (.region 5 opsCn5 false) .ret) .skip)) (.seq (.region 6 opsCn6 false) (.seq (.region 7 opsCn7 false) cn_e))))))
theorem body8 : Try.f8.body = some code8 := by kernel_rfl
section
attribute [local irreducible] AnyK StepK
set_option maxHeartbeats 400000 in
theorem cn_e_any {G : List (List UInt8)} {b3 np ng nb nd cP cG : Nat} {AP AG : Option Addr} {a : Act} {W W7 : World} (hG : G.length ≤ 90000) (hnp : np ≤ 90000) (e1 : ng = G.length) (e2 : nb + G.length = np) (e3 : nd + (withoutL [] G).length = G.length)
    (w3 : Whole W7 b3 62 (c62 ng nb nd)) (hst : StrsAt W7 W7.heap.size AG G)
    (hz : a.tmps.size = 67) (hd_a : a.defers = []) (t3 : a.eval (.tmp 3) = ptr b3) (t4 : a.eval (.tmp 4) = .int .i64 0) (t5 : a.eval (.tmp 5) = .slice AP np cP) (t6 : a.eval (.tmp 6) = .slice AG G.length cG) (hB : Below W.heap.size W W7) :
    cn_e.wpIn Fence.wide 5 Try.prog (bodyPost Try.prog Try.f8 (TP W true)) a W7 := by
  unfold cn_e
  have hbd := (Below.refl W7.heap.size W7).drew
  have hgr : ∀ w w', (fun w : World => (Whole w b3 62 (c62 ng nb nd) ∧ StrsAt w W7.heap.size AG G) ∧ Below W7.heap.size W7 w) w → Below w.heap.size w w' → (fun w : World => (Whole w b3 62 (c62 ng nb nd) ∧ StrsAt w W7.heap.size AG G) ∧ Below W7.heap.size W7 w) w' := fun w w' h hb => ⟨⟨h.1.1.below hb h.1.1.lt, h.1.2.below hb h.2.size⟩, h.2.trans (hb.mono h.2.size)⟩
  have hR0 : (fun w : World => (Whole w b3 62 (c62 ng nb nd) ∧ StrsAt w W7.heap.size AG G) ∧ Below W7.heap.size W7 w) W7.drew := hgr W7 _ ⟨⟨w3, hst⟩, Below.refl _ _⟩ hbd
  refine wpIn_seq (region_K (KpR (fun w : World => (Whole w b3 62 (c62 ng nb nd) ∧ StrsAt w W7.heap.size AG G) ∧ Below W7.heap.size W7 w) (fun _ => false)) (wideF_plain _) (by kernel_rfl) Try.mixed ?_)
  change AnyK _ _ _ _ 34 (Array.replicate 34 false) _ _
  have hR : (fun w : World => (Whole w b3 62 (c62 ng nb nd) ∧ StrsAt w W7.heap.size AG G) ∧ Below W7.heap.size W7 w) W7.drew := hR0
  refine AnyK.move (i := 0) may_o (v := .int .i64 0) (by simp [t4]) hR ?_
  refine AnyK.bin (i := 1) may_o (u := .int .i64 0) (u' := .int .i64 (0)) (v := .bool true) (by simp [hz]) (by simp) (fun w => eql27T rfl w) hR ?_
  refine AnyK.move (i := 2) may_o (v := .bool true) (by simp [hz]) hR ?_
  refine AnyK.field (i := 3) may_o (u := .pointer (some ⟨b3, 0, none⟩)) (v := .pointer (some ⟨b3, 0, none⟩)) (by simp [t3]) (fun w => fa62_0 w) hR (hw := (by exact wanted_g (e := 36) (b' := true) rfl (by simp [hz]) rfl)) ?_
  refine AnyK.load (i := 4) may_o (p := ⟨b3, 0, none⟩) (v := .int .i64 (ng : Int)) (by simp [hz]) (fun w hw => ld3 (hw.1.1.cell 0)) hR (hw := (by exact wanted_g (e := 36) (b' := true) rfl (by simp [hz]) rfl)) ?_
  refine AnyK.move (i := 5) may_o (v := .slice AG G.length cG) (by simp [t6]) hR (hw := (by exact wanted_g (e := 36) (b' := true) rfl (by simp [hz]) rfl)) ?_
  refine AnyK.len (i := 6) may_o (u := .slice AG G.length cG) (v := .int .i64 G.length) (by simp [hz]) (fun w => ln36 _ _ _ _ w) rfl hR (hw := (by exact wanted_g (e := 36) (b' := true) rfl (by simp [hz]) rfl)) ?_
  refine AnyK.bin (i := 7) may_o (u := .int .i64 (ng : Int)) (u' := .int .i64 G.length) (v := .bool true) (by simp [hz]) (by simp [hz]) (fun w => eqlT (by omega) w) hR (hw := (by exact wanted_g (e := 36) (b' := true) rfl (by simp [hz]) rfl)) ?_
  refine AnyK.pick (i := 8) may_o (b := true) (v := .bool true) (by simp [hz]) (by simp [hz]) hR ?_
  refine AnyK.move (i := 9) may_o (v := .bool true) (by simp [hz]) hR ?_
  refine AnyK.field (i := 10) may_o (u := .pointer (some ⟨b3, 0, none⟩)) (v := .pointer (some ⟨b3, 1, none⟩)) (by simp [t3]) (fun w => fa62_1 w) hR (hw := (by exact wanted_g (e := 43) (b' := true) rfl (by simp [hz]) rfl)) ?_
  refine AnyK.load (i := 11) may_o (p := ⟨b3, 1, none⟩) (v := .int .i64 (nb : Int)) (by simp [hz]) (fun w hw => ld3 (hw.1.1.cell 1)) hR (hw := (by exact wanted_g (e := 43) (b' := true) rfl (by simp [hz]) rfl)) ?_
  refine AnyK.move (i := 12) may_o (v := .slice AP np cP) (by simp [t5]) hR (hw := (by exact wanted_g (e := 43) (b' := true) rfl (by simp [hz]) rfl)) ?_
  refine AnyK.len (i := 13) may_o (u := .slice AP np cP) (v := .int .i64 np) (by simp [hz]) (fun w => ln36 _ _ _ _ w) rfl hR (hw := (by exact wanted_g (e := 43) (b' := true) rfl (by simp [hz]) rfl)) ?_
  refine AnyK.move (i := 14) may_o (v := .slice AG G.length cG) (by simp [t6]) hR (hw := (by exact wanted_g (e := 43) (b' := true) rfl (by simp [hz]) rfl)) ?_
  refine AnyK.len (i := 15) may_o (u := .slice AG G.length cG) (v := .int .i64 G.length) (by simp [hz]) (fun w => ln36 _ _ _ _ w) rfl hR (hw := (by exact wanted_g (e := 43) (b' := true) rfl (by simp [hz]) rfl)) ?_
  refine AnyK.bin (i := 16) may_o (u := .int .i64 np) (u' := .int .i64 G.length) (v := .int .i64 ((np : Int) - (G.length : Int))) (by simp [hz]) (by simp [hz]) (fun w => sub3 (by omega) (by omega) w) hR (hw := (by exact wanted_g (e := 43) (b' := true) rfl (by simp [hz]) rfl)) ?_
  refine AnyK.bin (i := 17) may_o (u := .int .i64 (nb : Int)) (u' := .int .i64 ((np : Int) - (G.length : Int))) (v := .bool true) (by simp [hz]) (by simp [hz]) (fun w => eqlT (by omega) w) hR (hw := (by exact wanted_g (e := 43) (b' := true) rfl (by simp [hz]) rfl)) ?_
  refine AnyK.pick (i := 18) may_o (b := true) (v := .bool true) (by simp [hz]) (by simp [hz]) hR ?_
  refine AnyK.move (i := 19) may_o (v := .bool true) (by simp [hz]) hR ?_
  refine AnyK.field (i := 20) may_o (u := .pointer (some ⟨b3, 0, none⟩)) (v := .pointer (some ⟨b3, 2, none⟩)) (by simp [t3]) (fun w => fa62_2 w) hR (hw := (by exact wanted_g (e := 53) (b' := true) rfl (by simp [hz]) rfl)) ?_
  refine AnyK.load (i := 21) may_o (p := ⟨b3, 2, none⟩) (v := .int .i64 (nd : Int)) (by simp [hz]) (fun w hw => ld3 (hw.1.1.cell 2)) hR (hw := (by exact wanted_g (e := 53) (b' := true) rfl (by simp [hz]) rfl)) ?_
  refine AnyK.move (i := 22) may_o (v := .slice AG G.length cG) (by simp [t6]) hR (hw := (by exact wanted_g (e := 53) (b' := true) rfl (by simp [hz]) rfl)) ?_
  refine AnyK.len (i := 23) may_o (u := .slice AG G.length cG) (v := .int .i64 G.length) (by simp [hz]) (fun w => ln36 _ _ _ _ w) rfl hR (hw := (by exact wanted_g (e := 53) (b' := true) rfl (by simp [hz]) rfl)) ?_
  refine AnyK.move (i := 24) may_o (v := .slice AG G.length cG) (by simp [t6]) hR (hw := (by exact wanted_g (e := 53) (b' := true) rfl (by simp [hz]) rfl)) ?_
  refine AnyK.pick1 (i := 25) (by kernel_rfl) ?_
  refine StepK.call (i := 25) (f := 38) (vs := #[.slice AG G.length cG]) rfl (enters_of Try.func38 (by kernel_rfl) rfl) rfl (by simp [hz]) ((refWithout_any AG cG G hG _ (hR.1.2.wide hR.2.size)).mono ?_) (hw := (by exact wanted_g (e := 53) (b' := true) rfl (by simp [hz]) rfl))
  rintro _ V25 ⟨v25, rfl, os25⟩
  obtain ⟨A25, c25, rfl, hs25⟩ := os25.strs
  replace hR : (fun w : World => (Whole w b3 62 (c62 ng nb nd) ∧ StrsAt w W7.heap.size AG G) ∧ Below W7.heap.size W7 w) V25 := hgr _ _ hR os25.low
  refine ⟨_, rfl, fun _ _ => hR, ?_⟩
  refine AnyK.len (i := 26) may_o (u := .slice A25 (withoutL [] G).length c25) (v := .int .i64 (withoutL [] G).length) (by simp [hz]) (fun w => ln36 _ _ _ _ w) rfl hR (hw := (by exact wanted_g (e := 53) (b' := true) rfl (by simp [hz]) rfl)) ?_
  refine AnyK.bin (i := 27) may_o (u := .int .i64 G.length) (u' := .int .i64 (withoutL [] G).length) (v := .int .i64 ((G.length : Int) - ((withoutL [] G).length : Int))) (by simp [hz]) (by simp [hz]) (fun w => sub3 (by omega) (by omega) w) hR (hw := (by exact wanted_g (e := 53) (b' := true) rfl (by simp [hz]) rfl)) ?_
  refine AnyK.bin (i := 28) may_o (u := .int .i64 (nd : Int)) (u' := .int .i64 ((G.length : Int) - ((withoutL [] G).length : Int))) (v := .bool true) (by simp [hz]) (by simp [hz]) (fun w => eqlT (by omega) w) hR (hw := (by exact wanted_g (e := 53) (b' := true) rfl (by simp [hz]) rfl)) ?_
  refine AnyK.pick (i := 29) may_o (b := true) (v := .bool true) (by simp [hz]) (by simp [hz]) hR ?_
  refine AnyK.move (i := 30) may_o (v := .bool true) (by simp [hz]) hR ?_
  refine AnyK.pick1 (i := 31) (by kernel_rfl) ?_
  refine StepK.call (i := 31) (f := 16) (vs := #[]) rfl (enters_of Try.func16 (by kernel_rfl) rfl) rfl (by simp []) ((awake_any _).mono ?_) (hw := (by exact wanted_g (e := 64) (b' := true) rfl (by simp [hz]) rfl))
  rintro _ V31 ⟨rfl, hb31⟩
  replace hR : (fun w : World => (Whole w b3 62 (c62 ng nb nd) ∧ StrsAt w W7.heap.size AG G) ∧ Below W7.heap.size W7 w) V31 := hgr _ _ hR hb31
  refine ⟨_, rfl, fun _ _ => hR, ?_⟩
  refine AnyK.pick (i := 32) may_o (b := true) (v := .bool true) (by simp [hz]) (by simp [hz]) hR ?_
  refine AnyK.assign (i := 33) may_o (v := .bool true) (by simp [hz]) hR ?_
  refine AnyK.done (by kernel_rfl) ?_
  refine wpIn_ret ?_
  exact bodyPost_ret (v := .bool true) (res1 Try.results8 (by simp [hz])) (by simp only [defers_put, hd_a]) ⟨rfl, hB.trans (hR.2.mono hB.size)⟩
end
set_option maxHeartbeats 400000 in
theorem counts_wp (l : List UInt8) (W : World) : Calls Try.prog 8 #[strV l] W (TP W true) := by
  refine (callsIn_wide (n := 5)).1 (callsIn_of_wp Try.func8 body8 trivial ?_ rfl)
  obtain ⟨a, ha⟩ : ∃ a : Act, a = { tmps := #[strV l] ++ Array.replicate (Try.f8.ntmps - (#[strV l] : Array Value).size) undef, defers := [] } := ⟨_, rfl⟩
  have hsz : a.tmps.size = 67 := by rw [ha]; simp [Try.ntmps8]
  have t0 : a.eval (.tmp 0) = strV l := by rw [ha]; simp [Act.eval]
  have hd_a : a.defers = [] := by rw [ha]
  rw [← ha]
  clear ha
  unfold code8
  refine wpIn_seq (region_p 1 ?_)
  intro K hK
  refine ListK.assign (i := 0) (v := .bool false) rfl (by simp) ?_
  refine ListK.done (hK _ _ ?_)
  clear hK K
  generalize hA : Act.put _ _ _ = a1
  have hz_a1 : a1.tmps.size = 67 := by rw [← hA]; simp only [size_put, hsz]
  have u0 : a1.eval (.tmp 0) = strV l := by rw [← hA]; exact (by simp [t0])
  have hd_a1 : a1.defers = [] := by rw [← hA]; simp only [defers_put, hd_a]
  clear hA
  by_cases h41 : 4100 < l.length
  · skip
    refine wpIn_seq (wpIn_seq (region_p 3 ?_))
    intro K hK
    refine ListK.move (i := 0) (v := strV l) rfl (by simp [u0]) ?_
    refine ListK.len (i := 1) (u := strV l) (v := .int .i64 (l.length : Int)) rfl (by simp [hz_a1]) (ln9 _ _ _) rfl ?_
    refine ListK.bin (i := 2) (u := .int .i64 (l.length : Int)) (u' := .int .i64 4100) (v := .bool true) rfl (by simp [hz_a1]) (by simp) (gtrT3 (by omega) _) ?_
    refine ListK.done (hK _ _ ?_)
    clear hK K
    refine wpIn_cond (t := true) (by simp [hz_a1]) ?_
    refine wpIn_seq (region_p 2 ?_)
    intro K hK
    refine ListK.call (i := 0) (vs := #[]) rfl (enters_of Try.func16 (by kernel_rfl) rfl) (by simp) ((awake_any W).mono ?_)
    rintro _ W2 ⟨rfl, hb2⟩
    refine ⟨_, rfl, ?_⟩
    refine ListK.assign (i := 1) (v := .bool true) rfl (by simp [hz_a1]) ?_
    refine ListK.done (hK _ _ (wpIn_ret ?_))
    exact bodyPost_ret (v := .bool true) (res1 Try.results8 (by simp [hz_a1])) (by simp only [defers_put, hd_a1]) ⟨rfl, hb2⟩
  · skip
    refine wpIn_seq (wpIn_seq (region_p 3 ?_))
    intro K hK
    refine ListK.move (i := 0) (v := strV l) rfl (by simp [u0]) ?_
    refine ListK.len (i := 1) (u := strV l) (v := .int .i64 (l.length : Int)) rfl (by simp [hz_a1]) (ln9 _ _ _) rfl ?_
    refine ListK.bin (i := 2) (u := .int .i64 (l.length : Int)) (u' := .int .i64 4100) (v := .bool false) rfl (by simp [hz_a1]) (by simp) (gtrF3 (by omega) _) ?_
    refine ListK.done (hK _ _ ?_)
    clear hK K
    refine wpIn_cond (t := false) (by simp [hz_a1]) (wpIn_skip ?_)
    generalize hA : Act.put _ _ _ = a2
    have hz_a2 : a2.tmps.size = 67 := by rw [← hA]; simp only [size_put, hz_a1]
    have v0 : a2.eval (.tmp 0) = strV l := by rw [← hA]; exact (by simp [u0])
    have hd_a2 : a2.defers = [] := by rw [← hA]; simp only [defers_put, hd_a1]
    clear hA
    obtain ⟨ng, hng⟩ : ∃ ng, (countR l).1.ng = ng := ⟨_, rfl⟩
    obtain ⟨nb, hnb⟩ : ∃ nb, (countR l).1.nb = nb := ⟨_, rfl⟩
    obtain ⟨nd, hnd⟩ : ∃ nd, (countR l).1.nd = nd := ⟨_, rfl⟩
    obtain ⟨ee, hee⟩ : ∃ ee, (countR l).2 = ee := ⟨_, rfl⟩
    refine wpIn_seq (region_p 9 ?_)
    intro K hK
    refine ListK.move (i := 0) (v := strV l) rfl (by simp [v0]) ?_
    refine ListK.call (i := 1) (vs := #[strV l]) rfl (enters_of Try.func26 (by kernel_rfl) rfl) (by simp [hz_a2]) ((bytes_any l (by omega) W).mono ?_)
    rintro _ V7 ⟨v7, rfl, ob7⟩
    obtain ⟨A7, c7, rfl, hc7, hy7⟩ := ob7.bytes
    refine ⟨_, rfl, ?_⟩
    refine ListK.call (i := 2) (vs := #[.slice A7 l.length c7]) rfl (enters_of Try.func37 (by kernel_rfl) rfl) (by simp [hz_a2]) ((count_any A7 l c7 V7 hc7 hy7).mono ?_)
    rintro _ W7 ⟨rfl, hb7⟩
    rw [hng, hnb, hnd, hee]
    refine ⟨_, rfl, ?_⟩
    refine ListK.move (i := 3) (v := .tuple #[.agg (c62 ng nb nd), .int .i64 ee]) rfl (by simp [hz_a2]) ?_
    refine ListK.extract (i := 4) (u := .tuple #[.agg (c62 ng nb nd), .int .i64 ee]) (v := .agg (c62 ng nb nd)) rfl (by simp [hz_a2]) (ex0 _ _ _) ?_
    refine ListK.extract (i := 5) (u := .tuple #[.agg (c62 ng nb nd), .int .i64 ee]) (v := .int .i64 ee) rfl (by simp [hz_a2]) (ex1 _ _ _) ?_
    refine ListK.alloc (i := 6) rfl (al62 W7) ?_
    refine ListK.store (i := 7) (u := .pointer (some ⟨W7.heap.size, 0, none⟩)) (u' := .agg (c62 ng nb nd)) rfl (by simp [hz_a2]) (by simp [hz_a2]) (st62 (Whole.new W7 62 #[.int .i64 0, .int .i64 0, .int .i64 0])) ?_
    refine ListK.assign (i := 8) (v := .int .i64 ee) rfl (by simp [hz_a2]) ?_
    refine ListK.done (hK _ _ ?_)
    clear hK K
    have hb67 := ob7.low.trans (hb7.mono ob7.low.size)
    have w3 := (((Whole.new W7 62 #[.int .i64 0, .int .i64 0, .int .i64 0]).set 0 (.int .i64 (ng : Int))).set 1 (.int .i64 (nb : Int))).set 2 (.int .i64 (nd : Int))
    have hb8 : Below W7.heap.size W7 ((((W7.alloc (.cells #[.int .i64 0, .int .i64 0, .int .i64 0] 62)).setCell ⟨W7.heap.size, 0, none⟩ (.int .i64 (ng : Int))).setCell ⟨W7.heap.size, 1, none⟩ (.int .i64 (nb : Int))).setCell ⟨W7.heap.size, 2, none⟩ (.int .i64 (nd : Int))) := ((((Below.refl _ W7).alloc (Nat.le_refl _) _).setCell (p := ⟨W7.heap.size, 0, none⟩) (Nat.le_refl _) _).setCell (p := ⟨W7.heap.size, 1, none⟩) (Nat.le_refl _) _).setCell (p := ⟨W7.heap.size, 2, none⟩) (Nat.le_refl _) _
    have hB8 := hb67.trans (hb8.mono hb67.size)
    generalize W7.heap.size = b3 at *
    generalize ((((W7.alloc (.cells #[.int .i64 0, .int .i64 0, .int .i64 0] 62)).setCell ⟨b3, 0, none⟩ (.int .i64 (ng : Int))).setCell ⟨b3, 1, none⟩ (.int .i64 (nb : Int))).setCell ⟨b3, 2, none⟩ (.int .i64 (nd : Int))) = W8 at *
    generalize hA : Act.put _ _ _ = a3
    have hz_a3 : a3.tmps.size = 67 := by rw [← hA]; simp only [size_put, hz_a2]
    have q0 : a3.eval (.tmp 0) = strV l := by rw [← hA]; exact (by simp [v0])
    have q3 : a3.eval (.tmp 3) = .pointer (some ⟨b3, 0, none⟩) := by rw [← hA]; exact (by simp [hz_a2])
    have q4 : a3.eval (.tmp 4) = .int .i64 ee := by rw [← hA]; exact (by simp [hz_a2])
    have hd_a3 : a3.defers = [] := by rw [← hA]; simp only [defers_put, hd_a2]
    clear hA
    by_cases h40 : 4000 < l.length
    · have hcr : countR l = (⟨0, 0, 0, []⟩, 3) := by unfold countR; rw [if_pos h40]
      rw [hcr] at hng hnb hnd hee
      subst hng hnb hnd hee
      refine wpIn_seq (wpIn_seq (region_p 3 ?_))
      intro K hK
      refine ListK.move (i := 0) (v := strV l) rfl (by simp [q0]) ?_
      refine ListK.len (i := 1) (u := strV l) (v := .int .i64 (l.length : Int)) rfl (by simp [hz_a3]) (ln9 _ _ _) rfl ?_
      refine ListK.bin (i := 2) (u := .int .i64 (l.length : Int)) (u' := .int .i64 4000) (v := .bool true) rfl (by simp [hz_a3]) (by simp) (gtrT3 (by omega) _) ?_
      refine ListK.done (hK _ _ ?_)
      clear hK K
      refine wpIn_cond (t := true) (by simp [hz_a3]) ?_
      generalize hA : Act.put _ _ _ = a4
      have hz_a4 : a4.tmps.size = 67 := by rw [← hA]; simp only [size_put, hz_a3]
      have r0 : a4.eval (.tmp 0) = strV l := by rw [← hA]; exact (by simp [q0])
      have r3 : a4.eval (.tmp 3) = .pointer (some ⟨b3, 0, none⟩) := by rw [← hA]; exact (by simp [q3])
      have r4 : a4.eval (.tmp 4) = .int .i64 3 := by rw [← hA]; exact (by simp [q4])
      have hd_a4 : a4.defers = [] := by rw [← hA]; simp only [defers_put, hd_a3]
      clear hA
      refine wpIn_seq (region_p 11 ?_)
      intro K hK
      refine ListK.move (i := 0) (v := .int .i64 3) rfl (by simp [r4]) ?_
      refine ListK.bin (i := 1) (u := .int .i64 3) (u' := .int .i64 3) (v := .bool true) rfl (by simp [hz_a4]) (by simp) (eql27T rfl _) ?_
      refine ListK.move (i := 2) (v := .bool true) rfl (by simp [hz_a4]) ?_
      refine ListK.load (i := 3) (p := ⟨b3, 0, none⟩) (v := .agg #[.int .i64 0, .int .i64 0, .int .i64 0]) rfl (by simp [r3]) (ld62 ⟨w3.cell 0, w3.cell 1, w3.cell 2⟩) ?_ (hw := wanted_g (e := 22) (b' := true) rfl (by simp [hz_a4]) rfl)
      refine ListK.bldW (i := 4) (ps := #[]) (v := .agg #[.int .i64 0, .int .i64 0, .int .i64 0]) rfl (by simp) (bd62_0 _) ?_ (hw := wanted_g (e := 22) (b' := true) rfl (by simp [hz_a4]) rfl)
      refine ListK.bin (i := 5) (u := .agg #[.int .i64 0, .int .i64 0, .int .i64 0]) (u' := .agg #[.int .i64 0, .int .i64 0, .int .i64 0]) (v := .bool true) rfl (by simp [hz_a4]) (by simp [hz_a4]) (eql62c _) ?_ (hw := wanted_g (e := 22) (b' := true) rfl (by simp [hz_a4]) rfl)
      refine ListK.pick (i := 6) (b := true) (v := .bool true) rfl (by simp [hz_a4]) (by simp [hz_a4]) ?_
      refine ListK.move (i := 7) (v := .bool true) rfl (by simp [hz_a4]) ?_
      refine ListK.call (i := 8) (vs := #[]) rfl (enters_of Try.func16 (by kernel_rfl) rfl) (by simp) ((awake_any W8).mono ?_) (hw := wanted_g (e := 27) (b' := true) rfl (by simp [hz_a4]) rfl)
      rintro _ W9 ⟨rfl, hb9⟩
      refine ⟨_, rfl, ?_⟩
      refine ListK.pick (i := 9) (b := true) (v := .bool true) rfl (by simp [hz_a4]) (by simp [hz_a4]) ?_
      refine ListK.assign (i := 10) (v := .bool true) rfl (by simp [hz_a4]) ?_
      refine ListK.done (hK _ _ (wpIn_ret ?_))
      exact bodyPost_ret (v := .bool true) (res1 Try.results8 (by simp [hz_a4])) (by simp only [defers_put, hd_a4]) ⟨rfl, hB8.trans (hb9.mono hB8.size)⟩
    · obtain ⟨k1, k2, k3, k4⟩ := counts_is (l := l) (by omega)
      rw [hng] at k2
      rw [hnb] at k3
      rw [hnd] at k4
      rw [hee] at k1
      subst k1
      have hpl := pieces_len l []
      have hgl : (goods l).length ≤ (pieces [] l).length := List.length_filter_le _ _
      refine wpIn_seq (wpIn_seq (region_p 3 ?_))
      intro K hK
      refine ListK.move (i := 0) (v := strV l) rfl (by simp [q0]) ?_
      refine ListK.len (i := 1) (u := strV l) (v := .int .i64 (l.length : Int)) rfl (by simp [hz_a3]) (ln9 _ _ _) rfl ?_
      refine ListK.bin (i := 2) (u := .int .i64 (l.length : Int)) (u' := .int .i64 4000) (v := .bool false) rfl (by simp [hz_a3]) (by simp) (gtrF3 (by omega) _) ?_
      refine ListK.done (hK _ _ ?_)
      clear hK K
      refine wpIn_cond (t := false) (by simp [hz_a3]) (wpIn_skip ?_)
      generalize hA : Act.put _ _ _ = a4
      have hz_a4 : a4.tmps.size = 67 := by rw [← hA]; simp only [size_put, hz_a3]
      have r0 : a4.eval (.tmp 0) = strV l := by rw [← hA]; exact (by simp [q0])
      have r3 : a4.eval (.tmp 3) = .pointer (some ⟨b3, 0, none⟩) := by rw [← hA]; exact (by simp [q3])
      have r4 : a4.eval (.tmp 4) = .int .i64 0 := by rw [← hA]; exact (by simp [q4])
      have hd_a4 : a4.defers = [] := by rw [← hA]; simp only [defers_put, hd_a3]
      clear hA
      refine wpIn_seq (region_p 3 ?_)
      intro K hK
      refine ListK.move (i := 0) (v := strV l) rfl (by simp [r0]) ?_
      refine ListK.call (i := 1) (vs := #[strV l]) rfl (enters_of Try.func33 (by kernel_rfl) rfl) (by simp [hz_a4]) ((refPieces_any l (by omega) W8).mono ?_)
      rintro _ W9 ⟨v9, rfl, os9⟩
      obtain ⟨A9, c9, rfl, hs9⟩ := os9.strs
      refine ⟨_, rfl, ?_⟩
      refine ListK.assign (i := 2) (v := .slice A9 (pieces [] l).length c9) rfl (by simp [hz_a4]) ?_
      refine ListK.done (hK _ _ ?_)
      clear hK K
      generalize hA : Act.put _ _ _ = a5
      have hz_a5 : a5.tmps.size = 67 := by rw [← hA]; simp only [size_put, hz_a4]
      have x3 : a5.eval (.tmp 3) = .pointer (some ⟨b3, 0, none⟩) := by rw [← hA]; exact (by simp [r3])
      have x4 : a5.eval (.tmp 4) = .int .i64 0 := by rw [← hA]; exact (by simp [r4])
      have x5 : a5.eval (.tmp 5) = .slice A9 (pieces [] l).length c9 := by rw [← hA]; exact (by simp [hz_a4])
      have hd_a5 : a5.defers = [] := by rw [← hA]; simp only [defers_put, hd_a4]
      clear hA
      refine wpIn_seq (region_p 3 ?_)
      intro K hK
      refine ListK.move (i := 0) (v := .slice A9 (pieces [] l).length c9) rfl (by simp [x5]) ?_
      refine ListK.call (i := 1) (vs := #[.slice A9 (pieces [] l).length c9]) rfl (enters_of Try.func32 (by kernel_rfl) rfl) (by simp [hz_a5]) ((refGood_any A9 c9 (pieces [] l) (by omega) (fun x hx => by have := pieces_mem l [] x hx; simp only [List.length_nil] at this; omega) W9 hs9).mono ?_)
      rintro _ W10 ⟨v10, rfl, os10⟩
      replace os10 : OS W9 v10 (goods l) W10 := os10
      obtain ⟨A10, c10, rfl, hs10⟩ := os10.strs
      refine ⟨_, rfl, ?_⟩
      refine ListK.assign (i := 2) (v := .slice A10 (goods l).length c10) rfl (by simp [hz_a5]) ?_
      refine ListK.done (hK _ _ ?_)
      clear hK K
      have hb810 := os9.low.trans (os10.low.mono os9.low.size)
      show cn_e.wpIn _ _ _ _ _ _
      exact cn_e_any (G := goods l) (np := (pieces [] l).length) (AP := A9) (cP := c9) (AG := A10) (cG := c10) (by omega) (by omega) k2 k3 k4 (w3.below hb810 w3.lt) hs10 (by simp only [size_put, hz_a5]) (by simp only [defers_put, hd_a5]) (by simp [x3]) (by simp [x4]) (by simp [x5]) (by simp [hz_a5]) (hB8.trans (hb810.mono hB8.size))
end Go.Proofs.YtmdlmmfbcnkanaaR
