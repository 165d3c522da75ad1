/- Texts for a law of package file, behind the shared ones, part 2: the law's own contracts and plain words. -/
import Derived.Test.YtmdlmmfbcnkanaaRJ1

set_option linter.unusedVariables false
set_option maxRecDepth 10000

namespace Go.Proofs.YtmdlmmfbcnkanaaR
open Go.RowKit Go.Shelf
theorem res3n {fn : Go.Func} {i j k : Nat} {W : World} {a : Act} {x y z : Value} (h : fn.results = #[.tmp i, .tmp j, .tmp k]) (hi : a.eval (.tmp i) = x) (hj : a.eval (.tmp j) = y) (hk : a.eval (.tmp k) = z) :
    (results fn a.tmps).run Try.prog W = .ok (.tuple #[x, y, z]) W := by
  have e1 : a.tmps[i]?.getD undef = x := by simpa [Act.eval] using hi
  have e2 : a.tmps[j]?.getD undef = y := by simpa [Act.eval] using hj
  have e3 : a.tmps[k]?.getD undef = z := by simpa [Act.eval] using hk
  simp only [results, h]
  simp [e1, e2, e3]
abbrev hdT (h : Head) : Value := .tuple #[.int .i64 (h.many : Int), .int .i64 (h.width : Int), .int .i64 (h.step : Int)]
theorem headG_at {L : List (List UInt8)} {i : Nat} {x : List UInt8} (hno : ∀ (j : Nat) (y : List UInt8), j < i → L[j]? = some y → y.head? ≠ some 72) (hx : L[i]? = some x) (h72 : x.head? = some 72) : headG L = headOf x := by
  have hlt := (List.getElem?_eq_some_iff.1 hx).1
  have e : L = L.take i ++ x :: L.drop (i + 1) := by
    conv => lhs; rw [← List.take_append_drop i L]
    rw [List.drop_eq_getElem_cons hlt, (List.getElem?_eq_some_iff.1 hx).2]
  have hn : (L.take i).find? (fun p => p.head? == some 72) = none := by
    rw [List.find?_eq_none]
    intro y hy
    obtain ⟨j, hj⟩ := List.getElem?_of_mem hy
    rw [List.getElem?_take] at hj
    split at hj
    · rename_i hji
      have := hno j y hji hj
      simpa using this
    · cases hj
  have hf : L.find? (fun p => p.head? == some 72) = some x := by
    rw [e, List.find?_append, hn]
    simp [h72]
  unfold headG
  rw [hf]
theorem headG_none {L : List (List UInt8)} (hno : ∀ (j : Nat) (y : List UInt8), j < L.length → L[j]? = some y → y.head? ≠ some 72) : headG L = ⟨0, 0, 0⟩ := by
  have hf : L.find? (fun p => p.head? == some 72) = none := by
    rw [List.find?_eq_none]
    intro y hy
    obtain ⟨j, hj⟩ := List.getElem?_of_mem hy
    have := hno j y (List.getElem?_eq_some_iff.1 hj).1 hj
    simpa using this
  unfold headG
  rw [hf]
theorem headG_b {L : List (List UInt8)} (hg : ∀ r, r ∈ L → isGood r = true) (h : 0 < (headG L).many) : HeadB (headG L) := by
  unfold headG at h ⊢
  cases hf : L.find? (fun p => p.head? == some 72) with
  | none => rw [hf] at h; simp at h
  | some p =>
    have hp := hg p (List.mem_of_find?_eq_some hf)
    have h72 : p.head? = some 72 := by simpa using List.find?_some hf
    exact head_b hp (head_many hp h72).1
noncomputable def opsHe0 : Array Oper := (Try.f62.body.bind (regionOf 0)).getD #[]
noncomputable def opsHe1 : Array Oper := (Try.f62.body.bind (regionOf 1)).getD #[]
noncomputable def opsHe2 : Array Oper := (Try.f62.body.bind (regionOf 2)).getD #[]
noncomputable def opsHe3 : Array Oper := (Try.f62.body.bind (regionOf 3)).getD #[]
noncomputable def opsHe4 : Array Oper := (Try.f62.body.bind (regionOf 4)).getD #[]
noncomputable def opsHe5 : Array Oper := (Try.f62.body.bind (regionOf 5)).getD #[]
noncomputable def opsHe6 : Array Oper := (Try.f62.body.bind (regionOf 6)).getD #[]
noncomputable def opsHe7 : Array Oper := (Try.f62.body.bind (regionOf 7)).getD #[]
noncomputable def he_l : Code := (.seq (.seq (.region 2 opsHe2 false) (.cond (.tmp 10) .skip (.exit 0))) (.seq (.block 1 (.seq (.region 4 opsHe4 false) (.seq (.region 5 opsHe5 false) (.cond (.tmp 19) (.seq (.region 6 opsHe6 true) .ret) .skip)))) (.region 3 opsHe3 false)))
noncomputable def code62 : Code := (.seq (.region 0 opsHe0 false) (.seq (.seq (.region 1 opsHe1 false) (.block 0 (.loop he_l))) (.seq (.region 7 opsHe7 false) .ret)))
theorem body62 : Try.f62.body = some code62 := by kernel_rfl
section
attribute [local irreducible] AnyK StepK
set_option maxHeartbeats 400000 in
theorem refHead_any (A : Option Addr) (c : Nat) (L : List (List UInt8)) (hL : L.length ≤ 90000) (hgd : ∀ x, x ∈ L → isGood x = true) (W : World) (hst : StrsAt W W.heap.size A L) : Calls Try.prog 62 #[.slice A L.length c] W (EvP W (hdT (headG L))) := by
  refine (callsIn_wide (n := 5)).1 (callsIn_of_wp Try.func62 body62 trivial ?_ rfl)
  obtain ⟨a, ha⟩ : ∃ a : Act, a = { tmps := #[.slice A L.length c] ++ Array.replicate (Try.f62.ntmps - (#[.slice A L.length c] : Array Value).size) undef, defers := [] } := ⟨_, rfl⟩
  have hsz : a.tmps.size = 30 := by rw [ha]; simp [Try.ntmps62]
  have t0 : a.eval (.tmp 0) = .slice A L.length c := by rw [ha]; simp [Act.eval]
  have hd_a : a.defers = [] := by rw [ha]
  rw [← ha]
  clear ha
  unfold code62
  refine wpIn_seq (region_p 3 ?_)
  intro K hK
  refine ListK.assign (i := 0) (v := .int .i64 0) rfl (by simp) ?_
  refine ListK.assign (i := 1) (v := .int .i64 0) rfl (by simp) ?_
  refine ListK.assign (i := 2) (v := .int .i64 0) rfl (by simp) ?_
  refine ListK.done (hK _ _ ?_)
  clear hK K
  refine wpIn_seq (wpIn_seq (region_p 1 ?_))
  intro K hK
  refine ListK.assign (i := 0) (v := .int .i64 0) rfl (by simp) ?_
  refine ListK.done (hK _ _ ?_)
  clear hK K
  generalize hA : Act.put _ _ _ = a1
  have hz_a1 : a1.tmps.size = 30 := by rw [← hA]; simp only [size_put, hsz]
  have u0 : a1.eval (.tmp 0) = .slice A L.length c := by rw [← hA]; exact (by simp [t0])
  have u5 : a1.eval (.tmp 5) = .int .i64 0 := by rw [← hA]; exact (by simp [hsz])
  have hd_a1 : a1.defers = [] := by rw [← hA]; simp only [defers_put, hd_a]
  clear hA
  refine wpIn_block (wpIn_loop (fun a W' => ∃ i : Nat, W' = W ∧ i ≤ L.length ∧ (∀ (j : Nat) (y : List UInt8), j < i → L[j]? = some y → y.head? ≠ some 72) ∧ a.tmps.size = 30 ∧ a.defers = [] ∧ a.eval (.tmp 0) = .slice A L.length c ∧ a.eval (.tmp 5) = .int .i64 (i : Int)) (fun a _ => L.length - (intOf (a.eval (.tmp 5))).toNat)
    ⟨0, rfl, Nat.zero_le _, fun j y h => by omega, hz_a1, hd_a1, u0, u5⟩ ?_)
  rintro b1 W1 ⟨i, hW1, hi, hno, hz_b1, hd_b1, s0, s5⟩
  subst hW1
  unfold he_l
  by_cases hlt : i < L.length
  · have hx := List.getElem?_eq_getElem hlt
    obtain ⟨gb, off, hA, hgb, hc⟩ := hst i _ hx
    have hxg := hgd L[i] (List.getElem_mem hlt)
    obtain ⟨x, hxe⟩ : ∃ x, L[i] = x := ⟨_, rfl⟩
    rw [hxe] at hx hc hxg
    obtain ⟨x0, x1, x2, x3, x4, x5, x6, rfl, h0, _, _⟩ := good_parts hxg
    have d3 := dig_lt x3
    have d4 := dig_lt x4
    subst hA
    refine wpIn_seq (wpIn_seq (region_p 4 ?_))
    intro K hK
    refine ListK.move (i := 0) (v := .int .i64 (i : Int)) rfl (by simp [s5]) ?_
    refine ListK.move (i := 1) (v := .slice (some ⟨gb, off, none⟩) L.length c) rfl (by simp [s0]) ?_
    refine ListK.len (i := 2) (u := .slice (some ⟨gb, off, none⟩) L.length c) (v := .int .i64 L.length) rfl (by simp [hz_b1]) (ln36 _ _ _ _ _) rfl ?_
    refine ListK.bin (i := 3) (u := .int .i64 (i : Int)) (u' := .int .i64 L.length) (v := .bool true) rfl (by simp [hz_b1]) (by simp [hz_b1]) (lssT3 (by omega) _) ?_
    refine ListK.done (hK _ _ ?_)
    clear hK K
    refine wpIn_cond (t := true) (by simp [hz_b1]) (wpIn_skip ?_)
    generalize hA : Act.put _ _ _ = b2
    have hz_b2 : b2.tmps.size = 30 := by rw [← hA]; simp only [size_put, hz_b1]
    have o0 : b2.eval (.tmp 0) = .slice (some ⟨gb, off, none⟩) L.length c := by rw [← hA]; exact (by simp [s0])
    have o5 : b2.eval (.tmp 5) = .int .i64 (i : Int) := by rw [← hA]; exact (by simp [s5])
    have hd_b2 : b2.defers = [] := by rw [← hA]; simp only [defers_put, hd_b1]
    clear hA
    refine wpIn_seq (wpIn_block ?_)
    refine wpIn_seq (region_p 5 ?_)
    intro K hK
    refine ListK.move (i := 0) (v := .slice (some ⟨gb, off, none⟩) L.length c) rfl (by simp [o0]) ?_
    refine ListK.move (i := 1) (v := .int .i64 (i : Int)) rfl (by simp [o5]) ?_
    refine ListK.index (i := 2) (u := .slice (some ⟨gb, off, none⟩) L.length c) (u' := .int .i64 (i : Int)) (v := .pointer (some ⟨gb, off + i, none⟩)) rfl (by simp [hz_b2]) (by simp [hz_b2]) (ix36 hlt _) ?_
    refine ListK.load (i := 3) (p := ⟨gb, off + i, none⟩) (v := strV [x0, x1, x2, x3, x4, x5, x6]) rfl (by simp [hz_b2]) (ld9 (hc)) ?_
    refine ListK.assign (i := 4) (v := strV [x0, x1, x2, x3, x4, x5, x6]) rfl (by simp [hz_b2]) ?_
    refine ListK.done (hK _ _ ?_)
    clear hK K
    generalize hA : Act.put _ _ _ = b3
    have hz_b3 : b3.tmps.size = 30 := by rw [← hA]; simp only [size_put, hz_b2]
    have q0 : b3.eval (.tmp 0) = .slice (some ⟨gb, off, none⟩) L.length c := by rw [← hA]; exact (by simp [o0])
    have q5 : b3.eval (.tmp 5) = .int .i64 (i : Int) := by rw [← hA]; exact (by simp [o5])
    have q6 : b3.eval (.tmp 6) = strV [x0, x1, x2, x3, x4, x5, x6] := by rw [← hA]; exact (by simp [hz_b2])
    have hd_b3 : b3.defers = [] := by rw [← hA]; simp only [defers_put, hd_b2]
    clear hA
    refine wpIn_seq (region_p 3 ?_)
    intro K hK
    refine ListK.move (i := 0) (v := strV [x0, x1, x2, x3, x4, x5, x6]) rfl (by simp [q6]) ?_
    refine ListK.indexV (i := 1) (u := strV [x0, x1, x2, x3, x4, x5, x6]) (u' := .int .i64 0) (v := u8V x0) rfl (by simp [hz_b3]) (by simp) (ix9 (k := 0) rfl _) ?_
    refine ListK.bin (i := 2) (u := u8V x0) (u' := .int .u8 72) (v := .bool (decide (x0 = 72))) rfl (by simp [hz_b3]) (by simp) (eql5n x0 72 _) ?_
    refine ListK.done (hK _ _ ?_)
    clear hK K
    by_cases h72 : x0 = 72
    · rw [decide_eq_true h72]
      have hh := headG_at hno hx (by rw [h72]; rfl)
      refine wpIn_cond (t := true) (by simp [hz_b3]) ?_
      generalize hA : Act.put _ _ _ = b4
      have hz_b4 : b4.tmps.size = 30 := by rw [← hA]; simp only [size_put, hz_b3]
      have yy0 : b4.eval (.tmp 0) = .slice (some ⟨gb, off, none⟩) L.length c := by rw [← hA]; exact (by simp [q0])
      have yy5 : b4.eval (.tmp 5) = .int .i64 (i : Int) := by rw [← hA]; exact (by simp [q5])
      have yy6 : b4.eval (.tmp 6) = strV [x0, x1, x2, x3, x4, x5, x6] := by rw [← hA]; exact (by simp [q6])
      have hd_b4 : b4.defers = [] := by rw [← hA]; simp only [defers_put, hd_b3]
      clear hA
      refine wpIn_seq (region_K (KpR (fun w : World => Below W1.heap.size W1 w) (fun _ => false)) (wideF_plain _) (by kernel_rfl) Try.mixed ?_)
      change AnyK _ _ _ _ 13 (Array.replicate 13 false) _ _
      have hR : (fun w : World => Below W1.heap.size W1 w) W1.drew := (Below.refl W1.heap.size W1).drew
      refine AnyK.move (i := 0) may_o (v := strV [x0, x1, x2, x3, x4, x5, x6]) (by simp [yy6]) hR ?_
      refine AnyK.move (i := 2) may_o (v := strV [x0, x1, x2, x3, x4, x5, x6]) (by simp [yy6]) hR ?_
      refine AnyK.indexV (i := 3) may_o (u := strV [x0, x1, x2, x3, x4, x5, x6]) (u' := .int .i64 (3)) (v := u8V x3) (by simp [hz_b4]) (by simp) (fun w => ix9 (k := 3) rfl w) hR ?_
      refine AnyK.bin (i := 4) may_o (u := u8V x3) (u' := .int .u8 48) (v := .int .u8 (dig x3 : Int)) (by simp [hz_b4]) (by simp) (fun w => subu8 x3 w) hR ?_
      refine AnyK.conv (i := 5) may_o (u := .int .u8 (dig x3 : Int)) (v := .int .i64 (dig x3 : Int)) (by simp [hz_b4]) (fun w => cv53 (by omega) (by omega) w) hR ?_
      refine AnyK.move (i := 6) may_o (v := strV [x0, x1, x2, x3, x4, x5, x6]) (by simp [yy6]) hR ?_
      refine AnyK.indexV (i := 7) may_o (u := strV [x0, x1, x2, x3, x4, x5, x6]) (u' := .int .i64 (4)) (v := u8V x4) (by simp [hz_b4]) (by simp) (fun w => ix9 (k := 4) rfl w) hR ?_
      refine AnyK.bin (i := 8) may_o (u := u8V x4) (u' := .int .u8 48) (v := .int .u8 (dig x4 : Int)) (by simp [hz_b4]) (by simp) (fun w => subu8 x4 w) hR ?_
      refine AnyK.conv (i := 9) may_o (u := .int .u8 (dig x4 : Int)) (v := .int .i64 (dig x4 : Int)) (by simp [hz_b4]) (fun w => cv53 (by omega) (by omega) w) hR ?_
      refine AnyK.pick1 (i := 1) (by kernel_rfl) ?_
      refine StepK.call (i := 1) (f := 65) (vs := #[strV [x0, x1, x2, x3, x4, x5, x6], .int .i64 (1)]) rfl (enters_of Try.func65 (by kernel_rfl) rfl) rfl (by simp [hz_b4]) ((num_any [x0, x1, x2, x3, x4, x5, x6] 1 x1 x2 rfl rfl (by omega) _).mono ?_)
      rintro _ V1 ⟨rfl, hb1⟩
      replace hR : (fun w : World => Below W1.heap.size W1 w) V1 := hR.trans (hb1.mono hR.size)
      refine ⟨_, rfl, fun _ _ => hR, ?_⟩
      refine AnyK.assign (i := 10) may_o (v := .int .i64 (num2 x1 x2 : Int)) (by simp [hz_b4]) hR ?_
      refine AnyK.assign (i := 11) may_o (v := .int .i64 (dig x3 : Int)) (by simp [hz_b4]) hR ?_
      refine AnyK.assign (i := 12) may_o (v := .int .i64 (dig x4 : Int)) (by simp [hz_b4]) hR ?_
      refine AnyK.done (by kernel_rfl) ?_
      refine wpIn_ret ?_
      refine bodyPost_ret (v := hdT (headG L)) ?_ (by simp only [defers_put, hd_b4]) ⟨rfl, hR⟩
      rw [hh, show hdT (headOf [x0, x1, x2, x3, x4, x5, x6]) = .tuple #[.int .i64 (num2 x1 x2 : Int), .int .i64 (dig x3 : Int), .int .i64 (dig x4 : Int)] from rfl]
      exact res3n Try.results62 (by simp [hz_b4]) (by simp [hz_b4]) (by simp [hz_b4])
    · rw [decide_eq_false h72]
      refine wpIn_cond (t := false) (by simp [hz_b3]) (wpIn_skip ?_)
      generalize hA : Act.put _ _ _ = b4
      have hz_b4 : b4.tmps.size = 30 := by rw [← hA]; simp only [size_put, hz_b3]
      have yy0 : b4.eval (.tmp 0) = .slice (some ⟨gb, off, none⟩) L.length c := by rw [← hA]; exact (by simp [q0])
      have yy5 : b4.eval (.tmp 5) = .int .i64 (i : Int) := by rw [← hA]; exact (by simp [q5])
      have hd_b4 : b4.defers = [] := by rw [← hA]; simp only [defers_put, hd_b3]
      clear hA
      refine region_p 3 ?_
      intro K hK
      refine ListK.move (i := 0) (v := .int .i64 (i : Int)) rfl (by simp [yy5]) ?_
      refine ListK.bin (i := 1) (u := .int .i64 (i : Int)) (u' := .int .i64 1) (v := .int .i64 ((i + 1 : Nat) : Int)) rfl (by simp [hz_b4]) (by simp) (add3 (by omega) (by omega) _) ?_
      refine ListK.assign (i := 2) (v := .int .i64 ((i + 1 : Nat) : Int)) rfl (by simp [hz_b4]) ?_
      refine ListK.done (hK _ _ ?_)
      clear hK K
      refine ⟨⟨i + 1, rfl, by omega, fun j y hj hy => ?_, (by simp only [size_put, hz_b4]), (by simp only [defers_put, hd_b4]), (by simp [yy0]), (by simp [hz_b4])⟩, ?_⟩
      · by_cases hji : j = i
        · subst hji
          rw [hx] at hy
          cases hy
          simpa using h72
        · exact hno j y (by omega) hy
      · rw [s5, show (Act.put _ _ _).eval (.tmp 5) = .int .i64 ((i + 1 : Nat) : Int) from (by simp [hz_b4])]
        simp only [intOf]
        omega
  · have hie : i = L.length := by omega
    refine wpIn_seq (wpIn_seq (region_p 4 ?_))
    intro K hK
    refine ListK.move (i := 0) (v := .int .i64 (i : Int)) rfl (by simp [s5]) ?_
    refine ListK.move (i := 1) (v := .slice A L.length c) rfl (by simp [s0]) ?_
    refine ListK.len (i := 2) (u := .slice A L.length c) (v := .int .i64 L.length) rfl (by simp [hz_b1]) (ln36 _ _ _ _ _) rfl ?_
    refine ListK.bin (i := 3) (u := .int .i64 (i : Int)) (u' := .int .i64 L.length) (v := .bool false) rfl (by simp [hz_b1]) (by simp [hz_b1]) (lssF3 (by omega) _) ?_
    refine ListK.done (hK _ _ ?_)
    clear hK K
    refine wpIn_cond (t := false) (by simp [hz_b1]) (wpIn_exit ?_)
    show (Code.wpIn _ _ _ (Code.seq _ _) _ _ _)
    rw [hie] at hno
    refine wpIn_seq (region_p 3 ?_)
    intro K hK
    refine ListK.assign (i := 0) (v := .int .i64 0) rfl (by simp) ?_
    refine ListK.assign (i := 1) (v := .int .i64 0) rfl (by simp) ?_
    refine ListK.assign (i := 2) (v := .int .i64 0) rfl (by simp) ?_
    refine ListK.done (hK _ _ (wpIn_ret ?_))
    refine bodyPost_ret (v := hdT (headG L)) ?_ (by simp only [defers_put, hd_b1]) ⟨rfl, Below.refl _ _⟩
    rw [headG_none hno]
    exact res3n Try.results62 (by simp [hz_b1]) (by simp [hz_b1]) (by simp [hz_b1])
end
theorem outOf_of {H : Head} {r : List UInt8} {nm : UInt8 × Nat} (hn : nameOf r = nm) : outOf H r = ((nm.1 == 82 && decide (H.many ≤ nm.2)) || (nm.1 == 80 && decide (H.blocks ≤ nm.2))) := by
  subst hn
  rfl
noncomputable def opsCo0 : Array Oper := (Try.f61.body.bind (regionOf 0)).getD #[]
noncomputable def opsCo1 : Array Oper := (Try.f61.body.bind (regionOf 1)).getD #[]
noncomputable def opsCo2 : Array Oper := (Try.f61.body.bind (regionOf 2)).getD #[]
noncomputable def opsCo3 : Array Oper := (Try.f61.body.bind (regionOf 3)).getD #[]
noncomputable def opsCo4 : Array Oper := (Try.f61.body.bind (regionOf 4)).getD #[]
noncomputable def opsCo5 : Array Oper := (Try.f61.body.bind (regionOf 5)).getD #[]
noncomputable def opsCo6 : Array Oper := (Try.f61.body.bind (regionOf 6)).getD #[]
noncomputable def opsCo7 : Array Oper := (Try.f61.body.bind (regionOf 7)).getD #[]
noncomputable def opsCo8 : Array Oper := (Try.f61.body.bind (regionOf 8)).getD #[]
noncomputable def opsCo9 : Array Oper := (Try.f61.body.bind (regionOf 9)).getD #[]
noncomputable def opsCo10 : Array Oper := (Try.f61.body.bind (regionOf 10)).getD #[]
noncomputable def opsCo11 : Array Oper := (Try.f61.body.bind (regionOf 11)).getD #[]
noncomputable def opsCo12 : Array Oper := (Try.f61.body.bind (regionOf 12)).getD #[]
noncomputable def opsCo13 : Array Oper := (Try.f61.body.bind (regionOf 13)).getD #[]
noncomputable def opsCo14 : Array Oper := (Try.f61.body.bind (regionOf 14)).getD #[]
noncomputable def co_k : Code := (.seq (.seq (.region 7 opsCo7 false) (.cond (.tmp 28) .skip (.exit 2))) (.seq (.block 3 (.seq (.region 9 opsCo9 false) (.seq (.region 10 opsCo10 true) (.cond (.tmp 56) (.seq (.region 11 opsCo11 false) .ret) .skip)))) (.region 8 opsCo8 false)))
noncomputable def co_c : Code := (.seq (.region 12 opsCo12 false) (.cond (.tmp 82) (.seq (.region 13 opsCo13 false) .ret) .skip))
noncomputable def co_b : Code := (.seq (.seq (.region 6 opsCo6 false) (.block 2 (.loop co_k))) co_c)
noncomputable def co_l : Code := (.seq (.seq (.region 3 opsCo3 false) (.cond (.tmp 19) .skip (.exit 0))) (.seq (.block 1 (.seq (.region 5 opsCo5 false) co_b)) (.region 4 opsCo4 false)))
noncomputable def code61 : Code := (.seq (.region 0 opsCo0 false) (.seq (.region 1 opsCo1 false) (.seq (.seq (.region 2 opsCo2 false) (.block 0 (.loop co_l))) (.seq (.region 14 opsCo14 false) .ret))))
theorem body61 : Try.f61.body = some code61 := by kernel_rfl
section
attribute [local irreducible] AnyK StepK
variable {p0 p1 p2 p3 p4 p5 p6 q0 q1 q2 q3 q4 q5 q6 : UInt8} {A : Option Addr} {n c i k : Nat} {H : Head}
set_option maxHeartbeats 400000 in
theorem co_10_any {a : Act} {W : World} {Q : Exit → Act → World → Prop}
    (hz : a.tmps.size = 83) (hd_a : a.defers = []) (t0 : a.eval (.tmp 0) = .slice A n c) (t3 : a.eval (.tmp 3) = .int .i64 (H.many : Int)) (t4 : a.eval (.tmp 4) = .int .i64 (H.width : Int)) (t6 : a.eval (.tmp 6) = .int .i64 (i : Int)) (t7 : a.eval (.tmp 7) = strV [p0, p1, p2, p3, p4, p5, p6]) (t8 : a.eval (.tmp 8) = .int .i64 (k : Int)) (t9 : a.eval (.tmp 9) = strV [q0, q1, q2, q3, q4, q5, q6])
    (hQ : ∀ (b : Act) (W' : World), Below W.heap.size W W' → b.tmps.size = 83 → b.defers = [] → b.eval (.tmp 0) = .slice A n c → b.eval (.tmp 3) = .int .i64 (H.many : Int) → b.eval (.tmp 4) = .int .i64 (H.width : Int) → b.eval (.tmp 6) = .int .i64 (i : Int) → b.eval (.tmp 7) = strV [p0, p1, p2, p3, p4, p5, p6] → b.eval (.tmp 8) = .int .i64 (k : Int) → b.eval (.tmp 56) = .bool (confl [p0, p1, p2, p3, p4, p5, p6] [q0, q1, q2, q3, q4, q5, q6]) → Q .normal b W') :
    (Code.region 10 opsCo10 true).wpIn Fence.wide 5 Try.prog Q a W := by
  have hcf : confl [p0, p1, p2, p3, p4, p5, p6] [q0, q1, q2, q3, q4, q5, q6] = ((decide (p0 = q0) && !decide ([p0, p1, p2, p3, p4, p5, p6] = [q0, q1, q2, q3, q4, q5, q6])) && (decide (p0 = 72) || decide ([p0, p1, p2, p3, p4, p5, p6].take 3 = [q0, q1, q2, q3, q4, q5, q6].take 3))) := by
    unfold confl
    rw [Bool.eq_iff_iff]
    simp
  by_cases h1 : p0 = q0
  · have e1 := decide_eq_true h1
    by_cases h2 : [p0, p1, p2, p3, p4, p5, p6] = [q0, q1, q2, q3, q4, q5, q6]
    · have e2 : (!decide ([p0, p1, p2, p3, p4, p5, p6] = [q0, q1, q2, q3, q4, q5, q6])) = false := by rw [decide_eq_true h2]; rfl
      rw [e1, e2] at hcf
      refine region_K (KpR (fun w : World => Below W.heap.size W w) (fun _ => false)) (wideF_plain _) (by kernel_rfl) Try.mixed ?_
      change AnyK _ _ _ _ 22 (Array.replicate 22 false) _ _
      have hR : (fun w : World => Below W.heap.size W w) W.drew := (Below.refl W.heap.size W).drew
      refine AnyK.move (i := 0) may_o (v := strV [p0, p1, p2, p3, p4, p5, p6]) (by simp [t7]) hR ?_
      refine AnyK.indexV (i := 1) may_o (u := strV [p0, p1, p2, p3, p4, p5, p6]) (u' := .int .i64 (0)) (v := u8V p0) (by simp [hz]) (by simp) (fun w => ix9 (k := 0) rfl w) hR ?_
      refine AnyK.move (i := 2) may_o (v := strV [q0, q1, q2, q3, q4, q5, q6]) (by simp [t9]) hR ?_
      refine AnyK.indexV (i := 3) may_o (u := strV [q0, q1, q2, q3, q4, q5, q6]) (u' := .int .i64 (0)) (v := u8V q0) (by simp [hz]) (by simp) (fun w => ix9 (k := 0) rfl w) hR ?_
      refine AnyK.bin (i := 4) may_o (u := u8V p0) (u' := u8V q0) (v := .bool true) (by simp [hz]) (by simp [hz]) (fun w => by rw [← e1]; exact eql5n p0 q0 w) hR ?_
      refine AnyK.move (i := 5) may_o (v := .bool true) (by simp [hz]) hR ?_
      refine AnyK.move (i := 6) may_o (v := strV [p0, p1, p2, p3, p4, p5, p6]) (by simp [t7]) hR (hw := (by exact wanted_g (e := 40) (b' := true) rfl (by simp [hz]) rfl)) ?_
      refine AnyK.move (i := 7) may_o (v := strV [q0, q1, q2, q3, q4, q5, q6]) (by simp [t9]) hR (hw := (by exact wanted_g (e := 40) (b' := true) rfl (by simp [hz]) rfl)) ?_
      refine AnyK.bin (i := 8) may_o (u := strV [p0, p1, p2, p3, p4, p5, p6]) (u' := strV [q0, q1, q2, q3, q4, q5, q6]) (v := .bool false) (by simp [hz]) (by simp [hz]) (fun w => by rw [← e2]; exact neq9n _ _ w) hR (hw := (by exact wanted_g (e := 40) (b' := true) rfl (by simp [hz]) rfl)) ?_
      refine AnyK.pick (i := 9) may_o (b := true) (v := .bool false) (by simp [hz]) (by simp [hz]) hR ?_
      refine AnyK.move (i := 10) may_o (v := .bool false) (by simp [hz]) hR ?_
      refine AnyK.passG (i := 11) may_o (e := 45) (b' := false) rfl (by simp [hz]) rfl hR ?_
      refine AnyK.passG (i := 12) may_o (e := 45) (b' := false) rfl (by simp [hz]) rfl hR ?_
      refine AnyK.passG (i := 13) may_o (e := 45) (b' := false) rfl (by simp [hz]) rfl hR ?_
      refine AnyK.passG (i := 14) may_o (e := 45) (b' := false) rfl (by simp [hz]) rfl hR ?_
      refine AnyK.passU (i := 15) may_o (e := 49) rfl (by simp [hz]) hR ?_
      refine AnyK.passU (i := 16) may_o (e := 49) rfl (by simp [hz]) hR ?_
      refine AnyK.passU (i := 17) may_o (e := 49) rfl (by simp [hz]) hR ?_
      refine AnyK.passU (i := 18) may_o (e := 49) rfl (by simp [hz]) hR ?_
      refine AnyK.passU (i := 19) may_o (e := 49) rfl (by simp [hz]) hR ?_
      refine AnyK.passG (i := 20) may_o (e := 45) (b' := false) rfl (by simp [hz]) rfl hR ?_
      refine AnyK.pick (i := 21) may_o (b := false) (v := .bool false) (by simp [hz]) (by simp) hR ?_
      refine AnyK.done (by kernel_rfl) ?_
      exact hQ _ _ hR (by simp only [size_put, hz]) (by simp only [defers_put, hd_a]) (by simp [t0]) (by simp [t3]) (by simp [t4]) (by simp [t6]) (by simp [t7]) (by simp [t8]) (by rw [hcf]; exact (by simp [hz]))
    · have e2 : (!decide ([p0, p1, p2, p3, p4, p5, p6] = [q0, q1, q2, q3, q4, q5, q6])) = true := by rw [decide_eq_false h2]; rfl
      by_cases h3 : p0 = 72
      · have e3 := decide_eq_true h3
        rw [e1, e2, e3] at hcf
        refine region_K (KpR (fun w : World => Below W.heap.size W w) (fun _ => false)) (wideF_plain _) (by kernel_rfl) Try.mixed ?_
        change AnyK _ _ _ _ 22 (Array.replicate 22 false) _ _
        have hR : (fun w : World => Below W.heap.size W w) W.drew := (Below.refl W.heap.size W).drew
        refine AnyK.move (i := 0) may_o (v := strV [p0, p1, p2, p3, p4, p5, p6]) (by simp [t7]) hR ?_
        refine AnyK.indexV (i := 1) may_o (u := strV [p0, p1, p2, p3, p4, p5, p6]) (u' := .int .i64 (0)) (v := u8V p0) (by simp [hz]) (by simp) (fun w => ix9 (k := 0) rfl w) hR ?_
        refine AnyK.move (i := 2) may_o (v := strV [q0, q1, q2, q3, q4, q5, q6]) (by simp [t9]) hR ?_
        refine AnyK.indexV (i := 3) may_o (u := strV [q0, q1, q2, q3, q4, q5, q6]) (u' := .int .i64 (0)) (v := u8V q0) (by simp [hz]) (by simp) (fun w => ix9 (k := 0) rfl w) hR ?_
        refine AnyK.bin (i := 4) may_o (u := u8V p0) (u' := u8V q0) (v := .bool true) (by simp [hz]) (by simp [hz]) (fun w => by rw [← e1]; exact eql5n p0 q0 w) hR ?_
        refine AnyK.move (i := 5) may_o (v := .bool true) (by simp [hz]) hR ?_
        refine AnyK.move (i := 6) may_o (v := strV [p0, p1, p2, p3, p4, p5, p6]) (by simp [t7]) hR (hw := (by exact wanted_g (e := 40) (b' := true) rfl (by simp [hz]) rfl)) ?_
        refine AnyK.move (i := 7) may_o (v := strV [q0, q1, q2, q3, q4, q5, q6]) (by simp [t9]) hR (hw := (by exact wanted_g (e := 40) (b' := true) rfl (by simp [hz]) rfl)) ?_
        refine AnyK.bin (i := 8) may_o (u := strV [p0, p1, p2, p3, p4, p5, p6]) (u' := strV [q0, q1, q2, q3, q4, q5, q6]) (v := .bool true) (by simp [hz]) (by simp [hz]) (fun w => by rw [← e2]; exact neq9n _ _ w) hR (hw := (by exact wanted_g (e := 40) (b' := true) rfl (by simp [hz]) rfl)) ?_
        refine AnyK.pick (i := 9) may_o (b := true) (v := .bool true) (by simp [hz]) (by simp [hz]) hR ?_
        refine AnyK.move (i := 10) may_o (v := .bool true) (by simp [hz]) hR ?_
        refine AnyK.move (i := 11) may_o (v := strV [p0, p1, p2, p3, p4, p5, p6]) (by simp [t7]) hR (hw := (by exact wanted_g (e := 45) (b' := true) rfl (by simp [hz]) rfl)) ?_
        refine AnyK.indexV (i := 12) may_o (u := strV [p0, p1, p2, p3, p4, p5, p6]) (u' := .int .i64 (0)) (v := u8V p0) (by simp [hz]) (by simp) (fun w => ix9 (k := 0) rfl w) hR (hw := (by exact wanted_g (e := 45) (b' := true) rfl (by simp [hz]) rfl)) ?_
        refine AnyK.bin (i := 13) may_o (u := u8V p0) (u' := .int .u8 72) (v := .bool true) (by simp [hz]) (by simp) (fun w => by rw [← e3]; exact eql5n p0 72 w) hR (hw := (by exact wanted_g (e := 45) (b' := true) rfl (by simp [hz]) rfl)) ?_
        refine AnyK.move (i := 14) may_o (v := .bool true) (by simp [hz]) hR (hw := (by exact wanted_g (e := 45) (b' := true) rfl (by simp [hz]) rfl)) ?_
        refine AnyK.passG (i := 15) may_o (e := 49) (b' := true) rfl (by simp [hz]) rfl hR ?_
        refine AnyK.passG (i := 16) may_o (e := 49) (b' := true) rfl (by simp [hz]) rfl hR ?_
        refine AnyK.passG (i := 17) may_o (e := 49) (b' := true) rfl (by simp [hz]) rfl hR ?_
        refine AnyK.passG (i := 18) may_o (e := 49) (b' := true) rfl (by simp [hz]) rfl hR ?_
        refine AnyK.passG (i := 19) may_o (e := 49) (b' := true) rfl (by simp [hz]) rfl hR ?_
        refine AnyK.pick (i := 20) may_o (b := true) (v := .bool true) (by simp [hz]) (by simp) hR (hw := (by exact wanted_g (e := 45) (b' := true) rfl (by simp [hz]) rfl)) ?_
        refine AnyK.pick (i := 21) may_o (b := true) (v := .bool true) (by simp [hz]) (by simp [hz]) hR ?_
        refine AnyK.done (by kernel_rfl) ?_
        exact hQ _ _ hR (by simp only [size_put, hz]) (by simp only [defers_put, hd_a]) (by simp [t0]) (by simp [t3]) (by simp [t4]) (by simp [t6]) (by simp [t7]) (by simp [t8]) (by rw [hcf]; exact (by simp [hz]))
      · have e3 := decide_eq_false h3
        rw [e1, e2, e3, Bool.true_and, Bool.true_and, Bool.false_or] at hcf
        refine region_K (KpR (fun w : World => Below W.heap.size W w) (fun _ => false)) (wideF_plain _) (by kernel_rfl) Try.mixed ?_
        change AnyK _ _ _ _ 22 (Array.replicate 22 false) _ _
        have hR : (fun w : World => Below W.heap.size W w) W.drew := (Below.refl W.heap.size W).drew
        refine AnyK.move (i := 0) may_o (v := strV [p0, p1, p2, p3, p4, p5, p6]) (by simp [t7]) hR ?_
        refine AnyK.indexV (i := 1) may_o (u := strV [p0, p1, p2, p3, p4, p5, p6]) (u' := .int .i64 (0)) (v := u8V p0) (by simp [hz]) (by simp) (fun w => ix9 (k := 0) rfl w) hR ?_
        refine AnyK.move (i := 2) may_o (v := strV [q0, q1, q2, q3, q4, q5, q6]) (by simp [t9]) hR ?_
        refine AnyK.indexV (i := 3) may_o (u := strV [q0, q1, q2, q3, q4, q5, q6]) (u' := .int .i64 (0)) (v := u8V q0) (by simp [hz]) (by simp) (fun w => ix9 (k := 0) rfl w) hR ?_
        refine AnyK.bin (i := 4) may_o (u := u8V p0) (u' := u8V q0) (v := .bool true) (by simp [hz]) (by simp [hz]) (fun w => by rw [← e1]; exact eql5n p0 q0 w) hR ?_
        refine AnyK.move (i := 5) may_o (v := .bool true) (by simp [hz]) hR ?_
        refine AnyK.move (i := 6) may_o (v := strV [p0, p1, p2, p3, p4, p5, p6]) (by simp [t7]) hR (hw := (by exact wanted_g (e := 40) (b' := true) rfl (by simp [hz]) rfl)) ?_
        refine AnyK.move (i := 7) may_o (v := strV [q0, q1, q2, q3, q4, q5, q6]) (by simp [t9]) hR (hw := (by exact wanted_g (e := 40) (b' := true) rfl (by simp [hz]) rfl)) ?_
        refine AnyK.bin (i := 8) may_o (u := strV [p0, p1, p2, p3, p4, p5, p6]) (u' := strV [q0, q1, q2, q3, q4, q5, q6]) (v := .bool true) (by simp [hz]) (by simp [hz]) (fun w => by rw [← e2]; exact neq9n _ _ w) hR (hw := (by exact wanted_g (e := 40) (b' := true) rfl (by simp [hz]) rfl)) ?_
        refine AnyK.pick (i := 9) may_o (b := true) (v := .bool true) (by simp [hz]) (by simp [hz]) hR ?_
        refine AnyK.move (i := 10) may_o (v := .bool true) (by simp [hz]) hR ?_
        refine AnyK.move (i := 11) may_o (v := strV [p0, p1, p2, p3, p4, p5, p6]) (by simp [t7]) hR (hw := (by exact wanted_g (e := 45) (b' := true) rfl (by simp [hz]) rfl)) ?_
        refine AnyK.indexV (i := 12) may_o (u := strV [p0, p1, p2, p3, p4, p5, p6]) (u' := .int .i64 (0)) (v := u8V p0) (by simp [hz]) (by simp) (fun w => ix9 (k := 0) rfl w) hR (hw := (by exact wanted_g (e := 45) (b' := true) rfl (by simp [hz]) rfl)) ?_
        refine AnyK.bin (i := 13) may_o (u := u8V p0) (u' := .int .u8 72) (v := .bool false) (by simp [hz]) (by simp) (fun w => by rw [← e3]; exact eql5n p0 72 w) hR (hw := (by exact wanted_g (e := 45) (b' := true) rfl (by simp [hz]) rfl)) ?_
        refine AnyK.move (i := 14) may_o (v := .bool false) (by simp [hz]) hR (hw := (by exact wanted_g (e := 45) (b' := true) rfl (by simp [hz]) rfl)) ?_
        refine AnyK.move (i := 15) may_o (v := strV [p0, p1, p2, p3, p4, p5, p6]) (by simp [t7]) hR (hw := (by exact wanted_g (e := 49) (b' := false) rfl (by simp [hz]) rfl)) ?_
        refine AnyK.sliceH (i := 16) may_o (u := strV [p0, p1, p2, p3, p4, p5, p6]) (u' := .int .i64 (3)) (v := strV ([p0, p1, p2, p3, p4, p5, p6].take 3)) (by simp [hz]) (by simp) (fun w => sl9H (l := [p0, p1, p2, p3, p4, p5, p6]) (a := 3) (by simp) w) hR (hw := (by exact wanted_g (e := 49) (b' := false) rfl (by simp [hz]) rfl)) ?_
        refine AnyK.move (i := 17) may_o (v := strV [q0, q1, q2, q3, q4, q5, q6]) (by simp [t9]) hR (hw := (by exact wanted_g (e := 49) (b' := false) rfl (by simp [hz]) rfl)) ?_
        refine AnyK.sliceH (i := 18) may_o (u := strV [q0, q1, q2, q3, q4, q5, q6]) (u' := .int .i64 (3)) (v := strV ([q0, q1, q2, q3, q4, q5, q6].take 3)) (by simp [hz]) (by simp) (fun w => sl9H (l := [q0, q1, q2, q3, q4, q5, q6]) (a := 3) (by simp) w) hR (hw := (by exact wanted_g (e := 49) (b' := false) rfl (by simp [hz]) rfl)) ?_
        refine AnyK.bin (i := 19) may_o (u := strV ([p0, p1, p2, p3, p4, p5, p6].take 3)) (u' := strV ([q0, q1, q2, q3, q4, q5, q6].take 3)) (v := .bool (decide ([p0, p1, p2, p3, p4, p5, p6].take 3 = [q0, q1, q2, q3, q4, q5, q6].take 3))) (by simp [hz]) (by simp [hz]) (fun w => eql9n _ _ w) hR (hw := (by exact wanted_g (e := 49) (b' := false) rfl (by simp [hz]) rfl)) ?_
        refine AnyK.pick (i := 20) may_o (b := false) (v := .bool (decide ([p0, p1, p2, p3, p4, p5, p6].take 3 = [q0, q1, q2, q3, q4, q5, q6].take 3))) (by simp [hz]) (by simp [hz]) hR (hw := (by exact wanted_g (e := 45) (b' := true) rfl (by simp [hz]) rfl)) ?_
        refine AnyK.pick (i := 21) may_o (b := true) (v := .bool (decide ([p0, p1, p2, p3, p4, p5, p6].take 3 = [q0, q1, q2, q3, q4, q5, q6].take 3))) (by simp [hz]) (by simp [hz]) hR ?_
        refine AnyK.done (by kernel_rfl) ?_
        exact hQ _ _ hR (by simp only [size_put, hz]) (by simp only [defers_put, hd_a]) (by simp [t0]) (by simp [t3]) (by simp [t4]) (by simp [t6]) (by simp [t7]) (by simp [t8]) (by rw [hcf]; exact (by simp [hz]))
  · have e1 := decide_eq_false h1
    rw [e1] at hcf
    refine region_K (KpR (fun w : World => Below W.heap.size W w) (fun _ => false)) (wideF_plain _) (by kernel_rfl) Try.mixed ?_
    change AnyK _ _ _ _ 22 (Array.replicate 22 false) _ _
    have hR : (fun w : World => Below W.heap.size W w) W.drew := (Below.refl W.heap.size W).drew
    refine AnyK.move (i := 0) may_o (v := strV [p0, p1, p2, p3, p4, p5, p6]) (by simp [t7]) hR ?_
    refine AnyK.indexV (i := 1) may_o (u := strV [p0, p1, p2, p3, p4, p5, p6]) (u' := .int .i64 (0)) (v := u8V p0) (by simp [hz]) (by simp) (fun w => ix9 (k := 0) rfl w) hR ?_
    refine AnyK.move (i := 2) may_o (v := strV [q0, q1, q2, q3, q4, q5, q6]) (by simp [t9]) hR ?_
    refine AnyK.indexV (i := 3) may_o (u := strV [q0, q1, q2, q3, q4, q5, q6]) (u' := .int .i64 (0)) (v := u8V q0) (by simp [hz]) (by simp) (fun w => ix9 (k := 0) rfl w) hR ?_
    refine AnyK.bin (i := 4) may_o (u := u8V p0) (u' := u8V q0) (v := .bool false) (by simp [hz]) (by simp [hz]) (fun w => by rw [← e1]; exact eql5n p0 q0 w) hR ?_
    refine AnyK.move (i := 5) may_o (v := .bool false) (by simp [hz]) hR ?_
    refine AnyK.passG (i := 6) may_o (e := 40) (b' := false) rfl (by simp [hz]) rfl hR ?_
    refine AnyK.passG (i := 7) may_o (e := 40) (b' := false) rfl (by simp [hz]) rfl hR ?_
    refine AnyK.passG (i := 8) may_o (e := 40) (b' := false) rfl (by simp [hz]) rfl hR ?_
    refine AnyK.pick (i := 9) may_o (b := false) (v := .bool false) (by simp [hz]) (by simp) hR ?_
    refine AnyK.move (i := 10) may_o (v := .bool false) (by simp [hz]) hR ?_
    refine AnyK.passG (i := 11) may_o (e := 45) (b' := false) rfl (by simp [hz]) rfl hR ?_
    refine AnyK.passG (i := 12) may_o (e := 45) (b' := false) rfl (by simp [hz]) rfl hR ?_
    refine AnyK.passG (i := 13) may_o (e := 45) (b' := false) rfl (by simp [hz]) rfl hR ?_
    refine AnyK.passG (i := 14) may_o (e := 45) (b' := false) rfl (by simp [hz]) rfl hR ?_
    refine AnyK.passU (i := 15) may_o (e := 49) rfl (by simp [hz]) hR ?_
    refine AnyK.passU (i := 16) may_o (e := 49) rfl (by simp [hz]) hR ?_
    refine AnyK.passU (i := 17) may_o (e := 49) rfl (by simp [hz]) hR ?_
    refine AnyK.passU (i := 18) may_o (e := 49) rfl (by simp [hz]) hR ?_
    refine AnyK.passU (i := 19) may_o (e := 49) rfl (by simp [hz]) hR ?_
    refine AnyK.passG (i := 20) may_o (e := 45) (b' := false) rfl (by simp [hz]) rfl hR ?_
    refine AnyK.pick (i := 21) may_o (b := false) (v := .bool false) (by simp [hz]) (by simp) hR ?_
    refine AnyK.done (by kernel_rfl) ?_
    exact hQ _ _ hR (by simp only [size_put, hz]) (by simp only [defers_put, hd_a]) (by simp [t0]) (by simp [t3]) (by simp [t4]) (by simp [t6]) (by simp [t7]) (by simp [t8]) (by rw [hcf]; exact (by simp [hz]))
set_option maxHeartbeats 400000 in
theorem co_12_any {a : Act} {W : World} {Q : Exit → Act → World → Prop} (hH : 0 < H.many → HeadB H) (h0 : p0 = 72 ∨ p0 = 82 ∨ p0 = 80)
    (hz : a.tmps.size = 83) (hd_a : a.defers = []) (t0 : a.eval (.tmp 0) = .slice A n c) (t3 : a.eval (.tmp 3) = .int .i64 (H.many : Int)) (t4 : a.eval (.tmp 4) = .int .i64 (H.width : Int)) (t6 : a.eval (.tmp 6) = .int .i64 (i : Int)) (t7 : a.eval (.tmp 7) = strV [p0, p1, p2, p3, p4, p5, p6])
    (hQ : ∀ (b : Act) (W' : World), Below W.heap.size W W' → b.tmps.size = 83 → b.defers = [] → b.eval (.tmp 0) = .slice A n c → b.eval (.tmp 3) = .int .i64 (H.many : Int) → b.eval (.tmp 4) = .int .i64 (H.width : Int) → b.eval (.tmp 6) = .int .i64 (i : Int) → b.eval (.tmp 82) = .bool (pastG H [p0, p1, p2, p3, p4, p5, p6]) → Q .normal b W') :
    (Code.region 12 opsCo12 false).wpIn Fence.wide 5 Try.prog Q a W := by
  by_cases hm : 0 < H.many
  · have hh := hH hm
    have hm1 := hh.many
    have hw1 := hh.width
    have hpg : pastG H [p0, p1, p2, p3, p4, p5, p6] = outOf H [p0, p1, p2, p3, p4, p5, p6] := by unfold pastG; rw [decide_eq_true hm]; rfl
    rcases h0 with h0 | h0 | h0
    · have e1 : decide (p0 = 82) = false := by rw [h0]; rfl
      have e2 : decide (p0 = 80) = false := by rw [h0]; rfl
      have hv : pastG H [p0, p1, p2, p3, p4, p5, p6] = false := by rw [hpg, outOf_of (nm := (72, 0)) (by simp [nameOf, h0])]; rfl
      refine region_p 26 ?_
      intro K hK
      refine ListK.move (i := 0) (v := .int .i64 (H.many : Int)) rfl (by simp [t3]) ?_
      refine ListK.bin (i := 1) (u := .int .i64 (H.many : Int)) (u' := .int .i64 0) (v := .bool true) rfl (by simp [hz]) (by simp) (gtrT3 (by omega) _) ?_
      refine ListK.move (i := 2) (v := .bool true) rfl (by simp [hz]) ?_
      refine ListK.move (i := 3) (v := strV [p0, p1, p2, p3, p4, p5, p6]) rfl (by simp [t7]) ?_ (hw := wanted_g (e := 59) (b' := true) rfl (by simp [hz]) rfl)
      refine ListK.indexVW (i := 4) (u := strV [p0, p1, p2, p3, p4, p5, p6]) (u' := .int .i64 0) (v := u8V p0) rfl (by simp [hz]) (by simp) (ix9 (k := 0) rfl _) ?_ (hw := wanted_g (e := 59) (b' := true) rfl (by simp [hz]) rfl)
      refine ListK.bin (i := 5) (u := u8V p0) (u' := .int .u8 82) (v := .bool false) rfl (by simp [hz]) (by simp) (by rw [← e1]; exact eql5n p0 82 _) ?_ (hw := wanted_g (e := 59) (b' := true) rfl (by simp [hz]) rfl)
      refine ListK.move (i := 6) (v := .bool false) rfl (by simp [hz]) ?_ (hw := wanted_g (e := 59) (b' := true) rfl (by simp [hz]) rfl)
      refine ListK.passG (i := 7) (e := 63) (b' := false) rfl rfl (by simp [hz]) rfl ?_
      refine ListK.passG (i := 8) (e := 63) (b' := false) rfl rfl (by simp [hz]) rfl ?_
      refine ListK.passG (i := 9) (e := 63) (b' := false) rfl rfl (by simp [hz]) rfl ?_
      refine ListK.passG (i := 10) (e := 63) (b' := false) rfl rfl (by simp [hz]) rfl ?_
      refine ListK.pickW (i := 11) (b := false) (v := .bool false) rfl (by simp [hz]) (by simp) ?_ (hw := wanted_g (e := 59) (b' := true) rfl (by simp [hz]) rfl)
      refine ListK.move (i := 12) (v := .bool false) rfl (by simp [hz]) ?_ (hw := wanted_g (e := 59) (b' := true) rfl (by simp [hz]) rfl)
      refine ListK.move (i := 13) (v := strV [p0, p1, p2, p3, p4, p5, p6]) rfl (by simp [t7]) ?_ (hw := wanted_g (e := 69) (b' := false) rfl (by simp [hz]) rfl)
      refine ListK.indexVW (i := 14) (u := strV [p0, p1, p2, p3, p4, p5, p6]) (u' := .int .i64 0) (v := u8V p0) rfl (by simp [hz]) (by simp) (ix9 (k := 0) rfl _) ?_ (hw := wanted_g (e := 69) (b' := false) rfl (by simp [hz]) rfl)
      refine ListK.bin (i := 15) (u := u8V p0) (u' := .int .u8 80) (v := .bool false) rfl (by simp [hz]) (by simp) (by rw [← e2]; exact eql5n p0 80 _) ?_ (hw := wanted_g (e := 69) (b' := false) rfl (by simp [hz]) rfl)
      refine ListK.move (i := 16) (v := .bool false) rfl (by simp [hz]) ?_ (hw := wanted_g (e := 69) (b' := false) rfl (by simp [hz]) rfl)
      refine ListK.passG (i := 17) (e := 73) (b' := false) rfl rfl (by simp [hz]) rfl ?_
      refine ListK.passG (i := 18) (e := 73) (b' := false) rfl rfl (by simp [hz]) rfl ?_
      refine ListK.passG (i := 19) (e := 73) (b' := false) rfl rfl (by simp [hz]) rfl ?_
      refine ListK.passG (i := 20) (e := 73) (b' := false) rfl rfl (by simp [hz]) rfl ?_
      refine ListK.passG (i := 21) (e := 73) (b' := false) rfl rfl (by simp [hz]) rfl ?_
      refine ListK.passG (i := 22) (e := 73) (b' := false) rfl rfl (by simp [hz]) rfl ?_
      refine ListK.pickW (i := 23) (b := false) (v := .bool false) rfl (by simp [hz]) (by simp) ?_ (hw := wanted_g (e := 69) (b' := false) rfl (by simp [hz]) rfl)
      refine ListK.pickW (i := 24) (b := false) (v := .bool false) rfl (by simp [hz]) (by simp [hz]) ?_ (hw := wanted_g (e := 59) (b' := true) rfl (by simp [hz]) rfl)
      refine ListK.pick (i := 25) (b := true) (v := .bool false) rfl (by simp [hz]) (by simp [hz]) ?_
      refine ListK.done (hK _ _ ?_)
      clear hK K
      exact hQ _ _ (Below.refl _ _) (by simp only [size_put, hz]) (by simp only [defers_put, hd_a]) (by simp [t0]) (by simp [t3]) (by simp [t4]) (by simp [t6]) (by rw [hv]; exact (by simp [hz]))
    · have e1 : decide (p0 = 82) = true := by rw [h0]; rfl
      have e2 : decide (p0 = 80) = false := by rw [h0]; rfl
      have hv : pastG H [p0, p1, p2, p3, p4, p5, p6] = decide (H.many ≤ num2 p1 p2) := by rw [hpg, outOf_of (nm := (82, num2 p1 p2)) (by simp [nameOf, h0])]; simp
      by_cases hge : H.many ≤ num2 p1 p2
      · rw [decide_eq_true hge] at hv
        refine region_p 26 ?_
        intro K hK
        refine ListK.move (i := 0) (v := .int .i64 (H.many : Int)) rfl (by simp [t3]) ?_
        refine ListK.bin (i := 1) (u := .int .i64 (H.many : Int)) (u' := .int .i64 0) (v := .bool true) rfl (by simp [hz]) (by simp) (gtrT3 (by omega) _) ?_
        refine ListK.move (i := 2) (v := .bool true) rfl (by simp [hz]) ?_
        refine ListK.move (i := 3) (v := strV [p0, p1, p2, p3, p4, p5, p6]) rfl (by simp [t7]) ?_ (hw := wanted_g (e := 59) (b' := true) rfl (by simp [hz]) rfl)
        refine ListK.indexVW (i := 4) (u := strV [p0, p1, p2, p3, p4, p5, p6]) (u' := .int .i64 0) (v := u8V p0) rfl (by simp [hz]) (by simp) (ix9 (k := 0) rfl _) ?_ (hw := wanted_g (e := 59) (b' := true) rfl (by simp [hz]) rfl)
        refine ListK.bin (i := 5) (u := u8V p0) (u' := .int .u8 82) (v := .bool true) rfl (by simp [hz]) (by simp) (by rw [← e1]; exact eql5n p0 82 _) ?_ (hw := wanted_g (e := 59) (b' := true) rfl (by simp [hz]) rfl)
        refine ListK.move (i := 6) (v := .bool true) rfl (by simp [hz]) ?_ (hw := wanted_g (e := 59) (b' := true) rfl (by simp [hz]) rfl)
        refine ListK.move (i := 7) (v := strV [p0, p1, p2, p3, p4, p5, p6]) rfl (by simp [t7]) ?_ (hw := wanted_g (e := 63) (b' := true) rfl (by simp [hz]) rfl)
        refine ListK.call (i := 8) (vs := #[strV [p0, p1, p2, p3, p4, p5, p6], .int .i64 1]) rfl (enters_of Try.func65 (by kernel_rfl) rfl) (by simp [hz]) ((num_any [p0, p1, p2, p3, p4, p5, p6] 1 p1 p2 rfl rfl (by omega) W).mono ?_) (hw := wanted_g (e := 63) (b' := true) rfl (by simp [hz]) rfl)
        rintro _ W2 ⟨rfl, hb2⟩
        refine ⟨_, rfl, ?_⟩
        refine ListK.move (i := 9) (v := .int .i64 (H.many : Int)) rfl (by simp [t3]) ?_ (hw := wanted_g (e := 63) (b' := true) rfl (by simp [hz]) rfl)
        refine ListK.bin (i := 10) (u := .int .i64 (num2 p1 p2 : Int)) (u' := .int .i64 (H.many : Int)) (v := .bool true) rfl (by simp [hz]) (by simp [hz]) (geqT (by omega) _) ?_ (hw := wanted_g (e := 63) (b' := true) rfl (by simp [hz]) rfl)
        refine ListK.pickW (i := 11) (b := true) (v := .bool true) rfl (by simp [hz]) (by simp [hz]) ?_ (hw := wanted_g (e := 59) (b' := true) rfl (by simp [hz]) rfl)
        refine ListK.move (i := 12) (v := .bool true) rfl (by simp [hz]) ?_ (hw := wanted_g (e := 59) (b' := true) rfl (by simp [hz]) rfl)
        refine ListK.passG (i := 13) (e := 69) (b' := true) rfl rfl (by simp [hz]) rfl ?_
        refine ListK.passG (i := 14) (e := 69) (b' := true) rfl rfl (by simp [hz]) rfl ?_
        refine ListK.passG (i := 15) (e := 69) (b' := true) rfl rfl (by simp [hz]) rfl ?_
        refine ListK.passG (i := 16) (e := 69) (b' := true) rfl rfl (by simp [hz]) rfl ?_
        refine ListK.passU (i := 17) (e := 73) rfl rfl (by simp [hz]) ?_
        refine ListK.passU (i := 18) (e := 73) rfl rfl (by simp [hz]) ?_
        refine ListK.passU (i := 19) (e := 73) rfl rfl (by simp [hz]) ?_
        refine ListK.passU (i := 20) (e := 73) rfl rfl (by simp [hz]) ?_
        refine ListK.passU (i := 21) (e := 73) rfl rfl (by simp [hz]) ?_
        refine ListK.passU (i := 22) (e := 73) rfl rfl (by simp [hz]) ?_
        refine ListK.passG (i := 23) (e := 69) (b' := true) rfl rfl (by simp [hz]) rfl ?_
        refine ListK.pickW (i := 24) (b := true) (v := .bool true) rfl (by simp [hz]) (by simp) ?_ (hw := wanted_g (e := 59) (b' := true) rfl (by simp [hz]) rfl)
        refine ListK.pick (i := 25) (b := true) (v := .bool true) rfl (by simp [hz]) (by simp [hz]) ?_
        refine ListK.done (hK _ _ ?_)
        clear hK K
        exact hQ _ _ hb2 (by simp only [size_put, hz]) (by simp only [defers_put, hd_a]) (by simp [t0]) (by simp [t3]) (by simp [t4]) (by simp [t6]) (by rw [hv]; exact (by simp [hz]))
      · rw [decide_eq_false hge] at hv
        refine region_p 26 ?_
        intro K hK
        refine ListK.move (i := 0) (v := .int .i64 (H.many : Int)) rfl (by simp [t3]) ?_
        refine ListK.bin (i := 1) (u := .int .i64 (H.many : Int)) (u' := .int .i64 0) (v := .bool true) rfl (by simp [hz]) (by simp) (gtrT3 (by omega) _) ?_
        refine ListK.move (i := 2) (v := .bool true) rfl (by simp [hz]) ?_
        refine ListK.move (i := 3) (v := strV [p0, p1, p2, p3, p4, p5, p6]) rfl (by simp [t7]) ?_ (hw := wanted_g (e := 59) (b' := true) rfl (by simp [hz]) rfl)
        refine ListK.indexVW (i := 4) (u := strV [p0, p1, p2, p3, p4, p5, p6]) (u' := .int .i64 0) (v := u8V p0) rfl (by simp [hz]) (by simp) (ix9 (k := 0) rfl _) ?_ (hw := wanted_g (e := 59) (b' := true) rfl (by simp [hz]) rfl)
        refine ListK.bin (i := 5) (u := u8V p0) (u' := .int .u8 82) (v := .bool true) rfl (by simp [hz]) (by simp) (by rw [← e1]; exact eql5n p0 82 _) ?_ (hw := wanted_g (e := 59) (b' := true) rfl (by simp [hz]) rfl)
        refine ListK.move (i := 6) (v := .bool true) rfl (by simp [hz]) ?_ (hw := wanted_g (e := 59) (b' := true) rfl (by simp [hz]) rfl)
        refine ListK.move (i := 7) (v := strV [p0, p1, p2, p3, p4, p5, p6]) rfl (by simp [t7]) ?_ (hw := wanted_g (e := 63) (b' := true) rfl (by simp [hz]) rfl)
        refine ListK.call (i := 8) (vs := #[strV [p0, p1, p2, p3, p4, p5, p6], .int .i64 1]) rfl (enters_of Try.func65 (by kernel_rfl) rfl) (by simp [hz]) ((num_any [p0, p1, p2, p3, p4, p5, p6] 1 p1 p2 rfl rfl (by omega) W).mono ?_) (hw := wanted_g (e := 63) (b' := true) rfl (by simp [hz]) rfl)
        rintro _ W2 ⟨rfl, hb2⟩
        refine ⟨_, rfl, ?_⟩
        refine ListK.move (i := 9) (v := .int .i64 (H.many : Int)) rfl (by simp [t3]) ?_ (hw := wanted_g (e := 63) (b' := true) rfl (by simp [hz]) rfl)
        refine ListK.bin (i := 10) (u := .int .i64 (num2 p1 p2 : Int)) (u' := .int .i64 (H.many : Int)) (v := .bool false) rfl (by simp [hz]) (by simp [hz]) (geqF (by omega) _) ?_ (hw := wanted_g (e := 63) (b' := true) rfl (by simp [hz]) rfl)
        refine ListK.pickW (i := 11) (b := true) (v := .bool false) rfl (by simp [hz]) (by simp [hz]) ?_ (hw := wanted_g (e := 59) (b' := true) rfl (by simp [hz]) rfl)
        refine ListK.move (i := 12) (v := .bool false) rfl (by simp [hz]) ?_ (hw := wanted_g (e := 59) (b' := true) rfl (by simp [hz]) rfl)
        refine ListK.move (i := 13) (v := strV [p0, p1, p2, p3, p4, p5, p6]) rfl (by simp [t7]) ?_ (hw := wanted_g (e := 69) (b' := false) rfl (by simp [hz]) rfl)
        refine ListK.indexVW (i := 14) (u := strV [p0, p1, p2, p3, p4, p5, p6]) (u' := .int .i64 0) (v := u8V p0) rfl (by simp [hz]) (by simp) (ix9 (k := 0) rfl _) ?_ (hw := wanted_g (e := 69) (b' := false) rfl (by simp [hz]) rfl)
        refine ListK.bin (i := 15) (u := u8V p0) (u' := .int .u8 80) (v := .bool false) rfl (by simp [hz]) (by simp) (by rw [← e2]; exact eql5n p0 80 _) ?_ (hw := wanted_g (e := 69) (b' := false) rfl (by simp [hz]) rfl)
        refine ListK.move (i := 16) (v := .bool false) rfl (by simp [hz]) ?_ (hw := wanted_g (e := 69) (b' := false) rfl (by simp [hz]) rfl)
        refine ListK.passG (i := 17) (e := 73) (b' := false) rfl rfl (by simp [hz]) rfl ?_
        refine ListK.passG (i := 18) (e := 73) (b' := false) rfl rfl (by simp [hz]) rfl ?_
        refine ListK.passG (i := 19) (e := 73) (b' := false) rfl rfl (by simp [hz]) rfl ?_
        refine ListK.passG (i := 20) (e := 73) (b' := false) rfl rfl (by simp [hz]) rfl ?_
        refine ListK.passG (i := 21) (e := 73) (b' := false) rfl rfl (by simp [hz]) rfl ?_
        refine ListK.passG (i := 22) (e := 73) (b' := false) rfl rfl (by simp [hz]) rfl ?_
        refine ListK.pickW (i := 23) (b := false) (v := .bool false) rfl (by simp [hz]) (by simp) ?_ (hw := wanted_g (e := 69) (b' := false) rfl (by simp [hz]) rfl)
        refine ListK.pickW (i := 24) (b := false) (v := .bool false) rfl (by simp [hz]) (by simp [hz]) ?_ (hw := wanted_g (e := 59) (b' := true) rfl (by simp [hz]) rfl)
        refine ListK.pick (i := 25) (b := true) (v := .bool false) rfl (by simp [hz]) (by simp [hz]) ?_
        refine ListK.done (hK _ _ ?_)
        clear hK K
        exact hQ _ _ hb2 (by simp only [size_put, hz]) (by simp only [defers_put, hd_a]) (by simp [t0]) (by simp [t3]) (by simp [t4]) (by simp [t6]) (by rw [hv]; exact (by simp [hz]))
    · have e1 : decide (p0 = 82) = false := by rw [h0]; rfl
      have e2 : decide (p0 = 80) = true := by rw [h0]; rfl
      have hv : pastG H [p0, p1, p2, p3, p4, p5, p6] = decide (((H.many + H.width - 1) / H.width : Nat) ≤ num2 p1 p2) := by rw [hpg, outOf_of (nm := (80, num2 p1 p2)) (by simp [nameOf, h0])]; unfold Head.blocks; simp
      have hv2 : decide ((((H.many + H.width - 1) / H.width : Nat) : Int) ≤ (num2 p1 p2 : Int)) = decide (((H.many + H.width - 1) / H.width : Nat) ≤ num2 p1 p2) := decide_eq_decide.2 (by omega)
      rw [← hv2] at hv
      obtain ⟨bl, hbl⟩ : ∃ bl, (H.many + H.width - 1) / H.width = bl := ⟨_, rfl⟩
      rw [hbl] at hv
      refine region_p 26 ?_
      intro K hK
      refine ListK.move (i := 0) (v := .int .i64 (H.many : Int)) rfl (by simp [t3]) ?_
      refine ListK.bin (i := 1) (u := .int .i64 (H.many : Int)) (u' := .int .i64 0) (v := .bool true) rfl (by simp [hz]) (by simp) (gtrT3 (by omega) _) ?_
      refine ListK.move (i := 2) (v := .bool true) rfl (by simp [hz]) ?_
      refine ListK.move (i := 3) (v := strV [p0, p1, p2, p3, p4, p5, p6]) rfl (by simp [t7]) ?_ (hw := wanted_g (e := 59) (b' := true) rfl (by simp [hz]) rfl)
      refine ListK.indexVW (i := 4) (u := strV [p0, p1, p2, p3, p4, p5, p6]) (u' := .int .i64 0) (v := u8V p0) rfl (by simp [hz]) (by simp) (ix9 (k := 0) rfl _) ?_ (hw := wanted_g (e := 59) (b' := true) rfl (by simp [hz]) rfl)
      refine ListK.bin (i := 5) (u := u8V p0) (u' := .int .u8 82) (v := .bool false) rfl (by simp [hz]) (by simp) (by rw [← e1]; exact eql5n p0 82 _) ?_ (hw := wanted_g (e := 59) (b' := true) rfl (by simp [hz]) rfl)
      refine ListK.move (i := 6) (v := .bool false) rfl (by simp [hz]) ?_ (hw := wanted_g (e := 59) (b' := true) rfl (by simp [hz]) rfl)
      refine ListK.passG (i := 7) (e := 63) (b' := false) rfl rfl (by simp [hz]) rfl ?_
      refine ListK.passG (i := 8) (e := 63) (b' := false) rfl rfl (by simp [hz]) rfl ?_
      refine ListK.passG (i := 9) (e := 63) (b' := false) rfl rfl (by simp [hz]) rfl ?_
      refine ListK.passG (i := 10) (e := 63) (b' := false) rfl rfl (by simp [hz]) rfl ?_
      refine ListK.pickW (i := 11) (b := false) (v := .bool false) rfl (by simp [hz]) (by simp) ?_ (hw := wanted_g (e := 59) (b' := true) rfl (by simp [hz]) rfl)
      refine ListK.move (i := 12) (v := .bool false) rfl (by simp [hz]) ?_ (hw := wanted_g (e := 59) (b' := true) rfl (by simp [hz]) rfl)
      refine ListK.move (i := 13) (v := strV [p0, p1, p2, p3, p4, p5, p6]) rfl (by simp [t7]) ?_ (hw := wanted_g (e := 69) (b' := false) rfl (by simp [hz]) rfl)
      refine ListK.indexVW (i := 14) (u := strV [p0, p1, p2, p3, p4, p5, p6]) (u' := .int .i64 0) (v := u8V p0) rfl (by simp [hz]) (by simp) (ix9 (k := 0) rfl _) ?_ (hw := wanted_g (e := 69) (b' := false) rfl (by simp [hz]) rfl)
      refine ListK.bin (i := 15) (u := u8V p0) (u' := .int .u8 80) (v := .bool true) rfl (by simp [hz]) (by simp) (by rw [← e2]; exact eql5n p0 80 _) ?_ (hw := wanted_g (e := 69) (b' := false) rfl (by simp [hz]) rfl)
      refine ListK.move (i := 16) (v := .bool true) rfl (by simp [hz]) ?_ (hw := wanted_g (e := 69) (b' := false) rfl (by simp [hz]) rfl)
      refine ListK.move (i := 17) (v := strV [p0, p1, p2, p3, p4, p5, p6]) rfl (by simp [t7]) ?_ (hw := wanted_g (e := 73) (b' := true) rfl (by simp [hz]) rfl)
      refine ListK.call (i := 18) (vs := #[strV [p0, p1, p2, p3, p4, p5, p6], .int .i64 1]) rfl (enters_of Try.func65 (by kernel_rfl) rfl) (by simp [hz]) ((num_any [p0, p1, p2, p3, p4, p5, p6] 1 p1 p2 rfl rfl (by omega) W).mono ?_) (hw := wanted_g (e := 73) (b' := true) rfl (by simp [hz]) rfl)
      rintro _ W2 ⟨rfl, hb2⟩
      refine ⟨_, rfl, ?_⟩
      refine ListK.move (i := 19) (v := .int .i64 (H.many : Int)) rfl (by simp [t3]) ?_ (hw := wanted_g (e := 73) (b' := true) rfl (by simp [hz]) rfl)
      refine ListK.move (i := 20) (v := .int .i64 (H.width : Int)) rfl (by simp [t4]) ?_ (hw := wanted_g (e := 73) (b' := true) rfl (by simp [hz]) rfl)
      refine ListK.call (i := 21) (vs := #[.int .i64 (H.many : Int), .int .i64 (H.width : Int)]) rfl (enters_of Try.func53 (by kernel_rfl) rfl) (by simp [hz]) ((refBlocks_any H.many H.width (by omega) (by omega) W2).mono ?_) (hw := wanted_g (e := 73) (b' := true) rfl (by simp [hz]) rfl)
      rintro _ W3 ⟨rfl, hW3⟩
      subst hW3
      rw [hbl]
      refine ⟨_, rfl, ?_⟩
      refine ListK.bin (i := 22) (u := .int .i64 (num2 p1 p2 : Int)) (u' := .int .i64 (bl : Int)) (v := .bool (decide ((bl : Int) ≤ (num2 p1 p2 : Int)))) rfl (by simp [hz]) (by simp [hz]) (geq3 _) ?_ (hw := wanted_g (e := 73) (b' := true) rfl (by simp [hz]) rfl)
      refine ListK.pickW (i := 23) (b := true) (v := .bool (decide ((bl : Int) ≤ (num2 p1 p2 : Int)))) rfl (by simp [hz]) (by simp [hz]) ?_ (hw := wanted_g (e := 69) (b' := false) rfl (by simp [hz]) rfl)
      refine ListK.pickW (i := 24) (b := false) (v := .bool (decide ((bl : Int) ≤ (num2 p1 p2 : Int)))) rfl (by simp [hz]) (by simp [hz]) ?_ (hw := wanted_g (e := 59) (b' := true) rfl (by simp [hz]) rfl)
      refine ListK.pick (i := 25) (b := true) (v := .bool (decide ((bl : Int) ≤ (num2 p1 p2 : Int)))) rfl (by simp [hz]) (by simp [hz]) ?_
      refine ListK.done (hK _ _ ?_)
      clear hK K
      exact hQ _ _ hb2 (by simp only [size_put, hz]) (by simp only [defers_put, hd_a]) (by simp [t0]) (by simp [t3]) (by simp [t4]) (by simp [t6]) (by rw [hv]; exact (by simp [hz]))
  · have hv : pastG H [p0, p1, p2, p3, p4, p5, p6] = false := by unfold pastG; rw [decide_eq_false hm]; rfl
    refine region_p 26 ?_
    intro K hK
    refine ListK.move (i := 0) (v := .int .i64 (H.many : Int)) rfl (by simp [t3]) ?_
    refine ListK.bin (i := 1) (u := .int .i64 (H.many : Int)) (u' := .int .i64 0) (v := .bool false) rfl (by simp [hz]) (by simp) (gtrF3 (by omega) _) ?_
    refine ListK.move (i := 2) (v := .bool false) rfl (by simp [hz]) ?_
    refine ListK.passG (i := 3) (e := 59) (b' := false) rfl rfl (by simp [hz]) rfl ?_
    refine ListK.passG (i := 4) (e := 59) (b' := false) rfl rfl (by simp [hz]) rfl ?_
    refine ListK.passG (i := 5) (e := 59) (b' := false) rfl rfl (by simp [hz]) rfl ?_
    refine ListK.passG (i := 6) (e := 59) (b' := false) rfl rfl (by simp [hz]) rfl ?_
    refine ListK.passU (i := 7) (e := 63) rfl rfl (by simp [hz]) ?_
    refine ListK.passU (i := 8) (e := 63) rfl rfl (by simp [hz]) ?_
    refine ListK.passU (i := 9) (e := 63) rfl rfl (by simp [hz]) ?_
    refine ListK.passU (i := 10) (e := 63) rfl rfl (by simp [hz]) ?_
    refine ListK.passG (i := 11) (e := 59) (b' := false) rfl rfl (by simp [hz]) rfl ?_
    refine ListK.passG (i := 12) (e := 59) (b' := false) rfl rfl (by simp [hz]) rfl ?_
    refine ListK.passU (i := 13) (e := 69) rfl rfl (by simp [hz]) ?_
    refine ListK.passU (i := 14) (e := 69) rfl rfl (by simp [hz]) ?_
    refine ListK.passU (i := 15) (e := 69) rfl rfl (by simp [hz]) ?_
    refine ListK.passU (i := 16) (e := 69) rfl rfl (by simp [hz]) ?_
    refine ListK.passU (i := 17) (e := 73) rfl rfl (by simp [hz]) ?_
    refine ListK.passU (i := 18) (e := 73) rfl rfl (by simp [hz]) ?_
    refine ListK.passU (i := 19) (e := 73) rfl rfl (by simp [hz]) ?_
    refine ListK.passU (i := 20) (e := 73) rfl rfl (by simp [hz]) ?_
    refine ListK.passU (i := 21) (e := 73) rfl rfl (by simp [hz]) ?_
    refine ListK.passU (i := 22) (e := 73) rfl rfl (by simp [hz]) ?_
    refine ListK.passU (i := 23) (e := 69) rfl rfl (by simp [hz]) ?_
    refine ListK.passG (i := 24) (e := 59) (b' := false) rfl rfl (by simp [hz]) rfl ?_
    refine ListK.pick (i := 25) (b := false) (v := .bool false) rfl (by simp [hz]) (by simp) ?_
    refine ListK.done (hK _ _ ?_)
    clear hK K
    exact hQ _ _ (Below.refl _ _) (by simp only [size_put, hz]) (by simp only [defers_put, hd_a]) (by simp [t0]) (by simp [t3]) (by simp [t4]) (by simp [t6]) (by rw [hv]; exact (by simp [hz]))
end
end Go.Proofs.YtmdlmmfbcnkanaaR
namespace Go.Proofs.YtmdlmmfbcnkanaaR
open Go.RowKit Go.Shelf
theorem app36_big {W0 W : World} {v : Value} {L : List (List UInt8)} {l : List UInt8} {b c : Nat} {ty : TypeId} (h : OS W0 v L W) (hc : W.cell? ⟨b, 0, none⟩ = some (strV l)) (hL : L.length ≤ 10000000) :
    ∃ v' w', (Builtin.append_ #[36, 36] ty #[v, .slice (some ⟨b, 0, none⟩) 1 c]).run Try.prog W = .ok v' w' ∧ OS W0 v' (L ++ [l]) w' := by
  obtain ⟨i0, hi0, hi1, hi2, hi3⟩ := info_parts Try.info9
  obtain ⟨g, cap, w', hr, h2, h3, h4, _⟩ := run_append_lies (P := Try.prog) W 36 ty W0.heap.size 9 i0 (strV []) 1 16 Try.und36 hi0 hi1 hi2 hi3 rfl (by omega) v L.length (L.map strV) h.own ⟨b, 0, none⟩ 1 c [strV l] rfl
    (news1 hc) (fun u hu => by
        simp at hu
        subst hu
        rfl) (by omega) (by unfold maxLen; omega) (by omega) h.low.size W.heap.size rfl
  exact ⟨_, w', hr, ⟨h.low.grown h3 h.low.size (fun k e => (h.own.lt k e).1), by simpa using h2⟩⟩
theorem flat_len {α : Type} (f : α → List (List UInt8)) (b : Nat) : ∀ (l : List α), (∀ x, x ∈ l → (f x).length ≤ b) → (l.flatMap f).length ≤ l.length * b
  | [], _ => by simp
  | x :: l, h => by
    have h1 := flat_len f b l (fun y hy => h y (List.mem_cons_of_mem _ hy))
    have h2 := h x List.mem_cons_self
    rw [List.flatMap_cons, List.length_append, List.length_cons, Nat.add_mul]
    omega
theorem kindB_at {k : Nat} (h : k < 3) : ([72, 82, 80] : List UInt8)[k]? = some (kindB k) := by
  rcases k with _ | _ | _ | k
  · rfl
  · rfl
  · rfl
  · omega
/-- What stands behind so many kinds and numbers. -/
def jnN (G : List (List UInt8)) (k n : Nat) : List (List UInt8) := (List.range n).flatMap fun n => G.filter (isAt k n)
def jnK (G : List (List UInt8)) (k : Nat) : List (List UInt8) := (List.range k).flatMap fun k => jnN G k 100
theorem jnN_succ (G : List (List UInt8)) (k n : Nat) : jnN G k (n + 1) = jnN G k n ++ G.filter (isAt k n) := by
  unfold jnN
  rw [List.range_succ, List.flatMap_append]
  simp
theorem jnK_succ (G : List (List UInt8)) (k : Nat) : jnK G (k + 1) = jnK G k ++ jnN G k 100 := by
  unfold jnK
  rw [List.range_succ, List.flatMap_append]
  simp
theorem jnN_len {G : List (List UInt8)} (hG : G.length ≤ 2000) (k n : Nat) : (jnN G k n).length ≤ n * 2000 := by
  have := flat_len (fun n => G.filter (isAt k n)) 2000 (List.range n) (fun x _ => Nat.le_trans (List.length_filter_le _ _) hG)
  rwa [List.length_range] at this
theorem jnK_len {G : List (List UInt8)} (hG : G.length ≤ 2000) (k : Nat) : (jnK G k).length ≤ k * 200000 := by
  have := flat_len (fun k => jnN G k 100) 200000 (List.range k) (fun x _ => by have := jnN_len hG x 100; omega)
  rwa [List.length_range] at this
noncomputable def opsRj0 : Array Oper := (Try.f40.body.bind (regionOf 0)).getD #[]
noncomputable def opsRj1 : Array Oper := (Try.f40.body.bind (regionOf 1)).getD #[]
noncomputable def opsRj2 : Array Oper := (Try.f40.body.bind (regionOf 2)).getD #[]
noncomputable def opsRj3 : Array Oper := (Try.f40.body.bind (regionOf 3)).getD #[]
noncomputable def opsRj4 : Array Oper := (Try.f40.body.bind (regionOf 4)).getD #[]
noncomputable def opsRj5 : Array Oper := (Try.f40.body.bind (regionOf 5)).getD #[]
noncomputable def opsRj6 : Array Oper := (Try.f40.body.bind (regionOf 6)).getD #[]
noncomputable def opsRj7 : Array Oper := (Try.f40.body.bind (regionOf 7)).getD #[]
noncomputable def opsRj8 : Array Oper := (Try.f40.body.bind (regionOf 8)).getD #[]
noncomputable def opsRj9 : Array Oper := (Try.f40.body.bind (regionOf 9)).getD #[]
noncomputable def opsRj10 : Array Oper := (Try.f40.body.bind (regionOf 10)).getD #[]
noncomputable def opsRj11 : Array Oper := (Try.f40.body.bind (regionOf 11)).getD #[]
noncomputable def opsRj12 : Array Oper := (Try.f40.body.bind (regionOf 12)).getD #[]
noncomputable def opsRj13 : Array Oper := (Try.f40.body.bind (regionOf 13)).getD #[]
noncomputable def opsRj14 : Array Oper := (Try.f40.body.bind (regionOf 14)).getD #[]
noncomputable def rj_i : Code := (.seq (.seq (.region 10 opsRj10 false) (.cond (.tmp 21) .skip (.exit 4))) (.seq (.block 5 (.seq (.region 12 opsRj12 true) (.cond (.tmp 40) (.region 13 opsRj13 false) .skip))) (.region 11 opsRj11 false)))
noncomputable def rj_ib : Code := (.block 4 (.loop rj_i))
noncomputable def rj_n : Code := (.seq (.seq (.region 7 opsRj7 false) (.cond (.tmp 15) .skip (.exit 2))) (.seq (.block 3 (.seq (.region 9 opsRj9 false) rj_ib)) (.region 8 opsRj8 false)))
noncomputable def rj_nb : Code := (.block 2 (.loop rj_n))
noncomputable def rj_k : Code := (.seq (.seq (.region 4 opsRj4 false) (.cond (.tmp 11) .skip (.exit 0))) (.seq (.block 1 (.seq (.region 6 opsRj6 false) rj_nb)) (.region 5 opsRj5 false)))
noncomputable def code40 : Code := (.seq (.region 0 opsRj0 false) (.seq (.region 1 opsRj1 false) (.seq (.region 2 opsRj2 false) (.seq (.seq (.region 3 opsRj3 false) (.block 0 (.loop rj_k))) (.seq (.region 14 opsRj14 false) .ret)))))
theorem body40 : Try.f40.body = some code40 := by kernel_rfl
section
attribute [local irreducible] AnyK StepK
variable {G O : List (List UInt8)} {W0 W3 : World} {c k n : Nat} {A : Option Addr}
set_option maxHeartbeats 400000 in
theorem rj_ib_any {v : Value} {a : Act} {W1 : World} {Q : Exit → Act → World → Prop} (hgd : ∀ x, x ∈ G → isGood x = true) (hG : G.length ≤ 2000) (hO : O.length ≤ 1000000) (hk : k < 3) (hn : n < 100) (hst : StrsAt W3 W3.heap.size A G) (os : OS W3 v O W1)
    (hz : a.tmps.size = 49) (hd_a : a.defers = []) (t3 : a.eval (.tmp 3) = .slice A G.length c) (t4 : a.eval (.tmp 4) = v) (t5 : a.eval (.tmp 5) = .int .i64 (k : Int)) (t6 : a.eval (.tmp 6) = .int .i64 (n : Int)) (t7 : a.eval (.tmp 7) = .int .i64 0)
    (hQ : ∀ (b : Act) (W' : World) (v' : Value), OS W3 v' (O ++ G.filter (isAt k n)) W' → b.tmps.size = 49 → b.defers = [] → b.eval (.tmp 3) = .slice A G.length c → b.eval (.tmp 4) = v' → b.eval (.tmp 5) = .int .i64 (k : Int) → b.eval (.tmp 6) = .int .i64 (n : Int) → Q .normal b W') :
    rj_ib.wpIn Fence.wide 5 Try.prog Q a W1 := by
  unfold rj_ib
  refine wpIn_block (wpIn_loop (fun a W' => ∃ (i : Nat) (v : Value), i ≤ G.length ∧ OS W3 v (O ++ (G.take i).filter (isAt k n)) W' ∧ a.tmps.size = 49 ∧ a.defers = [] ∧ a.eval (.tmp 3) = .slice A G.length c ∧ a.eval (.tmp 4) = v ∧ a.eval (.tmp 5) = .int .i64 (k : Int) ∧ a.eval (.tmp 6) = .int .i64 (n : Int) ∧ a.eval (.tmp 7) = .int .i64 (i : Int)) (fun a _ => G.length - (intOf (a.eval (.tmp 7))).toNat)
    ⟨0, v, Nat.zero_le _, by simpa using os, hz, hd_a, t3, t4, t5, t6, t7⟩ ?_)
  rintro b1 W2 ⟨i, v2, hi, os2, hz_b1, hd_b1, s3, s4, s5, s6, s7⟩
  have hb2 := os2.low
  unfold rj_i
  by_cases hlt : i < G.length
  · have hx := List.getElem?_eq_getElem hlt
    obtain ⟨gb, off, hA, hgb, hc⟩ := hst i _ hx
    obtain ⟨p, hpe⟩ : ∃ p, G[i] = p := ⟨_, rfl⟩
    rw [hpe] at hx hc
    obtain ⟨p0, p1, p2, p3, p4, p5, p6, rfl, h0, _, _⟩ := good_parts (hgd p (List.mem_of_getElem? hx))
    subst hA
    have htk : G.take (i + 1) = G.take i ++ [[p0, p1, p2, p3, p4, p5, p6]] := by rw [List.take_add_one, hx]; rfl
    have hB3 := hb2.trans ((Below.refl W2.heap.size W2).drew.mono hb2.size)
    have hc3 := (hB3.cell (p := ⟨gb, off + i, none⟩) hgb).trans hc
    refine wpIn_seq (wpIn_seq (region_p 4 ?_))
    intro K hK
    refine ListK.move (i := 0) (v := .int .i64 (i : Int)) rfl (by simp [s7]) ?_
    refine ListK.move (i := 1) (v := .slice (some ⟨gb, off, none⟩) G.length c) rfl (by simp [s3]) ?_
    refine ListK.len (i := 2) (u := .slice (some ⟨gb, off, none⟩) G.length c) (v := .int .i64 G.length) rfl (by simp [hz_b1]) (ln36 _ _ _ _ _) rfl ?_
    refine ListK.bin (i := 3) (u := .int .i64 (i : Int)) (u' := .int .i64 G.length) (v := .bool true) rfl (by simp [hz_b1]) (by simp [hz_b1]) (lssT3 (by omega) _) ?_
    refine ListK.done (hK _ _ ?_)
    clear hK K
    refine wpIn_cond (t := true) (by simp [hz_b1]) (wpIn_skip ?_)
    generalize hA : Act.put _ _ _ = b2
    have hz_b2 : b2.tmps.size = 49 := by rw [← hA]; simp only [size_put, hz_b1]
    have o3 : b2.eval (.tmp 3) = .slice (some ⟨gb, off, none⟩) G.length c := by rw [← hA]; exact (by simp [s3])
    have o4 : b2.eval (.tmp 4) = v2 := by rw [← hA]; exact (by simp [s4])
    have o5 : b2.eval (.tmp 5) = .int .i64 (k : Int) := by rw [← hA]; exact (by simp [s5])
    have o6 : b2.eval (.tmp 6) = .int .i64 (n : Int) := by rw [← hA]; exact (by simp [s6])
    have o7 : b2.eval (.tmp 7) = .int .i64 (i : Int) := by rw [← hA]; exact (by simp [s7])
    have hd_b2 : b2.defers = [] := by rw [← hA]; simp only [defers_put, hd_b1]
    clear hA
    have hnext : ∀ (b : Act) (W' : World) (v' : Value), OS W3 v' (O ++ (G.take (i + 1)).filter (isAt k n)) W' → b.tmps.size = 49 → b.defers = [] → b.eval (.tmp 3) = .slice (some ⟨gb, off, none⟩) G.length c → b.eval (.tmp 4) = v' → b.eval (.tmp 5) = .int .i64 (k : Int) → b.eval (.tmp 6) = .int .i64 (n : Int) → b.eval (.tmp 7) = .int .i64 (i : Int) →
        (Code.region 11 opsRj11 false).wpIn Fence.wide 5 Try.prog (fun e a' w' => e = .normal ∧ (∃ (i : Nat) (v : Value), i ≤ G.length ∧ OS W3 v (O ++ (G.take i).filter (isAt k n)) w' ∧ a'.tmps.size = 49 ∧ a'.defers = [] ∧ a'.eval (.tmp 3) = .slice (some ⟨gb, off, none⟩) G.length c ∧ a'.eval (.tmp 4) = v ∧ a'.eval (.tmp 5) = .int .i64 (k : Int) ∧ a'.eval (.tmp 6) = .int .i64 (n : Int) ∧ a'.eval (.tmp 7) = .int .i64 (i : Int)) ∧ G.length - (intOf (a'.eval (.tmp 7))).toNat < G.length - (intOf (b1.eval (.tmp 7))).toNat) b W' := by
      intro b W' v' os' hz_b hd_b q3 q4 q5 q6 q7
      refine region_p 3 ?_
      intro K hK
      refine ListK.move (i := 0) (v := .int .i64 (i : Int)) rfl (by simp [q7]) ?_
      refine ListK.bin (i := 1) (u := .int .i64 (i : Int)) (u' := .int .i64 1) (v := .int .i64 ((i + 1 : Nat) : Int)) rfl (by simp [hz_b]) (by simp) (add3 (by omega) (by omega) _) ?_
      refine ListK.assign (i := 2) (v := .int .i64 ((i + 1 : Nat) : Int)) rfl (by simp [hz_b]) ?_
      refine ListK.done (hK _ _ ?_)
      clear hK K
      refine ⟨rfl, ⟨i + 1, v', by omega, os', (by simp only [size_put, hz_b]), (by simp only [defers_put, hd_b]), (by simp [q3]), (by simp [q4]), (by simp [q5]), (by simp [q6]), (by simp [hz_b])⟩, ?_⟩
      rw [s7, show (Act.put _ _ _).eval (.tmp 7) = .int .i64 ((i + 1 : Nat) : Int) from (by simp [hz_b])]
      simp only [intOf]
      omega
    refine wpIn_seq (wpIn_block ?_)
    have hfin : ∀ (b : Act) (W' : World), Below W2.heap.size W2 W' → b.tmps.size = 49 → b.defers = [] → b.eval (.tmp 3) = .slice (some ⟨gb, off, none⟩) G.length c → b.eval (.tmp 4) = v2 → b.eval (.tmp 5) = .int .i64 (k : Int) → b.eval (.tmp 6) = .int .i64 (n : Int) → b.eval (.tmp 7) = .int .i64 (i : Int) → b.eval (.tmp 40) = .bool (isAt k n [p0, p1, p2, p3, p4, p5, p6]) →
        (Code.cond (.tmp 40) (.region 13 opsRj13 false) .skip).wpIn Fence.wide 5 Try.prog (fun e a' w' => e = .normal ∧ (Code.region 11 opsRj11 false).wpIn Fence.wide 5 Try.prog (fun e a' w' => e = .normal ∧ (∃ (i : Nat) (v : Value), i ≤ G.length ∧ OS W3 v (O ++ (G.take i).filter (isAt k n)) w' ∧ a'.tmps.size = 49 ∧ a'.defers = [] ∧ a'.eval (.tmp 3) = .slice (some ⟨gb, off, none⟩) G.length c ∧ a'.eval (.tmp 4) = v ∧ a'.eval (.tmp 5) = .int .i64 (k : Int) ∧ a'.eval (.tmp 6) = .int .i64 (n : Int) ∧ a'.eval (.tmp 7) = .int .i64 (i : Int)) ∧ G.length - (intOf (a'.eval (.tmp 7))).toNat < G.length - (intOf (b1.eval (.tmp 7))).toNat) a' w') b W' := by
      intro b W' hb' hz_b hd_b q3 q4 q5 q6 q7 q40
      have hb3 := hb2.trans (hb'.mono hb2.size)
      have os3 := os2.below hb'
      cases hat : isAt k n [p0, p1, p2, p3, p4, p5, p6]
      · rw [hat] at q40
        refine wpIn_cond (t := false) q40 (wpIn_skip ⟨rfl, ?_⟩)
        exact hnext _ _ v2 (by rw [htk, List.filter_append, List.filter_cons_of_neg (by rw [hat]; decide)]; simpa using os3) hz_b hd_b q3 q4 q5 q6 q7
      · rw [hat] at q40
        refine wpIn_cond (t := true) q40 ?_
        have hfl : (O ++ (G.take i).filter (isAt k n)).length ≤ 10000000 := by
          have h1 := List.length_filter_le (isAt k n) (G.take i)
          rw [List.length_take] at h1
          rw [List.length_append]
          omega
        have hb4 : Below W'.heap.size W' (W'.alloc (.cells #[strV [p0, p1, p2, p3, p4, p5, p6]] 9)) := (Below.refl W'.heap.size W').alloc (Nat.le_refl _) _
        obtain ⟨v4, W4, hap4, os4⟩ := app36_big (l := [p0, p1, p2, p3, p4, p5, p6]) (b := W'.heap.size) (c := 1) (ty := 36) (os3.below hb4) ((Whole.new W' 9 #[strV [p0, p1, p2, p3, p4, p5, p6]]).cell 0) hfl
        have hc4 := (hb3.cell (p := ⟨gb, off + i, none⟩) hgb).trans hc
        refine region_p 8 ?_
        intro K hK
        refine ListK.move (i := 0) (v := v2) rfl (by simp [q4]) ?_
        refine ListK.move (i := 1) (v := .slice (some ⟨gb, off, none⟩) G.length c) rfl (by simp [q3]) ?_
        refine ListK.move (i := 2) (v := .int .i64 (i : Int)) rfl (by simp [q7]) ?_
        refine ListK.index (i := 3) (u := .slice (some ⟨gb, off, none⟩) G.length c) (u' := .int .i64 (i : Int)) (v := .pointer (some ⟨gb, off + i, none⟩)) rfl (by simp [hz_b]) (by simp [hz_b]) (ix36 hlt _) ?_
        refine ListK.load (i := 4) (p := ⟨gb, off + i, none⟩) (v := strV [p0, p1, p2, p3, p4, p5, p6]) rfl (by simp [hz_b]) (ld9 (hc4)) ?_
        refine ListK.bsl (i := 5) (ps := #[(0, strV [p0, p1, p2, p3, p4, p5, p6])]) (v := .slice (some ⟨W'.heap.size, 0, none⟩) 1 1) rfl (by simp [hz_b]) (bs36_1 _ W') ?_
        refine ListK.app36 (i := 6) rfl (by simp [hz_b]) (by simp [hz_b]) hap4 ?_
        refine ListK.assign (i := 7) (v := v4) rfl (by simp [hz_b]) ?_
        refine ListK.done (hK _ _ ?_)
        clear hK K
        exact ⟨rfl, hnext _ W4 v4 (by rw [htk, List.filter_append, List.filter_cons_of_pos hat, ← List.append_assoc]; exact os4) (by simp only [size_put, hz_b]) (by simp only [defers_put, hd_b]) (by simp [q3]) (by simp [hz_b]) (by simp [q5]) (by simp [q6]) (by simp [q7])⟩
    have hgbl : gb < W2.heap.size := Nat.lt_of_lt_of_le hgb hb2.size
    have hgr : ∀ w w', (fun w : World => (w.cell? ⟨gb, off + i, none⟩ = some (strV [p0, p1, p2, p3, p4, p5, p6])) ∧ Below W2.heap.size W2 w) w → Below w.heap.size w w' → (fun w : World => (w.cell? ⟨gb, off + i, none⟩ = some (strV [p0, p1, p2, p3, p4, p5, p6])) ∧ Below W2.heap.size W2 w) w' := fun w w' h hb => ⟨(hb.cell (p := ⟨gb, off + i, none⟩) (Nat.lt_of_lt_of_le hgbl h.2.size)).trans h.1, h.2.trans (hb.mono h.2.size)⟩
    have hR0 : (fun w : World => (w.cell? ⟨gb, off + i, none⟩ = some (strV [p0, p1, p2, p3, p4, p5, p6])) ∧ Below W2.heap.size W2 w) W2.drew := ⟨hc3, (Below.refl _ _).drew⟩
    by_cases hpk : p0 = kindB k
    · have e1 := decide_eq_true hpk
      have hat : isAt k n [p0, p1, p2, p3, p4, p5, p6] = ((num2 p1 p2 : Int) == (n : Int)) := by
        show (decide (p0 = kindB k) && decide (num2 p1 p2 = n)) = _
        rw [e1, Bool.true_and, Bool.eq_iff_iff]
        simp
        omega
      rw [hat] at hfin
      refine wpIn_seq (region_K (KpR (fun w : World => (w.cell? ⟨gb, off + i, none⟩ = some (strV [p0, p1, p2, p3, p4, p5, p6])) ∧ Below W2.heap.size W2 w) (fun _ => false)) (wideF_plain _) (by kernel_rfl) Try.mixed ?_)
      change AnyK _ _ _ _ 17 (Array.replicate 17 false) _ _
      have hR : (fun w : World => (w.cell? ⟨gb, off + i, none⟩ = some (strV [p0, p1, p2, p3, p4, p5, p6])) ∧ Below W2.heap.size W2 w) W2.drew := hR0
      refine AnyK.move (i := 0) may_o (v := .slice (some ⟨gb, off, none⟩) G.length c) (by simp [o3]) hR ?_
      refine AnyK.move (i := 1) may_o (v := .int .i64 (i : Int)) (by simp [o7]) hR ?_
      refine AnyK.index (i := 2) may_o (u := .slice (some ⟨gb, off, none⟩) G.length c) (u' := .int .i64 (i : Int)) (v := .pointer (some ⟨gb, off + i, none⟩)) (by simp [hz_b2]) (by simp [hz_b2]) (fun w => ix36 hlt w) hR ?_
      refine AnyK.load (i := 3) may_o (p := ⟨gb, off + i, none⟩) (v := strV [p0, p1, p2, p3, p4, p5, p6]) (by simp [hz_b2]) (fun w hw => ld9 hw.1) hR ?_
      refine AnyK.indexV (i := 4) may_o (u := strV [p0, p1, p2, p3, p4, p5, p6]) (u' := .int .i64 (0)) (v := u8V p0) (by simp [hz_b2]) (by simp) (fun w => ix9 (k := 0) rfl w) hR ?_
      refine AnyK.move (i := 5) may_o (v := .int .i64 (k : Int)) (by simp [o5]) hR ?_
      refine AnyK.indexV (i := 6) may_o (u := strV [72, 82, 80]) (u' := .int .i64 (k : Int)) (v := u8V (kindB k)) (by simp) (by simp [hz_b2]) (fun w => ix9 (kindB_at hk) w) hR ?_
      refine AnyK.bin (i := 7) may_o (u := u8V p0) (u' := u8V (kindB k)) (v := .bool true) (by simp [hz_b2]) (by simp [hz_b2]) (fun w => by rw [← e1]; exact eql5n p0 (kindB k) w) hR ?_
      refine AnyK.move (i := 8) may_o (v := .bool true) (by simp [hz_b2]) hR ?_
      refine AnyK.move (i := 9) may_o (v := .slice (some ⟨gb, off, none⟩) G.length c) (by simp [o3]) hR (hw := (by exact wanted_g (e := 32) (b' := true) rfl (by simp [hz_b2]) rfl)) ?_
      refine AnyK.move (i := 10) may_o (v := .int .i64 (i : Int)) (by simp [o7]) hR (hw := (by exact wanted_g (e := 32) (b' := true) rfl (by simp [hz_b2]) rfl)) ?_
      refine AnyK.index (i := 11) may_o (u := .slice (some ⟨gb, off, none⟩) G.length c) (u' := .int .i64 (i : Int)) (v := .pointer (some ⟨gb, off + i, none⟩)) (by simp [hz_b2]) (by simp [hz_b2]) (fun w => ix36 hlt w) hR (hw := (by exact wanted_g (e := 32) (b' := true) rfl (by simp [hz_b2]) rfl)) ?_
      refine AnyK.load (i := 12) may_o (p := ⟨gb, off + i, none⟩) (v := strV [p0, p1, p2, p3, p4, p5, p6]) (by simp [hz_b2]) (fun w hw => ld9 hw.1) hR (hw := (by exact wanted_g (e := 32) (b' := true) rfl (by simp [hz_b2]) rfl)) ?_
      refine AnyK.move (i := 14) may_o (v := .int .i64 (n : Int)) (by simp [o6]) hR (hw := (by exact wanted_g (e := 32) (b' := true) rfl (by simp [hz_b2]) rfl)) ?_
      refine AnyK.pick1 (i := 13) (by kernel_rfl) ?_
      refine StepK.call (i := 13) (f := 65) (vs := #[strV [p0, p1, p2, p3, p4, p5, p6], .int .i64 (1)]) rfl (enters_of Try.func65 (by kernel_rfl) rfl) rfl (by simp [hz_b2]) ((num_any [p0, p1, p2, p3, p4, p5, p6] 1 p1 p2 rfl rfl (by omega) _).mono ?_) (hw := (by exact wanted_g (e := 32) (b' := true) rfl (by simp [hz_b2]) rfl))
      rintro _ V13 ⟨rfl, hb13⟩
      replace hR : (fun w : World => (w.cell? ⟨gb, off + i, none⟩ = some (strV [p0, p1, p2, p3, p4, p5, p6])) ∧ Below W2.heap.size W2 w) V13 := hgr _ _ hR hb13
      refine ⟨_, rfl, fun _ _ => hR, ?_⟩
      refine AnyK.bin (i := 15) may_o (u := .int .i64 (num2 p1 p2 : Int)) (u' := .int .i64 (n : Int)) (v := .bool ((num2 p1 p2 : Int) == (n : Int))) (by simp [hz_b2]) (by simp [hz_b2]) (fun w => eql3 w) hR (hw := (by exact wanted_g (e := 32) (b' := true) rfl (by simp [hz_b2]) rfl)) ?_
      refine AnyK.pick (i := 16) may_o (b := true) (v := .bool ((num2 p1 p2 : Int) == (n : Int))) (by simp [hz_b2]) (by simp [hz_b2]) hR ?_
      refine AnyK.done (by kernel_rfl) ?_
      refine Go.Code.wpIn_mono (fun e a'' w'' hq => ?_) (hfin _ _ hR.2 (by simp only [size_put, hz_b2]) (by simp only [defers_put, hd_b2]) (by simp [o3]) (by simp [o4]) (by simp [o5]) (by simp [o6]) (by simp [o7]) (by simp [hz_b2]))
      obtain ⟨rfl, h⟩ := hq
      refine Go.Code.wpIn_mono (fun e a'' w'' hq => ?_) h
      obtain ⟨rfl, h1, h2⟩ := hq
      exact ⟨h1, h2⟩
    · have e1 := decide_eq_false hpk
      have hat : isAt k n [p0, p1, p2, p3, p4, p5, p6] = false := by
        show (decide (p0 = kindB k) && decide (num2 p1 p2 = n)) = _
        rw [e1, Bool.false_and]
      rw [hat] at hfin
      refine wpIn_seq (region_K (KpR (fun w : World => (w.cell? ⟨gb, off + i, none⟩ = some (strV [p0, p1, p2, p3, p4, p5, p6])) ∧ Below W2.heap.size W2 w) (fun _ => false)) (wideF_plain _) (by kernel_rfl) Try.mixed ?_)
      change AnyK _ _ _ _ 17 (Array.replicate 17 false) _ _
      have hR : (fun w : World => (w.cell? ⟨gb, off + i, none⟩ = some (strV [p0, p1, p2, p3, p4, p5, p6])) ∧ Below W2.heap.size W2 w) W2.drew := hR0
      refine AnyK.move (i := 0) may_o (v := .slice (some ⟨gb, off, none⟩) G.length c) (by simp [o3]) hR ?_
      refine AnyK.move (i := 1) may_o (v := .int .i64 (i : Int)) (by simp [o7]) hR ?_
      refine AnyK.index (i := 2) may_o (u := .slice (some ⟨gb, off, none⟩) G.length c) (u' := .int .i64 (i : Int)) (v := .pointer (some ⟨gb, off + i, none⟩)) (by simp [hz_b2]) (by simp [hz_b2]) (fun w => ix36 hlt w) hR ?_
      refine AnyK.load (i := 3) may_o (p := ⟨gb, off + i, none⟩) (v := strV [p0, p1, p2, p3, p4, p5, p6]) (by simp [hz_b2]) (fun w hw => ld9 hw.1) hR ?_
      refine AnyK.indexV (i := 4) may_o (u := strV [p0, p1, p2, p3, p4, p5, p6]) (u' := .int .i64 (0)) (v := u8V p0) (by simp [hz_b2]) (by simp) (fun w => ix9 (k := 0) rfl w) hR ?_
      refine AnyK.move (i := 5) may_o (v := .int .i64 (k : Int)) (by simp [o5]) hR ?_
      refine AnyK.indexV (i := 6) may_o (u := strV [72, 82, 80]) (u' := .int .i64 (k : Int)) (v := u8V (kindB k)) (by simp) (by simp [hz_b2]) (fun w => ix9 (kindB_at hk) w) hR ?_
      refine AnyK.bin (i := 7) may_o (u := u8V p0) (u' := u8V (kindB k)) (v := .bool false) (by simp [hz_b2]) (by simp [hz_b2]) (fun w => by rw [← e1]; exact eql5n p0 (kindB k) w) hR ?_
      refine AnyK.move (i := 8) may_o (v := .bool false) (by simp [hz_b2]) hR ?_
      refine AnyK.passG (i := 9) may_o (e := 32) (b' := false) rfl (by simp [hz_b2]) rfl hR ?_
      refine AnyK.passG (i := 10) may_o (e := 32) (b' := false) rfl (by simp [hz_b2]) rfl hR ?_
      refine AnyK.passG (i := 11) may_o (e := 32) (b' := false) rfl (by simp [hz_b2]) rfl hR ?_
      refine AnyK.passG (i := 12) may_o (e := 32) (b' := false) rfl (by simp [hz_b2]) rfl hR ?_
      refine AnyK.passG (i := 13) may_o (e := 32) (b' := false) rfl (by simp [hz_b2]) rfl hR ?_
      refine AnyK.passG (i := 14) may_o (e := 32) (b' := false) rfl (by simp [hz_b2]) rfl hR ?_
      refine AnyK.passG (i := 15) may_o (e := 32) (b' := false) rfl (by simp [hz_b2]) rfl hR ?_
      refine AnyK.pick (i := 16) may_o (b := false) (v := .bool false) (by simp [hz_b2]) (by simp) hR ?_
      refine AnyK.done (by kernel_rfl) ?_
      refine Go.Code.wpIn_mono (fun e a'' w'' hq => ?_) (hfin _ _ hR.2 (by simp only [size_put, hz_b2]) (by simp only [defers_put, hd_b2]) (by simp [o3]) (by simp [o4]) (by simp [o5]) (by simp [o6]) (by simp [o7]) (by simp [hz_b2]))
      obtain ⟨rfl, h⟩ := hq
      refine Go.Code.wpIn_mono (fun e a'' w'' hq => ?_) h
      obtain ⟨rfl, h1, h2⟩ := hq
      exact ⟨h1, h2⟩
  · have hie : i = G.length := by omega
    refine wpIn_seq (wpIn_seq (region_p 4 ?_))
    intro K hK
    refine ListK.move (i := 0) (v := .int .i64 (i : Int)) rfl (by simp [s7]) ?_
    refine ListK.move (i := 1) (v := .slice A G.length c) rfl (by simp [s3]) ?_
    refine ListK.len (i := 2) (u := .slice A G.length c) (v := .int .i64 G.length) rfl (by simp [hz_b1]) (ln36 _ _ _ _ _) rfl ?_
    refine ListK.bin (i := 3) (u := .int .i64 (i : Int)) (u' := .int .i64 G.length) (v := .bool false) rfl (by simp [hz_b1]) (by simp [hz_b1]) (lssF3 (by omega) _) ?_
    refine ListK.done (hK _ _ ?_)
    clear hK K
    refine wpIn_cond (t := false) (by simp [hz_b1]) (wpIn_exit ?_)
    rw [hie, List.take_length] at os2
    exact hQ _ _ v2 os2 (by simp only [size_put, hz_b1]) (by simp only [defers_put, hd_b1]) (by simp [s3]) (by simp [s4]) (by simp [s5]) (by simp [s6])
set_option maxHeartbeats 400000 in
theorem rj_nb_any {v : Value} {a : Act} {W1 : World} {Q : Exit → Act → World → Prop} (hgd : ∀ x, x ∈ G → isGood x = true) (hG : G.length ≤ 2000) (hO : O.length ≤ 700000) (hk : k < 3) (hst : StrsAt W3 W3.heap.size A G) (os : OS W3 v O W1)
    (hz : a.tmps.size = 49) (hd_a : a.defers = []) (t3 : a.eval (.tmp 3) = .slice A G.length c) (t4 : a.eval (.tmp 4) = v) (t5 : a.eval (.tmp 5) = .int .i64 (k : Int)) (t6 : a.eval (.tmp 6) = .int .i64 0)
    (hQ : ∀ (b : Act) (W' : World) (v' : Value), OS W3 v' (O ++ jnN G k 100) W' → b.tmps.size = 49 → b.defers = [] → b.eval (.tmp 3) = .slice A G.length c → b.eval (.tmp 4) = v' → b.eval (.tmp 5) = .int .i64 (k : Int) → Q .normal b W') :
    rj_nb.wpIn Fence.wide 5 Try.prog Q a W1 := by
  unfold rj_nb
  refine wpIn_block (wpIn_loop (fun a W' => ∃ (n : Nat) (v : Value), n ≤ 100 ∧ OS W3 v (O ++ jnN G k n) W' ∧ a.tmps.size = 49 ∧ a.defers = [] ∧ a.eval (.tmp 3) = .slice A G.length c ∧ a.eval (.tmp 4) = v ∧ a.eval (.tmp 5) = .int .i64 (k : Int) ∧ a.eval (.tmp 6) = .int .i64 (n : Int)) (fun a _ => 100 - (intOf (a.eval (.tmp 6))).toNat)
    ⟨0, v, Nat.zero_le _, by simpa [jnN] using os, hz, hd_a, t3, t4, t5, t6⟩ ?_)
  rintro b1 W2 ⟨n, v2, hn, os2, hz_b1, hd_b1, s3, s4, s5, s6⟩
  unfold rj_n
  by_cases hlt : n < 100
  · have hjl := jnN_len hG k n
    refine wpIn_seq (wpIn_seq (region_p 2 ?_))
    intro K hK
    refine ListK.move (i := 0) (v := .int .i64 (n : Int)) rfl (by simp [s6]) ?_
    refine ListK.bin (i := 1) (u := .int .i64 (n : Int)) (u' := .int .i64 100) (v := .bool true) rfl (by simp [hz_b1]) (by simp) (lssT3 (by omega) _) ?_
    refine ListK.done (hK _ _ ?_)
    clear hK K
    refine wpIn_cond (t := true) (by simp [hz_b1]) (wpIn_skip ?_)
    generalize hA : Act.put _ _ _ = b2
    have hz_b2 : b2.tmps.size = 49 := by rw [← hA]; simp only [size_put, hz_b1]
    have o3 : b2.eval (.tmp 3) = .slice A G.length c := by rw [← hA]; exact (by simp [s3])
    have o4 : b2.eval (.tmp 4) = v2 := by rw [← hA]; exact (by simp [s4])
    have o5 : b2.eval (.tmp 5) = .int .i64 (k : Int) := by rw [← hA]; exact (by simp [s5])
    have o6 : b2.eval (.tmp 6) = .int .i64 (n : Int) := by rw [← hA]; exact (by simp [s6])
    have hd_b2 : b2.defers = [] := by rw [← hA]; simp only [defers_put, hd_b1]
    clear hA
    refine wpIn_seq (wpIn_block ?_)
    refine wpIn_seq (region_p 1 ?_)
    intro K hK
    refine ListK.assign (i := 0) (v := .int .i64 0) rfl (by simp) ?_
    refine ListK.done (hK _ _ ?_)
    clear hK K
    refine rj_ib_any (O := O ++ jnN G k n) (c := c) (v := v2) (k := k) (n := n) hgd hG (by rw [List.length_append]; omega) hk hlt hst os2 (by simp only [size_put, hz_b2]) (by simp only [defers_put, hd_b2]) (by simp [o3]) (by simp [o4]) (by simp [o5]) (by simp [o6]) (by simp [hz_b2]) ?_
    intro b W' v' os' hz_b hd_b q3 q4 q5 q6
    show (Code.wpIn _ _ _ (Code.region _ _ _) _ _ _)
    refine region_p 3 ?_
    intro K hK
    refine ListK.move (i := 0) (v := .int .i64 (n : Int)) rfl (by simp [q6]) ?_
    refine ListK.bin (i := 1) (u := .int .i64 (n : Int)) (u' := .int .i64 1) (v := .int .i64 ((n + 1 : Nat) : Int)) rfl (by simp [hz_b]) (by simp) (add3 (by omega) (by omega) _) ?_
    refine ListK.assign (i := 2) (v := .int .i64 ((n + 1 : Nat) : Int)) rfl (by simp [hz_b]) ?_
    refine ListK.done (hK _ _ ?_)
    clear hK K
    refine ⟨⟨n + 1, v', by omega, by rw [jnN_succ, ← List.append_assoc]; exact os', (by simp only [size_put, hz_b]), (by simp only [defers_put, hd_b]), (by simp [q3]), (by simp [q4]), (by simp [q5]), (by simp [hz_b])⟩, ?_⟩
    rw [s6, show (Act.put _ _ _).eval (.tmp 6) = .int .i64 ((n + 1 : Nat) : Int) from (by simp [hz_b])]
    simp only [intOf]
    omega
  · have hne : n = 100 := by omega
    refine wpIn_seq (wpIn_seq (region_p 2 ?_))
    intro K hK
    refine ListK.move (i := 0) (v := .int .i64 (n : Int)) rfl (by simp [s6]) ?_
    refine ListK.bin (i := 1) (u := .int .i64 (n : Int)) (u' := .int .i64 100) (v := .bool false) rfl (by simp [hz_b1]) (by simp) (lssF3 (by omega) _) ?_
    refine ListK.done (hK _ _ ?_)
    clear hK K
    refine wpIn_cond (t := false) (by simp [hz_b1]) (wpIn_exit ?_)
    rw [hne] at os2
    exact hQ _ _ v2 os2 (by simp only [size_put, hz_b1]) (by simp only [defers_put, hd_b1]) (by simp [s3]) (by simp [s4]) (by simp [s5])
end
set_option maxHeartbeats 400000 in
theorem refJoin_any (A : Option Addr) (c : Nat) (gs : List (List UInt8)) (hL : gs.length ≤ 2000) (hgd : ∀ x, x ∈ gs → isGood x = true) (W : World) (hst : StrsAt W W.heap.size A gs) : Calls Try.prog 40 #[.slice A gs.length c] W (fun e w' => ∃ v, e = .returned v ∧ OS W v (joinR gs) w') := by
  have hGl := withoutL_len gs []
  have hGg : ∀ x, x ∈ withoutL [] gs → isGood x = true := fun x hx => hgd x (by simpa using (without_mem gs [] x).1 hx)
  have hjr : joinR gs = jnK (withoutL [] gs) 3 := rfl
  simp only [List.length_nil] at hGl
  refine (callsIn_wide (n := 5)).1 (callsIn_of_wp Try.func40 body40 trivial ?_ rfl)
  obtain ⟨a, ha⟩ : ∃ a : Act, a = { tmps := #[.slice A gs.length c] ++ Array.replicate (Try.f40.ntmps - (#[.slice A gs.length c] : Array Value).size) undef, defers := [] } := ⟨_, rfl⟩
  have hsz : a.tmps.size = 49 := by rw [ha]; simp [Try.ntmps40]
  have t0 : a.eval (.tmp 0) = .slice A gs.length c := by rw [ha]; simp [Act.eval]
  have hd_a : a.defers = [] := by rw [ha]
  rw [← ha]
  clear ha
  unfold code40
  refine wpIn_seq (region_p 1 ?_)
  intro K hK
  refine ListK.assign (i := 0) (v := .slice none 0 0) rfl (by simp) ?_
  refine ListK.done (hK _ _ ?_)
  clear hK K
  generalize hA : Act.put _ _ _ = a1
  have hz_a1 : a1.tmps.size = 49 := by rw [← hA]; simp only [size_put, hsz]
  have u0 : a1.eval (.tmp 0) = .slice A gs.length c := by rw [← hA]; exact (by simp [t0])
  have hd_a1 : a1.defers = [] := by rw [← hA]; simp only [defers_put, hd_a]
  clear hA
  refine wpIn_seq (region_p 3 ?_)
  intro K hK
  refine ListK.move (i := 0) (v := .slice A gs.length c) rfl (by simp [u0]) ?_
  refine ListK.call (i := 1) (vs := #[.slice A gs.length c]) rfl (enters_of Try.func38 (by kernel_rfl) rfl) (by simp [hz_a1]) ((refWithout_any A c gs (by omega) W hst).mono ?_)
  rintro _ W3 ⟨v3, rfl, os3⟩
  obtain ⟨A3, c3, rfl, hs3⟩ := os3.strs
  refine ⟨_, rfl, ?_⟩
  refine ListK.assign (i := 2) (v := .slice A3 (withoutL [] gs).length c3) rfl (by simp [hz_a1]) ?_
  refine ListK.done (hK _ _ ?_)
  clear hK K
  have hB3 := os3.low
  generalize withoutL [] gs = G at *
  generalize hA : Act.put _ _ _ = a2
  have hz_a2 : a2.tmps.size = 49 := by rw [← hA]; simp only [size_put, hz_a1]
  have v3 : a2.eval (.tmp 3) = .slice A3 G.length c3 := by rw [← hA]; exact (by simp [hz_a1])
  have hd_a2 : a2.defers = [] := by rw [← hA]; simp only [defers_put, hd_a1]
  clear hA
  refine wpIn_seq (region_p 1 ?_)
  intro K hK
  refine ListK.assign (i := 0) (v := .slice none 0 0) rfl (by simp) ?_
  refine ListK.done (hK _ _ ?_)
  clear hK K
  refine wpIn_seq (wpIn_seq (region_p 1 ?_))
  intro K hK
  refine ListK.assign (i := 0) (v := .int .i64 0) rfl (by simp) ?_
  refine ListK.done (hK _ _ ?_)
  clear hK K
  generalize hA : Act.put _ _ _ = a3
  have hz_a3 : a3.tmps.size = 49 := by rw [← hA]; simp only [size_put, hz_a2]
  have x3 : a3.eval (.tmp 3) = .slice A3 G.length c3 := by rw [← hA]; exact (by simp [v3])
  have x4 : a3.eval (.tmp 4) = .slice none 0 0 := by rw [← hA]; exact (by simp [hz_a2])
  have x5 : a3.eval (.tmp 5) = .int .i64 0 := by rw [← hA]; exact (by simp [hz_a2])
  have hd_a3 : a3.defers = [] := by rw [← hA]; simp only [defers_put, hd_a2]
  clear hA
  refine wpIn_block (wpIn_loop (fun a W' => ∃ (k : Nat) (v : Value), k ≤ 3 ∧ OS W3 v (jnK G k) W' ∧ a.tmps.size = 49 ∧ a.defers = [] ∧ a.eval (.tmp 3) = .slice A3 G.length c3 ∧ a.eval (.tmp 4) = v ∧ a.eval (.tmp 5) = .int .i64 (k : Int)) (fun a _ => 3 - (intOf (a.eval (.tmp 5))).toNat)
    ⟨0, _, Nat.zero_le _, os_none W3, hz_a3, hd_a3, x3, x4, x5⟩ ?_)
  rintro b1 W2 ⟨k, v2, hk, os2, hz_b1, hd_b1, s3, s4, s5⟩
  unfold rj_k
  by_cases hlt : k < 3
  · have hjl := jnK_len (G := G) (by omega) k
    refine wpIn_seq (wpIn_seq (region_p 2 ?_))
    intro K hK
    refine ListK.move (i := 0) (v := .int .i64 (k : Int)) rfl (by simp [s5]) ?_
    refine ListK.bin (i := 1) (u := .int .i64 (k : Int)) (u' := .int .i64 3) (v := .bool true) rfl (by simp [hz_b1]) (by simp) (lssT3 (by omega) _) ?_
    refine ListK.done (hK _ _ ?_)
    clear hK K
    refine wpIn_cond (t := true) (by simp [hz_b1]) (wpIn_skip ?_)
    generalize hA : Act.put _ _ _ = b2
    have hz_b2 : b2.tmps.size = 49 := by rw [← hA]; simp only [size_put, hz_b1]
    have o3 : b2.eval (.tmp 3) = .slice A3 G.length c3 := by rw [← hA]; exact (by simp [s3])
    have o4 : b2.eval (.tmp 4) = v2 := by rw [← hA]; exact (by simp [s4])
    have o5 : b2.eval (.tmp 5) = .int .i64 (k : Int) := by rw [← hA]; exact (by simp [s5])
    have hd_b2 : b2.defers = [] := by rw [← hA]; simp only [defers_put, hd_b1]
    clear hA
    refine wpIn_seq (wpIn_block ?_)
    refine wpIn_seq (region_p 1 ?_)
    intro K hK
    refine ListK.assign (i := 0) (v := .int .i64 0) rfl (by simp) ?_
    refine ListK.done (hK _ _ ?_)
    clear hK K
    refine rj_nb_any (O := jnK G k) (c := c3) (v := v2) (k := k) hGg (by omega) (by omega) hlt hs3 os2 (by simp only [size_put, hz_b2]) (by simp only [defers_put, hd_b2]) (by simp [o3]) (by simp [o4]) (by simp [o5]) (by simp [hz_b2]) ?_
    intro b W' v' os' hz_b hd_b q3 q4 q5
    show (Code.wpIn _ _ _ (Code.region _ _ _) _ _ _)
    refine region_p 3 ?_
    intro K hK
    refine ListK.move (i := 0) (v := .int .i64 (k : Int)) rfl (by simp [q5]) ?_
    refine ListK.bin (i := 1) (u := .int .i64 (k : Int)) (u' := .int .i64 1) (v := .int .i64 ((k + 1 : Nat) : Int)) rfl (by simp [hz_b]) (by simp) (add3 (by omega) (by omega) _) ?_
    refine ListK.assign (i := 2) (v := .int .i64 ((k + 1 : Nat) : Int)) rfl (by simp [hz_b]) ?_
    refine ListK.done (hK _ _ ?_)
    clear hK K
    refine ⟨⟨k + 1, v', by omega, by rw [jnK_succ]; exact os', (by simp only [size_put, hz_b]), (by simp only [defers_put, hd_b]), (by simp [q3]), (by simp [q4]), (by simp [hz_b])⟩, ?_⟩
    rw [s5, show (Act.put _ _ _).eval (.tmp 5) = .int .i64 ((k + 1 : Nat) : Int) from (by simp [hz_b])]
    simp only [intOf]
    omega
  · have hke : k = 3 := by omega
    refine wpIn_seq (wpIn_seq (region_p 2 ?_))
    intro K hK
    refine ListK.move (i := 0) (v := .int .i64 (k : Int)) rfl (by simp [s5]) ?_
    refine ListK.bin (i := 1) (u := .int .i64 (k : Int)) (u' := .int .i64 3) (v := .bool false) rfl (by simp [hz_b1]) (by simp) (lssF3 (by omega) _) ?_
    refine ListK.done (hK _ _ ?_)
    clear hK K
    refine wpIn_cond (t := false) (by simp [hz_b1]) (wpIn_exit ?_)
    show (Code.wpIn _ _ _ (Code.seq _ _) _ _ _)
    rw [hke] at os2
    refine wpIn_seq (region_p 2 ?_)
    intro K hK
    refine ListK.move (i := 0) (v := v2) rfl (by simp [s4]) ?_
    refine ListK.assign (i := 1) (v := v2) rfl (by simp [hz_b1]) ?_
    refine ListK.done (hK _ _ (wpIn_ret ?_))
    exact bodyPost_ret (v := v2) (res1 Try.results40 (by simp [hz_b1])) (by simp only [defers_put, hd_b1]) ⟨v2, rfl, by rw [hjr]; exact os2.base hB3⟩
end Go.Proofs.YtmdlmmfbcnkanaaR
namespace Go.Proofs.YtmdlmmfbcnkanaaR
open Go.RowKit Go.Shelf
theorem ex30 (u v x : Value) (w : World) : (Instr.extract (.tuple #[u, v, x]) 0).run Try.prog w = .ok u w := by go_simp
theorem ex31 (u v x : Value) (w : World) : (Instr.extract (.tuple #[u, v, x]) 1).run Try.prog w = .ok v w := by go_simp
theorem ex32 (u v x : Value) (w : World) : (Instr.extract (.tuple #[u, v, x]) 2).run Try.prog w = .ok x w := by go_simp
section
attribute [local irreducible] AnyK StepK
variable {L : List (List UInt8)} {W0 : World} {c gb off i : Nat} {H : Head} {p : List UInt8}
set_option maxHeartbeats 400000 in
theorem co_b_any {a : Act} {W1 : World} {Q : Exit → Act → World → Prop} (hgd : ∀ x, x ∈ L → isGood x = true) (hH : 0 < H.many → HeadB H) (hL : L.length ≤ 90000) (hi : L[i]? = some p) (hb1 : Below W0.heap.size W0 W1) (hst : StrsAt W0 W0.heap.size (some ⟨gb, off, none⟩) L)
    (hz : a.tmps.size = 83) (hd_a : a.defers = []) (t0 : a.eval (.tmp 0) = .slice (some ⟨gb, off, none⟩) L.length c) (t3 : a.eval (.tmp 3) = .int .i64 (H.many : Int)) (t4 : a.eval (.tmp 4) = .int .i64 (H.width : Int)) (t6 : a.eval (.tmp 6) = .int .i64 (i : Int)) (t7 : a.eval (.tmp 7) = strV p)
    (hret : ∀ (b : Act) (W' : World), Below W0.heap.size W0 W' → b.defers = [] → b.eval (.tmp 2) = .bool true → ((∃ (k : Nat) (q : List UInt8), k < i ∧ L[k]? = some q ∧ confl p q = true) ∨ pastG H p = true) → Q .ret b W')
    (hQ : ∀ (b : Act) (W' : World), Below W0.heap.size W0 W' → b.tmps.size = 83 → b.defers = [] → b.eval (.tmp 0) = .slice (some ⟨gb, off, none⟩) L.length c → b.eval (.tmp 3) = .int .i64 (H.many : Int) → b.eval (.tmp 4) = .int .i64 (H.width : Int) → b.eval (.tmp 6) = .int .i64 (i : Int) → (∀ (k : Nat) (q : List UInt8), k < i → L[k]? = some q → confl p q = false) → pastG H p = false → Q .normal b W') :
    co_b.wpIn Fence.wide 5 Try.prog Q a W1 := by
  have hil := (List.getElem?_eq_some_iff.1 hi).1
  obtain ⟨p0, p1, p2, p3, p4, p5, p6, rfl, h0, _, _⟩ := good_parts (hgd p (List.mem_of_getElem? hi))
  unfold co_b
  refine wpIn_seq (wpIn_seq (region_p 1 ?_))
  intro K hK
  refine ListK.assign (i := 0) (v := .int .i64 0) rfl (by simp) ?_
  refine ListK.done (hK _ _ ?_)
  clear hK K
  generalize hA : Act.put _ _ _ = a1
  have hz_a1 : a1.tmps.size = 83 := by rw [← hA]; simp only [size_put, hz]
  have u0 : a1.eval (.tmp 0) = .slice (some ⟨gb, off, none⟩) L.length c := by rw [← hA]; exact (by simp [t0])
  have u3 : a1.eval (.tmp 3) = .int .i64 (H.many : Int) := by rw [← hA]; exact (by simp [t3])
  have u4 : a1.eval (.tmp 4) = .int .i64 (H.width : Int) := by rw [← hA]; exact (by simp [t4])
  have u6 : a1.eval (.tmp 6) = .int .i64 (i : Int) := by rw [← hA]; exact (by simp [t6])
  have u7 : a1.eval (.tmp 7) = strV [p0, p1, p2, p3, p4, p5, p6] := by rw [← hA]; exact (by simp [t7])
  have u8 : a1.eval (.tmp 8) = .int .i64 0 := by rw [← hA]; exact (by simp [hz])
  have hd_a1 : a1.defers = [] := by rw [← hA]; simp only [defers_put, hd_a]
  clear hA
  refine wpIn_block (wpIn_loop (fun a W' => ∃ k : Nat, Below W0.heap.size W0 W' ∧ k ≤ i ∧ (∀ (k' : Nat) (q : List UInt8), k' < k → L[k']? = some q → confl [p0, p1, p2, p3, p4, p5, p6] q = false) ∧ a.tmps.size = 83 ∧ a.defers = [] ∧ a.eval (.tmp 0) = .slice (some ⟨gb, off, none⟩) L.length c ∧ a.eval (.tmp 3) = .int .i64 (H.many : Int) ∧ a.eval (.tmp 4) = .int .i64 (H.width : Int) ∧ a.eval (.tmp 6) = .int .i64 (i : Int) ∧ a.eval (.tmp 7) = strV [p0, p1, p2, p3, p4, p5, p6] ∧ a.eval (.tmp 8) = .int .i64 (k : Int)) (fun a _ => i - (intOf (a.eval (.tmp 8))).toNat)
    ⟨0, hb1, Nat.zero_le _, fun k' q h => by omega, hz_a1, hd_a1, u0, u3, u4, u6, u7, u8⟩ ?_)
  rintro b1 W2 ⟨k, hb2, hk, hno, hz_b1, hd_b1, s0, s3, s4, s6, s7, s8⟩
  unfold co_k
  by_cases hlt : k < i
  · have hkl : k < L.length := by omega
    have hy := List.getElem?_eq_getElem hkl
    obtain ⟨gb', off', hA, hgb, hc⟩ := hst k _ hy
    cases hA
    obtain ⟨q, hqe⟩ : ∃ q, L[k] = q := ⟨_, rfl⟩
    rw [hqe] at hy hc
    obtain ⟨q0, q1, q2, q3, q4, q5, q6, rfl, _, _, _⟩ := good_parts (hgd q (List.mem_of_getElem? hy))
    have hc2 := (hb2.cell (p := ⟨gb, off + k, none⟩) hgb).trans hc
    refine wpIn_seq (wpIn_seq (region_p 3 ?_))
    intro K hK
    refine ListK.move (i := 0) (v := .int .i64 (k : Int)) rfl (by simp [s8]) ?_
    refine ListK.move (i := 1) (v := .int .i64 (i : Int)) rfl (by simp [s6]) ?_
    refine ListK.bin (i := 2) (u := .int .i64 (k : Int)) (u' := .int .i64 (i : Int)) (v := .bool true) rfl (by simp [hz_b1]) (by simp [hz_b1]) (lssT3 (by omega) _) ?_
    refine ListK.done (hK _ _ ?_)
    clear hK K
    refine wpIn_cond (t := true) (by simp [hz_b1]) (wpIn_skip ?_)
    generalize hA : Act.put _ _ _ = b2
    have hz_b2 : b2.tmps.size = 83 := by rw [← hA]; simp only [size_put, hz_b1]
    have o0 : b2.eval (.tmp 0) = .slice (some ⟨gb, off, none⟩) L.length c := by rw [← hA]; exact (by simp [s0])
    have o3 : b2.eval (.tmp 3) = .int .i64 (H.many : Int) := by rw [← hA]; exact (by simp [s3])
    have o4 : b2.eval (.tmp 4) = .int .i64 (H.width : Int) := by rw [← hA]; exact (by simp [s4])
    have o6 : b2.eval (.tmp 6) = .int .i64 (i : Int) := by rw [← hA]; exact (by simp [s6])
    have o7 : b2.eval (.tmp 7) = strV [p0, p1, p2, p3, p4, p5, p6] := by rw [← hA]; exact (by simp [s7])
    have o8 : b2.eval (.tmp 8) = .int .i64 (k : Int) := by rw [← hA]; exact (by simp [s8])
    have hd_b2 : b2.defers = [] := by rw [← hA]; simp only [defers_put, hd_b1]
    clear hA
    refine wpIn_seq (wpIn_block ?_)
    refine wpIn_seq (region_p 5 ?_)
    intro K hK
    refine ListK.move (i := 0) (v := .slice (some ⟨gb, off, none⟩) L.length c) rfl (by simp [o0]) ?_
    refine ListK.move (i := 1) (v := .int .i64 (k : Int)) rfl (by simp [o8]) ?_
    refine ListK.index (i := 2) (u := .slice (some ⟨gb, off, none⟩) L.length c) (u' := .int .i64 (k : Int)) (v := .pointer (some ⟨gb, off + k, none⟩)) rfl (by simp [hz_b2]) (by simp [hz_b2]) (ix36 hkl _) ?_
    refine ListK.load (i := 3) (p := ⟨gb, off + k, none⟩) (v := strV [q0, q1, q2, q3, q4, q5, q6]) rfl (by simp [hz_b2]) (ld9 (hc2)) ?_
    refine ListK.assign (i := 4) (v := strV [q0, q1, q2, q3, q4, q5, q6]) rfl (by simp [hz_b2]) ?_
    refine ListK.done (hK _ _ ?_)
    clear hK K
    refine wpIn_seq (co_10_any (p0 := p0) (p1 := p1) (p2 := p2) (p3 := p3) (p4 := p4) (p5 := p5) (p6 := p6) (q0 := q0) (q1 := q1) (q2 := q2) (q3 := q3) (q4 := q4) (q5 := q5) (q6 := q6) (H := H) (i := i) (k := k) (n := L.length) (c := c) (A := some ⟨gb, off, none⟩) (by simp only [size_put, hz_b2]) (by simp only [defers_put, hd_b2]) (by simp [o0]) (by simp [o3]) (by simp [o4]) (by simp [o6]) (by simp [o7]) (by simp [o8]) (by simp [hz_b2]) ?_)
    intro b W' hb' hz_b hd_b y0 y3 y4 y6 y7 y8 y56
    have hb3 := hb2.trans (hb'.mono hb2.size)
    cases hcf : confl [p0, p1, p2, p3, p4, p5, p6] [q0, q1, q2, q3, q4, q5, q6]
    · refine wpIn_cond (t := false) (by rw [← hcf]; exact y56) (wpIn_skip ?_)
      show (Code.wpIn _ _ _ (Code.region _ _ _) _ _ _)
      refine region_p 3 ?_
      intro K hK
      refine ListK.move (i := 0) (v := .int .i64 (k : Int)) rfl (by simp [y8]) ?_
      refine ListK.bin (i := 1) (u := .int .i64 (k : Int)) (u' := .int .i64 1) (v := .int .i64 ((k + 1 : Nat) : Int)) rfl (by simp [hz_b]) (by simp) (add3 (by omega) (by omega) _) ?_
      refine ListK.assign (i := 2) (v := .int .i64 ((k + 1 : Nat) : Int)) rfl (by simp [hz_b]) ?_
      refine ListK.done (hK _ _ ?_)
      clear hK K
      refine ⟨⟨k + 1, hb3, by omega, fun k' q h hq => ?_, (by simp only [size_put, hz_b]), (by simp only [defers_put, hd_b]), (by simp [y0]), (by simp [y3]), (by simp [y4]), (by simp [y6]), (by simp [y7]), (by simp [hz_b])⟩, ?_⟩
      · by_cases hkk : k' = k
        · subst hkk
          rw [hy] at hq
          cases hq
          exact hcf
        · exact hno k' q (by omega) hq
      · rw [s8, show (Act.put _ _ _).eval (.tmp 8) = .int .i64 ((k + 1 : Nat) : Int) from (by simp [hz_b])]
        simp only [intOf]
        omega
    · refine wpIn_cond (t := true) (by rw [← hcf]; exact y56) ?_
      refine wpIn_seq (region_p 1 ?_)
      intro K hK
      refine ListK.assign (i := 0) (v := .bool true) rfl (by simp) ?_
      refine ListK.done (hK _ _ (wpIn_ret ?_))
      exact hret _ _ hb3 (by simp only [defers_put, hd_b]) (by simp [hz_b]) (.inl ⟨k, _, hlt, hy, hcf⟩)
  · have hki : k = i := by omega
    refine wpIn_seq (wpIn_seq (region_p 3 ?_))
    intro K hK
    refine ListK.move (i := 0) (v := .int .i64 (k : Int)) rfl (by simp [s8]) ?_
    refine ListK.move (i := 1) (v := .int .i64 (i : Int)) rfl (by simp [s6]) ?_
    refine ListK.bin (i := 2) (u := .int .i64 (k : Int)) (u' := .int .i64 (i : Int)) (v := .bool false) rfl (by simp [hz_b1]) (by simp [hz_b1]) (lssF3 (by omega) _) ?_
    refine ListK.done (hK _ _ ?_)
    clear hK K
    refine wpIn_cond (t := false) (by simp [hz_b1]) (wpIn_exit ?_)
    show co_c.wpIn _ _ _ _ _ _
    unfold co_c
    refine wpIn_seq (co_12_any (p0 := p0) (p1 := p1) (p2 := p2) (p3 := p3) (p4 := p4) (p5 := p5) (p6 := p6) (H := H) (i := i) (n := L.length) (c := c) (A := some ⟨gb, off, none⟩) hH h0 (by simp only [size_put, hz_b1]) (by simp only [defers_put, hd_b1]) (by simp [s0]) (by simp [s3]) (by simp [s4]) (by simp [s6]) (by simp [s7]) ?_)
    intro b W' hb' hz_b hd_b y0 y3 y4 y6 y82
    have hb3 := hb2.trans (hb'.mono hb2.size)
    cases hpg : pastG H [p0, p1, p2, p3, p4, p5, p6]
    · refine wpIn_cond (t := false) (by rw [← hpg]; exact y82) (wpIn_skip ?_)
      exact hQ _ _ hb3 hz_b hd_b y0 y3 y4 y6 (fun k' q h => hno k' q (by omega)) hpg
    · refine wpIn_cond (t := true) (by rw [← hpg]; exact y82) ?_
      refine wpIn_seq (region_p 1 ?_)
      intro K hK
      refine ListK.assign (i := 0) (v := .bool true) rfl (by simp) ?_
      refine ListK.done (hK _ _ (wpIn_ret ?_))
      exact hret _ _ hb3 (by simp only [defers_put, hd_b]) (by simp [hz_b]) (.inr hpg)
end
set_option maxHeartbeats 400000 in
theorem refContra_any (A : Option Addr) (c : Nat) (L : List (List UInt8)) (hL : L.length ≤ 90000) (hgd : ∀ x, x ∈ L → isGood x = true) (W : World) (hst : StrsAt W W.heap.size A L) : Calls Try.prog 61 #[.slice A L.length c] W (EvP W (.bool (contraB L))) := by
  obtain ⟨H, hHe⟩ : ∃ H, headG L = H := ⟨_, rfl⟩
  have hH : 0 < H.many → HeadB H := by rw [← hHe]; exact headG_b hgd
  refine (callsIn_wide (n := 5)).1 (callsIn_of_wp Try.func61 body61 trivial ?_ rfl)
  obtain ⟨a, ha⟩ : ∃ a : Act, a = { tmps := #[.slice A L.length c] ++ Array.replicate (Try.f61.ntmps - (#[.slice A L.length c] : Array Value).size) undef, defers := [] } := ⟨_, rfl⟩
  have hsz : a.tmps.size = 83 := by rw [ha]; simp [Try.ntmps61]
  have t0 : a.eval (.tmp 0) = .slice A L.length c := by rw [ha]; simp [Act.eval]
  have hd_a : a.defers = [] := by rw [ha]
  rw [← ha]
  clear ha
  unfold code61
  refine wpIn_seq (region_p 1 ?_)
  intro K hK
  refine ListK.assign (i := 0) (v := .bool false) rfl (by simp) ?_
  refine ListK.done (hK _ _ ?_)
  clear hK K
  generalize hA : Act.put _ _ _ = a1
  have hz_a1 : a1.tmps.size = 83 := by rw [← hA]; simp only [size_put, hsz]
  have u0 : a1.eval (.tmp 0) = .slice A L.length c := by rw [← hA]; exact (by simp [t0])
  have hd_a1 : a1.defers = [] := by rw [← hA]; simp only [defers_put, hd_a]
  clear hA
  refine wpIn_seq (region_p 9 ?_)
  intro K hK
  refine ListK.move (i := 0) (v := .slice A L.length c) rfl (by simp [u0]) ?_
  refine ListK.call (i := 1) (vs := #[.slice A L.length c]) rfl (enters_of Try.func62 (by kernel_rfl) rfl) (by simp [hz_a1]) ((refHead_any A c L hL hgd W hst).mono ?_)
  rintro _ W1 ⟨rfl, hb1⟩
  rw [hHe]
  refine ⟨_, rfl, ?_⟩
  refine ListK.move (i := 2) (v := hdT H) rfl (by simp [hz_a1]) ?_
  refine ListK.extract (i := 3) (u := hdT H) (v := .int .i64 (H.many : Int)) rfl (by simp [hz_a1]) (ex30 _ _ _ _) ?_
  refine ListK.extract (i := 4) (u := hdT H) (v := .int .i64 (H.width : Int)) rfl (by simp [hz_a1]) (ex31 _ _ _ _) ?_
  refine ListK.extract (i := 5) (u := hdT H) (v := .int .i64 (H.step : Int)) rfl (by simp [hz_a1]) (ex32 _ _ _ _) ?_
  refine ListK.assign (i := 6) (v := .int .i64 (H.many : Int)) rfl (by simp [hz_a1]) ?_
  refine ListK.assign (i := 7) (v := .int .i64 (H.width : Int)) rfl (by simp [hz_a1]) ?_
  refine ListK.assign (i := 8) (v := .int .i64 (H.step : Int)) rfl (by simp [hz_a1]) ?_
  refine ListK.done (hK _ _ ?_)
  clear hK K
  have hst1 := (hst.below hb1 (Nat.le_refl _)).wide hb1.size
  generalize hA : Act.put _ _ _ = a2
  have hz_a2 : a2.tmps.size = 83 := by rw [← hA]; simp only [size_put, hz_a1]
  have v0 : a2.eval (.tmp 0) = .slice A L.length c := by rw [← hA]; exact (by simp [u0])
  have v3 : a2.eval (.tmp 3) = .int .i64 (H.many : Int) := by rw [← hA]; exact (by simp [hz_a1])
  have v4 : a2.eval (.tmp 4) = .int .i64 (H.width : Int) := by rw [← hA]; exact (by simp [hz_a1])
  have hd_a2 : a2.defers = [] := by rw [← hA]; simp only [defers_put, hd_a1]
  clear hA
  refine wpIn_seq (wpIn_seq (region_p 1 ?_))
  intro K hK
  refine ListK.assign (i := 0) (v := .int .i64 0) rfl (by simp) ?_
  refine ListK.done (hK _ _ ?_)
  clear hK K
  generalize hA : Act.put _ _ _ = a3
  have hz_a3 : a3.tmps.size = 83 := by rw [← hA]; simp only [size_put, hz_a2]
  have x0 : a3.eval (.tmp 0) = .slice A L.length c := by rw [← hA]; exact (by simp [v0])
  have x3 : a3.eval (.tmp 3) = .int .i64 (H.many : Int) := by rw [← hA]; exact (by simp [v3])
  have x4 : a3.eval (.tmp 4) = .int .i64 (H.width : Int) := by rw [← hA]; exact (by simp [v4])
  have x6 : a3.eval (.tmp 6) = .int .i64 0 := by rw [← hA]; exact (by simp [hz_a2])
  have hd_a3 : a3.defers = [] := by rw [← hA]; simp only [defers_put, hd_a2]
  clear hA
  refine wpIn_block (wpIn_loop (fun a W' => ∃ i : Nat, Below W1.heap.size W1 W' ∧ i ≤ L.length ∧ (∀ (i' : Nat) (p : List UInt8), i' < i → L[i']? = some p → (∀ (k : Nat) (q : List UInt8), k < i' → L[k]? = some q → confl p q = false) ∧ pastG H p = false) ∧ a.tmps.size = 83 ∧ a.defers = [] ∧ a.eval (.tmp 0) = .slice A L.length c ∧ a.eval (.tmp 3) = .int .i64 (H.many : Int) ∧ a.eval (.tmp 4) = .int .i64 (H.width : Int) ∧ a.eval (.tmp 6) = .int .i64 (i : Int)) (fun a _ => L.length - (intOf (a.eval (.tmp 6))).toNat)
    ⟨0, Below.refl _ _, Nat.zero_le _, fun i' p h => by omega, hz_a3, hd_a3, x0, x3, x4, x6⟩ ?_)
  rintro b1 W2 ⟨i, hb2, hi, hno, hz_b1, hd_b1, s0, s3, s4, s6⟩
  unfold co_l
  by_cases hlt : i < L.length
  · have hx := List.getElem?_eq_getElem hlt
    obtain ⟨gb, off, hA, hgb, hc⟩ := hst1 i _ hx
    obtain ⟨p, hpe⟩ : ∃ p, L[i] = p := ⟨_, rfl⟩
    rw [hpe] at hx hc
    have hc2 := (hb2.cell (p := ⟨gb, off + i, none⟩) hgb).trans hc
    subst hA
    refine wpIn_seq (wpIn_seq (region_p 4 ?_))
    intro K hK
    refine ListK.move (i := 0) (v := .int .i64 (i : Int)) rfl (by simp [s6]) ?_
    refine ListK.move (i := 1) (v := .slice (some ⟨gb, off, none⟩) L.length c) rfl (by simp [s0]) ?_
    refine ListK.len (i := 2) (u := .slice (some ⟨gb, off, none⟩) L.length c) (v := .int .i64 L.length) rfl (by simp [hz_b1]) (ln36 _ _ _ _ _) rfl ?_
    refine ListK.bin (i := 3) (u := .int .i64 (i : Int)) (u' := .int .i64 L.length) (v := .bool true) rfl (by simp [hz_b1]) (by simp [hz_b1]) (lssT3 (by omega) _) ?_
    refine ListK.done (hK _ _ ?_)
    clear hK K
    refine wpIn_cond (t := true) (by simp [hz_b1]) (wpIn_skip ?_)
    generalize hA : Act.put _ _ _ = b2
    have hz_b2 : b2.tmps.size = 83 := by rw [← hA]; simp only [size_put, hz_b1]
    have o0 : b2.eval (.tmp 0) = .slice (some ⟨gb, off, none⟩) L.length c := by rw [← hA]; exact (by simp [s0])
    have o3 : b2.eval (.tmp 3) = .int .i64 (H.many : Int) := by rw [← hA]; exact (by simp [s3])
    have o4 : b2.eval (.tmp 4) = .int .i64 (H.width : Int) := by rw [← hA]; exact (by simp [s4])
    have o6 : b2.eval (.tmp 6) = .int .i64 (i : Int) := by rw [← hA]; exact (by simp [s6])
    have hd_b2 : b2.defers = [] := by rw [← hA]; simp only [defers_put, hd_b1]
    clear hA
    refine wpIn_seq (wpIn_block ?_)
    refine wpIn_seq (region_p 5 ?_)
    intro K hK
    refine ListK.move (i := 0) (v := .slice (some ⟨gb, off, none⟩) L.length c) rfl (by simp [o0]) ?_
    refine ListK.move (i := 1) (v := .int .i64 (i : Int)) rfl (by simp [o6]) ?_
    refine ListK.index (i := 2) (u := .slice (some ⟨gb, off, none⟩) L.length c) (u' := .int .i64 (i : Int)) (v := .pointer (some ⟨gb, off + i, none⟩)) rfl (by simp [hz_b2]) (by simp [hz_b2]) (ix36 hlt _) ?_
    refine ListK.load (i := 3) (p := ⟨gb, off + i, none⟩) (v := strV p) rfl (by simp [hz_b2]) (ld9 (hc2)) ?_
    refine ListK.assign (i := 4) (v := strV p) rfl (by simp [hz_b2]) ?_
    refine ListK.done (hK _ _ ?_)
    clear hK K
    refine co_b_any (W0 := W1) (H := H) (c := c) hgd hH hL hx hb2 hst1 (by simp only [size_put, hz_b2]) (by simp only [defers_put, hd_b2]) (by simp [o0]) (by simp [o3]) (by simp [o4]) (by simp [o6]) (by simp [hz_b2]) ?_ ?_
    · intro b W' hb' hd_b y2 hor
      refine bodyPost_ret (v := .bool (contraB L)) (res1 Try.results61 ?_) hd_b ⟨rfl, hb1.trans (hb'.mono hb1.size)⟩
      rw [y2]
      congr 1
      exact (decide_eq_true ⟨i, p, hx, by rw [hHe]; exact hor⟩).symm
    · intro b W' hb' hz_b hd_b y0 y3 y4 y6 hn1 hn2
      show (Code.wpIn _ _ _ (Code.region _ _ _) _ _ _)
      refine region_p 3 ?_
      intro K hK
      refine ListK.move (i := 0) (v := .int .i64 (i : Int)) rfl (by simp [y6]) ?_
      refine ListK.bin (i := 1) (u := .int .i64 (i : Int)) (u' := .int .i64 1) (v := .int .i64 ((i + 1 : Nat) : Int)) rfl (by simp [hz_b]) (by simp) (add3 (by omega) (by omega) _) ?_
      refine ListK.assign (i := 2) (v := .int .i64 ((i + 1 : Nat) : Int)) rfl (by simp [hz_b]) ?_
      refine ListK.done (hK _ _ ?_)
      clear hK K
      refine ⟨⟨i + 1, hb', by omega, fun i' q h hq => ?_, (by simp only [size_put, hz_b]), (by simp only [defers_put, hd_b]), (by simp [y0]), (by simp [y3]), (by simp [y4]), (by simp [hz_b])⟩, ?_⟩
      · by_cases hii : i' = i
        · subst hii
          rw [hx] at hq
          cases hq
          exact ⟨hn1, hn2⟩
        · exact hno i' q (by omega) hq
      · rw [s6, show (Act.put _ _ _).eval (.tmp 6) = .int .i64 ((i + 1 : Nat) : Int) from (by simp [hz_b])]
        simp only [intOf]
        omega
  · have hie : i = L.length := by omega
    refine wpIn_seq (wpIn_seq (region_p 4 ?_))
    intro K hK
    refine ListK.move (i := 0) (v := .int .i64 (i : Int)) rfl (by simp [s6]) ?_
    refine ListK.move (i := 1) (v := .slice A L.length c) rfl (by simp [s0]) ?_
    refine ListK.len (i := 2) (u := .slice A L.length c) (v := .int .i64 L.length) rfl (by simp [hz_b1]) (ln36 _ _ _ _ _) rfl ?_
    refine ListK.bin (i := 3) (u := .int .i64 (i : Int)) (u' := .int .i64 L.length) (v := .bool false) rfl (by simp [hz_b1]) (by simp [hz_b1]) (lssF3 (by omega) _) ?_
    refine ListK.done (hK _ _ ?_)
    clear hK K
    refine wpIn_cond (t := false) (by simp [hz_b1]) (wpIn_exit ?_)
    show (Code.wpIn _ _ _ (Code.seq _ _) _ _ _)
    have hcf : contraB L = false := by
      refine decide_eq_false ?_
      rintro ⟨i', p, hi', h⟩
      have h2 := hno i' p (by have := (List.getElem?_eq_some_iff.1 hi').1; omega) hi'
      rw [hHe] at h
      rcases h with ⟨k, q, hk, hq, hc⟩ | hp
      · rw [h2.1 k q hk hq] at hc
        cases hc
      · rw [h2.2] at hp
        cases hp
    refine wpIn_seq (region_p 1 ?_)
    intro K hK
    refine ListK.assign (i := 0) (v := .bool false) rfl (by simp) ?_
    refine ListK.done (hK _ _ (wpIn_ret ?_))
    exact bodyPost_ret (v := .bool (contraB L)) (res1 Try.results61 (by rw [hcf]; exact (by simp [hz_b1]))) (by simp only [defers_put, hd_b1]) ⟨rfl, hb1.trans (hb2.mono hb1.size)⟩
noncomputable def opsTo30 : Array Oper := (Try.f34.body.bind (regionOf 0)).getD #[]
noncomputable def opsTo31 : Array Oper := (Try.f34.body.bind (regionOf 1)).getD #[]
noncomputable def opsTo32 : Array Oper := (Try.f34.body.bind (regionOf 2)).getD #[]
noncomputable def opsTo33 : Array Oper := (Try.f34.body.bind (regionOf 3)).getD #[]
noncomputable def opsTo34 : Array Oper := (Try.f34.body.bind (regionOf 4)).getD #[]
noncomputable def opsTo35 : Array Oper := (Try.f34.body.bind (regionOf 5)).getD #[]
noncomputable def opsTo36 : Array Oper := (Try.f34.body.bind (regionOf 6)).getD #[]
noncomputable def code34 : Code := (.seq (.region 0 opsTo30 false) (.seq (.seq (.region 1 opsTo31 false) (.cond (.tmp 7) (.seq (.region 2 opsTo32 false) .ret) .skip)) (.seq (.seq (.region 3 opsTo33 false) (.seq (.region 4 opsTo34 false) (.cond (.tmp 15) (.seq (.region 5 opsTo35 false) .ret) .skip))) (.seq (.region 6 opsTo36 false) .ret))))
theorem body34 : Try.f34.body = some code34 := by kernel_rfl
set_option maxHeartbeats 400000 in
theorem refTold_any (A : Option Addr) (c : Nat) (L : List (List UInt8)) (hL : L.length ≤ 90000) (hgd : ∀ x, x ∈ L → isGood x = true) (W : World) (hst : StrsAt W W.heap.size A L) : Calls Try.prog 34 #[.slice A L.length c] W (EvP W (.int .i64 (toldG L))) := by
  obtain ⟨H, hHe⟩ : ∃ H, headG L = H := ⟨_, rfl⟩
  refine (callsIn_wide (n := 5)).1 (callsIn_of_wp Try.func34 body34 trivial ?_ rfl)
  obtain ⟨a, ha⟩ : ∃ a : Act, a = { tmps := #[.slice A L.length c] ++ Array.replicate (Try.f34.ntmps - (#[.slice A L.length c] : Array Value).size) undef, defers := [] } := ⟨_, rfl⟩
  have hsz : a.tmps.size = 16 := by rw [ha]; simp [Try.ntmps34]
  have t0 : a.eval (.tmp 0) = .slice A L.length c := by rw [ha]; simp [Act.eval]
  have hd_a : a.defers = [] := by rw [ha]
  rw [← ha]
  clear ha
  unfold code34
  refine wpIn_seq (region_p 1 ?_)
  intro K hK
  refine ListK.assign (i := 0) (v := .int .i64 0) rfl (by simp) ?_
  refine ListK.done (hK _ _ ?_)
  clear hK K
  generalize hA : Act.put _ _ _ = a1
  have hz_a1 : a1.tmps.size = 16 := by rw [← hA]; simp only [size_put, hsz]
  have u0 : a1.eval (.tmp 0) = .slice A L.length c := by rw [← hA]; exact (by simp [t0])
  have u2 : a1.eval (.tmp 2) = .int .i64 0 := by rw [← hA]; exact (by simp [hsz])
  have hd_a1 : a1.defers = [] := by rw [← hA]; simp only [defers_put, hd_a]
  clear hA
  refine wpIn_seq (wpIn_seq (region_p 2 ?_))
  intro K hK
  refine ListK.move (i := 0) (v := .slice A L.length c) rfl (by simp [u0]) ?_
  refine ListK.call (i := 1) (vs := #[.slice A L.length c]) rfl (enters_of Try.func61 (by kernel_rfl) rfl) (by simp [hz_a1]) ((refContra_any A c L hL hgd W hst).mono ?_)
  rintro _ W1 ⟨rfl, hb1⟩
  refine ⟨_, rfl, ?_⟩
  refine ListK.done (hK _ _ ?_)
  clear hK K
  have hst1 := (hst.below hb1 (Nat.le_refl _)).wide hb1.size
  cases hcb : contraB L
  · refine wpIn_cond (t := false) (by rw [← hcb]; exact (by simp [hz_a1])) (wpIn_skip ?_)
    generalize hA : Act.put _ _ _ = a2
    have hz_a2 : a2.tmps.size = 16 := by rw [← hA]; simp only [size_put, hz_a1]
    have v0 : a2.eval (.tmp 0) = .slice A L.length c := by rw [← hA]; exact (by simp [u0])
    have v2 : a2.eval (.tmp 2) = .int .i64 0 := by rw [← hA]; exact (by simp [u2])
    have hd_a2 : a2.defers = [] := by rw [← hA]; simp only [defers_put, hd_a1]
    clear hA
    refine wpIn_seq (wpIn_seq (region_p 9 ?_))
    intro K hK
    refine ListK.move (i := 0) (v := .slice A L.length c) rfl (by simp [v0]) ?_
    refine ListK.call (i := 1) (vs := #[.slice A L.length c]) rfl (enters_of Try.func62 (by kernel_rfl) rfl) (by simp [hz_a2]) ((refHead_any A c L hL hgd W1 hst1).mono ?_)
    rintro _ W2 ⟨rfl, hb2⟩
    rw [hHe]
    refine ⟨_, rfl, ?_⟩
    refine ListK.move (i := 2) (v := hdT H) rfl (by simp [hz_a2]) ?_
    refine ListK.extract (i := 3) (u := hdT H) (v := .int .i64 (H.many : Int)) rfl (by simp [hz_a2]) (ex30 _ _ _ _) ?_
    refine ListK.extract (i := 4) (u := hdT H) (v := .int .i64 (H.width : Int)) rfl (by simp [hz_a2]) (ex31 _ _ _ _) ?_
    refine ListK.extract (i := 5) (u := hdT H) (v := .int .i64 (H.step : Int)) rfl (by simp [hz_a2]) (ex32 _ _ _ _) ?_
    refine ListK.assign (i := 6) (v := .int .i64 (H.many : Int)) rfl (by simp [hz_a2]) ?_
    refine ListK.assign (i := 7) (v := .int .i64 (H.width : Int)) rfl (by simp [hz_a2]) ?_
    refine ListK.assign (i := 8) (v := .int .i64 (H.step : Int)) rfl (by simp [hz_a2]) ?_
    refine ListK.done (hK _ _ ?_)
    clear hK K
    have hB := hb1.trans (hb2.mono hb1.size)
    generalize hA : Act.put _ _ _ = a3
    have hz_a3 : a3.tmps.size = 16 := by rw [← hA]; simp only [size_put, hz_a2]
    have x0 : a3.eval (.tmp 0) = .slice A L.length c := by rw [← hA]; exact (by simp [v0])
    have x2 : a3.eval (.tmp 2) = .int .i64 0 := by rw [← hA]; exact (by simp [v2])
    have x3 : a3.eval (.tmp 3) = .int .i64 (H.many : Int) := by rw [← hA]; exact (by simp [hz_a2])
    have hd_a3 : a3.defers = [] := by rw [← hA]; simp only [defers_put, hd_a2]
    clear hA
    by_cases hm : H.many = 0
    · have hv : toldG L = 7 := by unfold toldG; rw [hcb, hHe, if_neg (by decide), if_pos hm]
      refine wpIn_seq (region_p 2 ?_)
      intro K hK
      refine ListK.move (i := 0) (v := .int .i64 (H.many : Int)) rfl (by simp [x3]) ?_
      refine ListK.bin (i := 1) (u := .int .i64 (H.many : Int)) (u' := .int .i64 0) (v := .bool true) rfl (by simp [hz_a3]) (by simp) (eqlT (by omega) _) ?_
      refine ListK.done (hK _ _ ?_)
      clear hK K
      refine wpIn_cond (t := true) (by simp [hz_a3]) ?_
      refine wpIn_seq (region_p 1 ?_)
      intro K hK
      refine ListK.assign (i := 0) (v := .int .i64 7) rfl (by simp) ?_
      refine ListK.done (hK _ _ (wpIn_ret ?_))
      exact bodyPost_ret (v := .int .i64 (toldG L)) (res1 Try.results34 (by rw [hv]; exact (by simp [hz_a3]))) (by simp only [defers_put, hd_a3]) ⟨rfl, hB⟩
    · have hv : toldG L = 0 := by unfold toldG; rw [hcb, hHe, if_neg (by decide), if_neg hm]
      refine wpIn_seq (region_p 2 ?_)
      intro K hK
      refine ListK.move (i := 0) (v := .int .i64 (H.many : Int)) rfl (by simp [x3]) ?_
      refine ListK.bin (i := 1) (u := .int .i64 (H.many : Int)) (u' := .int .i64 0) (v := .bool false) rfl (by simp [hz_a3]) (by simp) (eqlF (by omega) _) ?_
      refine ListK.done (hK _ _ ?_)
      clear hK K
      refine wpIn_cond (t := false) (by simp [hz_a3]) (wpIn_skip ?_)
      refine wpIn_seq (region_p 1 ?_)
      intro K hK
      refine ListK.assign (i := 0) (v := .int .i64 0) rfl (by simp) ?_
      refine ListK.done (hK _ _ (wpIn_ret ?_))
      exact bodyPost_ret (v := .int .i64 (toldG L)) (res1 Try.results34 (by rw [hv]; exact (by simp [hz_a3]))) (by simp only [defers_put, hd_a3]) ⟨rfl, hB⟩
  · have hv : toldG L = 6 := by unfold toldG; rw [hcb, if_pos rfl]
    refine wpIn_cond (t := true) (by rw [← hcb]; exact (by simp [hz_a1])) ?_
    refine wpIn_seq (region_p 1 ?_)
    intro K hK
    refine ListK.assign (i := 0) (v := .int .i64 6) rfl (by simp) ?_
    refine ListK.done (hK _ _ (wpIn_ret ?_))
    exact bodyPost_ret (v := .int .i64 (toldG L)) (res1 Try.results34 (by rw [hv]; exact (by simp [hz_a1]))) (by simp only [defers_put, hd_a1]) ⟨rfl, hb1⟩
end Go.Proofs.YtmdlmmfbcnkanaaR
namespace Go.Proofs.YtmdlmmfbcnkanaaR
open Go.RowKit Go.Shelf
section
attribute [local irreducible] AnyK StepK
variable {s : Ser} {A As : Option Addr} {n c cs i b3 : Nat} {p0 p1 p2 p3 p4 p5 p6 : UInt8}
end
end Go.Proofs.YtmdlmmfbcnkanaaR
namespace Go.Proofs.YtmdlmmfbcnkanaaR

end Go.Proofs.YtmdlmmfbcnkanaaR
namespace Go.Proofs.YtmdlmmfbcnkanaaR
open Go.RowKit Go.Shelf
section
attribute [local irreducible] AnyK StepK
variable {s : Ser} {T : List (List UInt8)} {r : List UInt8} {W : World}
end
end Go.Proofs.YtmdlmmfbcnkanaaR
namespace Go.Proofs.YtmdlmmfbcnkanaaR
open Go.RowKit Go.Shelf
section
attribute [local irreducible] AnyK StepK
variable {s : Ser} {T : List (List UInt8)} {W : World}
end
end Go.Proofs.YtmdlmmfbcnkanaaR
namespace Go.Proofs.YtmdlmmfbcnkanaaR
open Go.RowKit Go.Shelf
section
attribute [local irreducible] AnyK StepK
variable {s : Ser} {T : List (List UInt8)} {W : World}
end
end Go.Proofs.YtmdlmmfbcnkanaaR
namespace Go.Proofs.YtmdlmmfbcnkanaaR
open Go.RowKit Go.Shelf
section
attribute [local irreducible] AnyK StepK
variable {s : Ser} {T : List (List UInt8)} {W : World}
end
end Go.Proofs.YtmdlmmfbcnkanaaR
namespace Go.Proofs.YtmdlmmfbcnkanaaR
open Go.RowKit Go.Shelf
theorem pieces_mem : ∀ (l acc p : List UInt8), p ∈ pieces acc l → p.length ≤ acc.length + l.length
  | [], acc, p, h => by simp [pieces] at h
  | b :: l, acc, p, h => by
    rw [pieces] at h
    split at h
    · rcases List.mem_cons.1 h with rfl | h
      · simp only [List.length_cons]; omega
      · have := pieces_mem l [] p h
        simp only [List.length_cons, List.length_nil] at this ⊢
        omega
    · have := pieces_mem l _ p h
      simp only [List.length_append, List.length_cons, List.length_nil] at this ⊢
      omega
section
attribute [local irreducible] AnyK StepK
end
end Go.Proofs.YtmdlmmfbcnkanaaR
namespace Go.Proofs.YtmdlmmfbcnkanaaR
open Go.RowKit Go.Shelf
section
attribute [local irreducible] AnyK StepK
end
section
attribute [local irreducible] AnyK StepK
end
end Go.Proofs.YtmdlmmfbcnkanaaR
namespace Go.Proofs.YtmdlmmfbcnkanaaR
open Go.RowKit Go.Shelf
section
attribute [local irreducible] AnyK StepK
end
end Go.Proofs.YtmdlmmfbcnkanaaR
namespace Go.Proofs.YtmdlmmfbcnkanaaR

section
variable {s : Ser} {m : List (List UInt8)} {b p : Nat} {g q : Nat → Nat}
end
end Go.Proofs.YtmdlmmfbcnkanaaR
namespace Go.Proofs.YtmdlmmfbcnkanaaR
open Go.RowKit Go.Shelf
section
attribute [local irreducible] AnyK StepK
variable {s : Ser} {W3 : World} {gl cL cw : Nat} {Aw : Option Addr} {lw : List Nat} {b1 c : Nat} {A : Option Addr}
end
end Go.Proofs.YtmdlmmfbcnkanaaR
namespace Go.Proofs.YtmdlmmfbcnkanaaR
open Go.RowKit Go.Shelf
section
attribute [local irreducible] AnyK StepK
variable {s : Ser} {W3 : World} {gl cL cw : Nat} {Aw : Option Addr} {lw : List Nat} {b1 c : Nat} {A : Option Addr}
end
section
attribute [local irreducible] AnyK StepK
variable {s : Ser} {W : World}
end
end Go.Proofs.YtmdlmmfbcnkanaaR
namespace Go.Proofs.YtmdlmmfbcnkanaaR
open Go.RowKit Go.Shelf
theorem OB.row {W0 W : World} {v : Value} {xs : List UInt8} (h : OB W0 v xs W) (hne : 0 < xs.length) : ∃ g c cur, v = .slice (some ⟨g, 0, none⟩) xs.length c ∧ xs.length ≤ c ∧ W0.heap.size ≤ g ∧ Whole W g 5 cur ∧ ∀ (k : Nat) (x : UInt8), xs[k]? = some x → cur[k]? = some (u8V x) := by
  obtain ⟨A, c, rfl, hc, hb⟩ := h.bytes
  rcases h.own.2 with ⟨h0, h1⟩ | ⟨g, cap, cur, h0, hge, hg, h1, h2, h3, h4⟩
  · omega
  · have hg' : Whole W g 5 cur := hg
    cases h0
    refine ⟨g, _, cur, rfl, hc, hge, hg', fun k x hx => ?_⟩
    obtain ⟨b', o', e, _, h5⟩ := hb k x hx
    cases e
    rw [hg'.cell, Nat.zero_add] at h5
    exact h5
theorem lines_len8 : ∀ L : List (List UInt8), (∀ r, r ∈ L → isGood r = true) → (linesL L).length = 8 * L.length
  | [], _ => rfl
  | r :: L, h => by
    have := lines_len8 L (fun x hx => h x (List.mem_cons_of_mem _ hx))
    have := good_len (h r List.mem_cons_self)
    simp only [linesL, List.length_append, List.length_cons, List.length_nil]
    omega
section
attribute [local irreducible] AnyK StepK
variable {L ps : List (List UInt8)} {W9 : World} {p : List UInt8} {cL cP gp op i t b10 : Nat} {AL : Option Addr}
end
end Go.Proofs.YtmdlmmfbcnkanaaR
namespace Go.Proofs.YtmdlmmfbcnkanaaR
open Go.RowKit Go.Shelf
theorem nodup_sub_len : ∀ {A B : List (List UInt8)}, A.Nodup → (∀ x, x ∈ A → x ∈ B) → A.length ≤ B.length
  | [], _, _, _ => Nat.zero_le _
  | a :: A, B, hA, h => by
    obtain ⟨h1, h2⟩ := List.nodup_cons.1 hA
    have ha := h a List.mem_cons_self
    have ih := nodup_sub_len (A := A) (B := B.erase a) h2 (fun x hx => (List.mem_erase_of_ne (fun e => h1 (by rw [← e]; exact hx))).2 (h x (List.mem_cons_of_mem _ hx)))
    rw [List.length_erase_of_mem ha] at ih
    have := List.length_pos_of_mem ha
    simp only [List.length_cons]
    omega
theorem func_of {gs : List (List UInt8)} (h : readE gs = 0) : Func gs := by
  cases ht : takeUp [] gs with
  | none => simp [readE, ht] at h
  | some m => simpa using takeUp_func gs [] m (fun a b ha => by cases ha) ht
theorem joinR_len {gs : List (List UInt8)} (hg : ∀ r, r ∈ gs → isGood r = true) (h : readE gs = 0) : (joinR gs).length ≤ gs.length := by
  refine nodup_sub_len ?_ (fun x hx => (join_mem hg x).1 hx)
  refine List.Pairwise.imp ?_ (join_sorted hg (func_of h))
  intro a b hab e
  rw [e] at hab
  omega
theorem joinR_good {gs : List (List UInt8)} (hg : ∀ r, r ∈ gs → isGood r = true) : ∀ r, r ∈ joinR gs → isGood r = true := fun r hr => hg r ((join_mem hg r).1 hr)
theorem readC_two {l l' : List UInt8} : readC [l, l'] = if 4000 < l.length ∨ 4000 < l'.length then 3 else readE (goods l ++ goods l') := by
  unfold readC
  by_cases h1 : 4000 < l.length
  · simp [h1]
  · by_cases h2 : 4000 < l'.length
    · simp [h2]
    · simp [h1, h2]
noncomputable def opsJf0 : Array Oper := (Try.f11.body.bind (regionOf 0)).getD #[]
noncomputable def opsJf1 : Array Oper := (Try.f11.body.bind (regionOf 1)).getD #[]
noncomputable def opsJf2 : Array Oper := (Try.f11.body.bind (regionOf 2)).getD #[]
noncomputable def opsJf3 : Array Oper := (Try.f11.body.bind (regionOf 3)).getD #[]
noncomputable def opsJf4 : Array Oper := (Try.f11.body.bind (regionOf 4)).getD #[]
noncomputable def opsJf5 : Array Oper := (Try.f11.body.bind (regionOf 5)).getD #[]
noncomputable def opsJf6 : Array Oper := (Try.f11.body.bind (regionOf 6)).getD #[]
noncomputable def opsJf7 : Array Oper := (Try.f11.body.bind (regionOf 7)).getD #[]
noncomputable def opsJf8 : Array Oper := (Try.f11.body.bind (regionOf 8)).getD #[]
noncomputable def opsJf9 : Array Oper := (Try.f11.body.bind (regionOf 9)).getD #[]
noncomputable def opsJf10 : Array Oper := (Try.f11.body.bind (regionOf 10)).getD #[]
noncomputable def opsJf11 : Array Oper := (Try.f11.body.bind (regionOf 11)).getD #[]
noncomputable def opsJf12 : Array Oper := (Try.f11.body.bind (regionOf 12)).getD #[]
noncomputable def jf_c : Code := (.seq (.seq (.region 10 opsJf10 false) (.cond (.tmp 44) (.seq (.region 11 opsJf11 false) .ret) .skip)) (.seq (.region 12 opsJf12 true) .ret))
noncomputable def jf_b : Code := (.seq (.seq (.region 6 opsJf6 false) (.cond (.tmp 33) (.region 7 opsJf7 false) (.seq (.region 8 opsJf8 false) (.region 9 opsJf9 false)))) jf_c)
noncomputable def code11 : Code := (.seq (.region 0 opsJf0 false) (.seq (.seq (.region 1 opsJf1 false) (.cond (.tmp 16) (.seq (.region 2 opsJf2 false) .ret) .skip)) (.seq (.region 3 opsJf3 false) (.seq (.region 4 opsJf4 false) (.seq (.region 5 opsJf5 false) jf_b)))))
theorem body11 : Try.f11.body = some code11 := by kernel_rfl
section
attribute [local irreducible] AnyK StepK
set_option maxHeartbeats 400000 in
theorem jf_c_any {gs : List (List UInt8)} {rc : Int} {v : Value} {a : Act} {W W8 : World} (hg : ∀ r, r ∈ gs → isGood r = true) (hgl : gs.length ≤ 2000) (hv0 : rc ≠ 0 → v = .slice none 0 0) (hv1 : rc = 0 → readE gs = 0 ∧ (∃ A5 c5, v = .slice A5 (linesL (joinR gs)).length c5 ∧ BytesAt W8 W8.heap.size A5 (linesL (joinR gs))) ∧ ∃ A8 c8, a.eval (.tmp 8) = .slice A8 gs.length c8 ∧ StrsAt W8 W8.heap.size A8 gs)
    (hz : a.tmps.size = 69) (hd_a : a.defers = []) (t5 : a.eval (.tmp 5) = v) (t6 : a.eval (.tmp 6) = .int .i64 rc) (t7 : a.eval (.tmp 7) = .int .i64 rc) (hB : Below W.heap.size W W8) :
    jf_c.wpIn Fence.wide 5 Try.prog (bodyPost Try.prog Try.f11 (TP W true)) a W8 := by
  unfold jf_c
  by_cases h0 : rc = 0
  · obtain ⟨hre, ⟨A5, c5, rfl, hy5⟩, A8, c8, t8, hs8⟩ := hv1 h0
    have hjl := joinR_len hg hre
    have hj8 := lines_len8 (joinR gs) (joinR_good hg)
    subst h0
    refine wpIn_seq (wpIn_seq (region_p 2 ?_))
    intro K hK
    refine ListK.move (i := 0) (v := .int .i64 0) rfl (by simp [t7]) ?_
    refine ListK.bin (i := 1) (u := .int .i64 0) (u' := .int .i64 0) (v := .bool false) rfl (by simp [hz]) (by simp) (neq27F rfl _) ?_
    refine ListK.done (hK _ _ ?_)
    clear hK K
    refine wpIn_cond (t := false) (by simp [hz]) (wpIn_skip ?_)
    generalize hA : Act.put _ _ _ = a2
    have hz_a2 : a2.tmps.size = 69 := by rw [← hA]; simp only [size_put, hz]
    have v5 : a2.eval (.tmp 5) = .slice A5 (linesL (joinR gs)).length c5 := by rw [← hA]; exact (by simp [t5])
    have v6 : a2.eval (.tmp 6) = .int .i64 0 := by rw [← hA]; exact (by simp [t6])
    have v8 : a2.eval (.tmp 8) = .slice A8 gs.length c8 := by rw [← hA]; exact (by simp [t8])
    have hd_a2 : a2.defers = [] := by rw [← hA]; simp only [defers_put, hd_a]
    clear hA
    have hbd := (Below.refl W8.heap.size W8).drew
    have hgr : ∀ w w', (fun w : World => (BytesAt w W8.heap.size A5 (linesL (joinR gs)) ∧ StrsAt w W8.heap.size A8 gs) ∧ Below W8.heap.size W8 w) w → Below w.heap.size w w' → (fun w : World => (BytesAt w W8.heap.size A5 (linesL (joinR gs)) ∧ StrsAt w W8.heap.size A8 gs) ∧ Below W8.heap.size W8 w) w' := fun w w' h hb => ⟨⟨h.1.1.below hb h.2.size, h.1.2.below hb h.2.size⟩, h.2.trans (hb.mono h.2.size)⟩
    have hR0 : (fun w : World => (BytesAt w W8.heap.size A5 (linesL (joinR gs)) ∧ StrsAt w W8.heap.size A8 gs) ∧ Below W8.heap.size W8 w) W8.drew := hgr W8 _ ⟨⟨hy5, hs8⟩, Below.refl _ _⟩ hbd
    refine wpIn_seq (region_K (KpR (fun w : World => (BytesAt w W8.heap.size A5 (linesL (joinR gs)) ∧ StrsAt w W8.heap.size A8 gs) ∧ Below W8.heap.size W8 w) (fun _ => false)) (wideF_plain _) (by kernel_rfl) Try.mixed ?_)
    change AnyK _ _ _ _ 14 (Array.replicate 14 false) _ _
    have hR : (fun w : World => (BytesAt w W8.heap.size A5 (linesL (joinR gs)) ∧ StrsAt w W8.heap.size A8 gs) ∧ Below W8.heap.size W8 w) W8.drew := hR0
    refine AnyK.move (i := 0) may_o (v := .int .i64 0) (by simp [v6]) hR ?_
    refine AnyK.bin (i := 1) may_o (u := .int .i64 0) (u' := .int .i64 (0)) (v := .bool true) (by simp [hz_a2]) (by simp) (fun w => eql27T rfl w) hR ?_
    refine AnyK.move (i := 2) may_o (v := .bool true) (by simp [hz_a2]) hR ?_
    refine AnyK.move (i := 3) may_o (v := .slice A5 (linesL (joinR gs)).length c5) (by simp [v5]) hR (hw := (by exact wanted_g (e := 58) (b' := true) rfl (by simp [hz_a2]) rfl)) ?_
    refine AnyK.convR (i := 4) may_o (u := .slice A5 (linesL (joinR gs)).length c5) (v := strV (linesL (joinR gs))) (by simp [hz_a2]) (fun w hw => cv319 c5 hw.1.1) hR (hw := (by exact wanted_g (e := 58) (b' := true) rfl (by simp [hz_a2]) rfl)) ?_
    refine AnyK.move (i := 5) may_o (v := .slice A8 gs.length c8) (by simp [v8]) hR (hw := (by exact wanted_g (e := 58) (b' := true) rfl (by simp [hz_a2]) rfl)) ?_
    refine AnyK.pick1 (i := 6) (by kernel_rfl) ?_
    refine StepK.call (i := 6) (f := 40) (vs := #[.slice A8 gs.length c8]) rfl (enters_of Try.func40 (by kernel_rfl) rfl) rfl (by simp [hz_a2]) ((refJoin_any A8 c8 gs hgl hg _ (hR.1.2.wide hR.2.size)).mono ?_) (hw := (by exact wanted_g (e := 58) (b' := true) rfl (by simp [hz_a2]) rfl))
    rintro _ V6 ⟨v6, rfl, os6⟩
    obtain ⟨A6, c6, rfl, hs6⟩ := os6.strs
    replace hR : (fun w : World => (BytesAt w W8.heap.size A5 (linesL (joinR gs)) ∧ StrsAt w W8.heap.size A8 gs) ∧ Below W8.heap.size W8 w) V6 := hgr _ _ hR os6.low
    refine ⟨_, rfl, fun _ _ => hR, ?_⟩
    refine AnyK.pick1 (i := 7) (by kernel_rfl) ?_
    refine StepK.call (i := 7) (f := 21) (vs := #[.slice A6 (joinR gs).length c6]) rfl (enters_of Try.func21 (by kernel_rfl) rfl) rfl (by simp [hz_a2]) ((refLines_any A6 c6 (joinR gs) (by omega) (by omega) V6 hs6).mono ?_) (hw := (by exact wanted_g (e := 58) (b' := true) rfl (by simp [hz_a2]) rfl))
    rintro _ V7 ⟨rfl, hW7⟩
    have hWf := hW7.symm
    subst hWf
    refine ⟨_, rfl, fun _ _ => hR, ?_⟩
    refine AnyK.bin (i := 8) may_o (u := strV (linesL (joinR gs))) (u' := strV (linesL (joinR gs))) (v := .bool true) (by simp [hz_a2]) (by simp [hz_a2]) (fun w => by rw [← decide_eq_true (rfl : linesL (joinR gs) = linesL (joinR gs))]; exact eql9n _ _ w) hR (hw := (by exact wanted_g (e := 58) (b' := true) rfl (by simp [hz_a2]) rfl)) ?_
    refine AnyK.pick (i := 9) may_o (b := true) (v := .bool true) (by simp [hz_a2]) (by simp [hz_a2]) hR ?_
    refine AnyK.move (i := 10) may_o (v := .bool true) (by simp [hz_a2]) hR ?_
    refine AnyK.pick1 (i := 11) (by kernel_rfl) ?_
    refine StepK.call (i := 11) (f := 16) (vs := #[]) rfl (enters_of Try.func16 (by kernel_rfl) rfl) rfl (by simp []) ((awake_any _).mono ?_) (hw := (by exact wanted_g (e := 66) (b' := true) rfl (by simp [hz_a2]) rfl))
    rintro _ V11 ⟨rfl, hb11⟩
    replace hR : (fun w : World => (BytesAt w W8.heap.size A5 (linesL (joinR gs)) ∧ StrsAt w W8.heap.size A8 gs) ∧ Below W8.heap.size W8 w) V11 := hgr _ _ hR hb11
    refine ⟨_, rfl, fun _ _ => hR, ?_⟩
    refine AnyK.pick (i := 12) may_o (b := true) (v := .bool true) (by simp [hz_a2]) (by simp [hz_a2]) hR ?_
    refine AnyK.assign (i := 13) may_o (v := .bool true) (by simp [hz_a2]) hR ?_
    refine AnyK.done (by kernel_rfl) ?_
    refine wpIn_ret ?_
    exact bodyPost_ret (v := .bool true) (res1 Try.results11 (by simp [hz_a2])) (by simp only [defers_put, hd_a2]) ⟨rfl, hB.trans (hR.2.mono hB.size)⟩
  · have hv := hv0 h0
    subst hv
    refine wpIn_seq (wpIn_seq (region_p 2 ?_))
    intro K hK
    refine ListK.move (i := 0) (v := .int .i64 rc) rfl (by simp [t7]) ?_
    refine ListK.bin (i := 1) (u := .int .i64 rc) (u' := .int .i64 0) (v := .bool true) rfl (by simp [hz]) (by simp) (neq27T h0 _) ?_
    refine ListK.done (hK _ _ ?_)
    clear hK K
    refine wpIn_cond (t := true) (by simp [hz]) ?_
    generalize hA : Act.put _ _ _ = a2
    have hz_a2 : a2.tmps.size = 69 := by rw [← hA]; simp only [size_put, hz]
    have v5 : a2.eval (.tmp 5) = .slice none 0 0 := by rw [← hA]; exact (by simp [t5])
    have v6 : a2.eval (.tmp 6) = .int .i64 rc := by rw [← hA]; exact (by simp [t6])
    have v7 : a2.eval (.tmp 7) = .int .i64 rc := by rw [← hA]; exact (by simp [t7])
    have hd_a2 : a2.defers = [] := by rw [← hA]; simp only [defers_put, hd_a]
    clear hA
    refine wpIn_seq (region_p 12 ?_)
    intro K hK
    refine ListK.move (i := 0) (v := .int .i64 rc) rfl (by simp [v6]) ?_
    refine ListK.move (i := 1) (v := .int .i64 rc) rfl (by simp [v7]) ?_
    refine ListK.bin (i := 2) (u := .int .i64 rc) (u' := .int .i64 rc) (v := .bool true) rfl (by simp [hz_a2]) (by simp [hz_a2]) (eql27T rfl _) ?_
    refine ListK.move (i := 3) (v := .bool true) rfl (by simp [hz_a2]) ?_
    refine ListK.move (i := 4) (v := .slice none 0 0) rfl (by simp [v5]) ?_ (hw := wanted_g (e := 48) (b' := true) rfl (by simp [hz_a2]) rfl)
    refine ListK.lenW (i := 5) (u := .slice none 0 0) (v := .int .i64 0) rfl (by simp [hz_a2]) (ln31 _ _ _ _ _) rfl ?_ (hw := wanted_g (e := 48) (b' := true) rfl (by simp [hz_a2]) rfl)
    refine ListK.bin (i := 6) (u := .int .i64 0) (u' := .int .i64 0) (v := .bool true) rfl (by simp [hz_a2]) (by simp) (eqlT rfl _) ?_ (hw := wanted_g (e := 48) (b' := true) rfl (by simp [hz_a2]) rfl)
    refine ListK.pick (i := 7) (b := true) (v := .bool true) rfl (by simp [hz_a2]) (by simp [hz_a2]) ?_
    refine ListK.move (i := 8) (v := .bool true) rfl (by simp [hz_a2]) ?_
    refine ListK.call (i := 9) (vs := #[]) rfl (enters_of Try.func16 (by kernel_rfl) rfl) (by simp) ((awake_any W8).mono ?_) (hw := wanted_g (e := 53) (b' := true) rfl (by simp [hz_a2]) rfl)
    rintro _ W9 ⟨rfl, hb9⟩
    refine ⟨_, rfl, ?_⟩
    refine ListK.pick (i := 10) (b := true) (v := .bool true) rfl (by simp [hz_a2]) (by simp [hz_a2]) ?_
    refine ListK.assign (i := 11) (v := .bool true) rfl (by simp [hz_a2]) ?_
    refine ListK.done (hK _ _ (wpIn_ret ?_))
    exact bodyPost_ret (v := .bool true) (res1 Try.results11 (by simp [hz_a2])) (by simp only [defers_put, hd_a2]) ⟨rfl, hB.trans (hb9.mono hB.size)⟩
set_option maxHeartbeats 400000 in
theorem jf_b_any {l l' : List UInt8} {v : Value} {a : Act} {W W3 : World} (hl : l.length ≤ 4100) (hl' : l'.length ≤ 4100) (hv0 : readC [l, l'] ≠ 0 → v = .slice none 0 0) (hv1 : readC [l, l'] = 0 → ∃ A5 c5, v = .slice A5 (linesL (joinR (goods l ++ goods l'))).length c5 ∧ BytesAt W3 W3.heap.size A5 (linesL (joinR (goods l ++ goods l'))))
    (hz : a.tmps.size = 69) (hd_a : a.defers = []) (t0 : a.eval (.tmp 0) = strV l) (t1 : a.eval (.tmp 1) = strV l') (t5 : a.eval (.tmp 5) = v) (t6 : a.eval (.tmp 6) = .int .i64 (readC [l, l'])) (t7 : a.eval (.tmp 7) = .int .i64 0) (t8 : a.eval (.tmp 8) = .slice none 0 0) (hB : Below W.heap.size W W3) :
    jf_b.wpIn Fence.wide 5 Try.prog (bodyPost Try.prog Try.f11 (TP W true)) a W3 := by
  have hgg : ∀ r, r ∈ goods l ++ goods l' → isGood r = true := fun r hr => (List.mem_append.1 hr).elim (goods_good l r) (goods_good l' r)
  have h8 := goods_8 l
  have h8' := goods_8 l'
  have hgl : (goods l ++ goods l').length ≤ 2000 := by rw [List.length_append]; omega
  have hpl := pieces_len l []
  have hpl' := pieces_len l' []
  have hrc := readC_two (l := l) (l' := l')
  unfold jf_b
  by_cases h1 : 4000 < l.length
  · rw [if_pos (.inl h1)] at hrc
    rw [hrc] at hv0 hv1 t6
    refine wpIn_seq (wpIn_seq (region_p 8 ?_))
    intro K hK
    refine ListK.move (i := 0) (v := strV l) rfl (by simp [t0]) ?_
    refine ListK.len (i := 1) (u := strV l) (v := .int .i64 (l.length : Int)) rfl (by simp [hz]) (ln9 _ _ _) rfl ?_
    refine ListK.bin (i := 2) (u := .int .i64 (l.length : Int)) (u' := .int .i64 4000) (v := .bool true) rfl (by simp [hz]) (by simp) (gtrT3 (by omega) _) ?_
    refine ListK.move (i := 3) (v := .bool true) rfl (by simp [hz]) ?_
    refine ListK.passG (i := 4) (e := 29) (b' := true) rfl rfl (by simp [hz]) rfl ?_
    refine ListK.passG (i := 5) (e := 29) (b' := true) rfl rfl (by simp [hz]) rfl ?_
    refine ListK.passG (i := 6) (e := 29) (b' := true) rfl rfl (by simp [hz]) rfl ?_
    refine ListK.pick (i := 7) (b := true) (v := .bool true) rfl (by simp [hz]) (by simp) ?_
    refine ListK.done (hK _ _ ?_)
    clear hK K
    refine wpIn_cond (t := true) (by simp [hz]) ?_
    refine region_p 1 ?_
    intro K hK
    refine ListK.assign (i := 0) (v := .int .i64 3) rfl (by simp) ?_
    refine ListK.done (hK _ _ ?_)
    clear hK K
    show jf_c.wpIn _ _ _ _ _ _
    exact jf_c_any (gs := goods l ++ goods l') (rc := 3) hgg hgl hv0 (fun h => by cases h) (by simp only [size_put, hz]) (by simp only [defers_put, hd_a]) (by simp [t5]) (by simp [t6]) (by simp [hz]) hB
  · by_cases h2 : 4000 < l'.length
    · rw [if_pos (.inr h2)] at hrc
      rw [hrc] at hv0 hv1 t6
      refine wpIn_seq (wpIn_seq (region_p 8 ?_))
      intro K hK
      refine ListK.move (i := 0) (v := strV l) rfl (by simp [t0]) ?_
      refine ListK.len (i := 1) (u := strV l) (v := .int .i64 (l.length : Int)) rfl (by simp [hz]) (ln9 _ _ _) rfl ?_
      refine ListK.bin (i := 2) (u := .int .i64 (l.length : Int)) (u' := .int .i64 4000) (v := .bool false) rfl (by simp [hz]) (by simp) (gtrF3 (by omega) _) ?_
      refine ListK.move (i := 3) (v := .bool false) rfl (by simp [hz]) ?_
      refine ListK.move (i := 4) (v := strV l') rfl (by simp [t1]) ?_ (hw := wanted_g (e := 29) (b' := false) rfl (by simp [hz]) rfl)
      refine ListK.lenW (i := 5) (u := strV l') (v := .int .i64 (l'.length : Int)) rfl (by simp [hz]) (ln9 _ _ _) rfl ?_ (hw := wanted_g (e := 29) (b' := false) rfl (by simp [hz]) rfl)
      refine ListK.bin (i := 6) (u := .int .i64 (l'.length : Int)) (u' := .int .i64 4000) (v := .bool true) rfl (by simp [hz]) (by simp) (gtrT3 (by omega) _) ?_ (hw := wanted_g (e := 29) (b' := false) rfl (by simp [hz]) rfl)
      refine ListK.pick (i := 7) (b := false) (v := .bool true) rfl (by simp [hz]) (by simp [hz]) ?_
      refine ListK.done (hK _ _ ?_)
      clear hK K
      refine wpIn_cond (t := true) (by simp [hz]) ?_
      refine region_p 1 ?_
      intro K hK
      refine ListK.assign (i := 0) (v := .int .i64 3) rfl (by simp) ?_
      refine ListK.done (hK _ _ ?_)
      clear hK K
      show jf_c.wpIn _ _ _ _ _ _
      exact jf_c_any (gs := goods l ++ goods l') (rc := 3) hgg hgl hv0 (fun h => by cases h) (by simp only [size_put, hz]) (by simp only [defers_put, hd_a]) (by simp [t5]) (by simp [t6]) (by simp [hz]) hB
    · rw [if_neg (by omega)] at hrc
      obtain ⟨ht1, _⟩ := told_read hgg
      refine wpIn_seq (wpIn_seq (region_p 8 ?_))
      intro K hK
      refine ListK.move (i := 0) (v := strV l) rfl (by simp [t0]) ?_
      refine ListK.len (i := 1) (u := strV l) (v := .int .i64 (l.length : Int)) rfl (by simp [hz]) (ln9 _ _ _) rfl ?_
      refine ListK.bin (i := 2) (u := .int .i64 (l.length : Int)) (u' := .int .i64 4000) (v := .bool false) rfl (by simp [hz]) (by simp) (gtrF3 (by omega) _) ?_
      refine ListK.move (i := 3) (v := .bool false) rfl (by simp [hz]) ?_
      refine ListK.move (i := 4) (v := strV l') rfl (by simp [t1]) ?_ (hw := wanted_g (e := 29) (b' := false) rfl (by simp [hz]) rfl)
      refine ListK.lenW (i := 5) (u := strV l') (v := .int .i64 (l'.length : Int)) rfl (by simp [hz]) (ln9 _ _ _) rfl ?_ (hw := wanted_g (e := 29) (b' := false) rfl (by simp [hz]) rfl)
      refine ListK.bin (i := 6) (u := .int .i64 (l'.length : Int)) (u' := .int .i64 4000) (v := .bool false) rfl (by simp [hz]) (by simp) (gtrF3 (by omega) _) ?_ (hw := wanted_g (e := 29) (b' := false) rfl (by simp [hz]) rfl)
      refine ListK.pick (i := 7) (b := false) (v := .bool false) rfl (by simp [hz]) (by simp [hz]) ?_
      refine ListK.done (hK _ _ ?_)
      clear hK K
      refine wpIn_cond (t := false) (by simp [hz]) ?_
      generalize hA : Act.put _ _ _ = a2
      have hz_a2 : a2.tmps.size = 69 := by rw [← hA]; simp only [size_put, hz]
      have v0 : a2.eval (.tmp 0) = strV l := by rw [← hA]; exact (by simp [t0])
      have v1 : a2.eval (.tmp 1) = strV l' := by rw [← hA]; exact (by simp [t1])
      have v5 : a2.eval (.tmp 5) = v := by rw [← hA]; exact (by simp [t5])
      have v6 : a2.eval (.tmp 6) = .int .i64 (readC [l, l']) := by rw [← hA]; exact (by simp [t6])
      have v7 : a2.eval (.tmp 7) = .int .i64 0 := by rw [← hA]; exact (by simp [t7])
      have hd_a2 : a2.defers = [] := by rw [← hA]; simp only [defers_put, hd_a]
      clear hA
      refine wpIn_seq (region_p 8 ?_)
      intro K hK
      refine ListK.move (i := 0) (v := strV l) rfl (by simp [v0]) ?_
      refine ListK.call (i := 1) (vs := #[strV l]) rfl (enters_of Try.func33 (by kernel_rfl) rfl) (by simp [hz_a2]) ((refPieces_any l (by omega) W3).mono ?_)
      rintro _ P1 ⟨vp1, rfl, op1⟩
      obtain ⟨Ap1, cp1, rfl, hp1⟩ := op1.strs
      refine ⟨_, rfl, ?_⟩
      refine ListK.call (i := 2) (vs := #[.slice Ap1 (pieces [] l).length cp1]) rfl (enters_of Try.func32 (by kernel_rfl) rfl) (by simp [hz_a2]) ((refGood_any Ap1 cp1 (pieces [] l) (by omega) (fun x hx => by have := pieces_mem l [] x hx; simp only [List.length_nil] at this; omega) P1 hp1).mono ?_)
      rintro _ G1 ⟨vg1, rfl, og1⟩
      replace og1 : OS P1 vg1 (goods l) G1 := og1
      obtain ⟨Ag1, cg1, hvg1, hs1⟩ := og1.strs
      refine ⟨_, rfl, ?_⟩
      refine ListK.move (i := 3) (v := strV l') rfl (by simp [v1]) ?_
      refine ListK.call (i := 4) (vs := #[strV l']) rfl (enters_of Try.func33 (by kernel_rfl) rfl) (by simp [hz_a2]) ((refPieces_any l' (by omega) G1).mono ?_)
      rintro _ P2 ⟨vp2, rfl, op2⟩
      obtain ⟨Ap2, cp2, rfl, hp2⟩ := op2.strs
      refine ⟨_, rfl, ?_⟩
      refine ListK.call (i := 5) (vs := #[.slice Ap2 (pieces [] l').length cp2]) rfl (enters_of Try.func32 (by kernel_rfl) rfl) (by simp [hz_a2]) ((refGood_any Ap2 cp2 (pieces [] l') (by omega) (fun x hx => by have := pieces_mem l' [] x hx; simp only [List.length_nil] at this; omega) P2 hp2).mono ?_)
      rintro _ G2 ⟨vg2, rfl, og2⟩
      replace og2 : OS P2 vg2 (goods l') G2 := og2
      obtain ⟨Ag2, cg2, hvg2, hs2⟩ := og2.strs
      subst hvg2
      have og12 := (og1.below op2.low).below (og2.low.mono (Nat.le_refl _))
      obtain ⟨v8, W8, hap8, os8⟩ := app36n_run (c := cg2) (ty := 36) og12 hs2 (by omega) (by omega)
      refine ⟨_, rfl, ?_⟩
      refine ListK.app36 (i := 6) rfl (by simp [hz_a2]) (by simp [hz_a2]) hap8 ?_
      refine ListK.assign (i := 7) (v := v8) rfl (by simp [hz_a2]) ?_
      refine ListK.done (hK _ _ ?_)
      clear hK K
      obtain ⟨A8, c8, rfl, hs8⟩ := os8.strs
      have hb8 := op1.low.trans (os8.low.mono op1.low.size)
      generalize hA : Act.put _ _ _ = a3
      have hz_a3 : a3.tmps.size = 69 := by rw [← hA]; simp only [size_put, hz_a2]
      have x0 : a3.eval (.tmp 0) = strV l := by rw [← hA]; exact (by simp [v0])
      have x1 : a3.eval (.tmp 1) = strV l' := by rw [← hA]; exact (by simp [v1])
      have x5 : a3.eval (.tmp 5) = v := by rw [← hA]; exact (by simp [v5])
      have x6 : a3.eval (.tmp 6) = .int .i64 (readC [l, l']) := by rw [← hA]; exact (by simp [v6])
      have x8 : a3.eval (.tmp 8) = .slice A8 (goods l ++ goods l').length c8 := by rw [← hA]; exact (by simp [hz_a2])
      have hd_a3 : a3.defers = [] := by rw [← hA]; simp only [defers_put, hd_a2]
      clear hA
      refine region_p 3 ?_
      intro K hK
      refine ListK.move (i := 0) (v := .slice A8 (goods l ++ goods l').length c8) rfl (by simp [x8]) ?_
      refine ListK.call (i := 1) (vs := #[.slice A8 (goods l ++ goods l').length c8]) rfl (enters_of Try.func34 (by kernel_rfl) rfl) (by simp [hz_a3]) ((refTold_any A8 c8 (goods l ++ goods l') (by omega) hgg W8 hs8).mono ?_)
      rintro _ W9 ⟨rfl, hb9⟩
      rw [ht1, ← hrc]
      refine ⟨_, rfl, ?_⟩
      refine ListK.assign (i := 2) (v := .int .i64 (readC [l, l'])) rfl (by simp [hz_a3]) ?_
      refine ListK.done (hK _ _ ?_)
      clear hK K
      have hb39 := hb8.trans (hb9.mono hb8.size)
      show jf_c.wpIn _ _ _ _ _ _
      refine jf_c_any (gs := goods l ++ goods l') (rc := readC [l, l']) (v := v) hgg hgl hv0 (fun h => ?_) (by simp only [size_put, hz_a3]) (by simp only [defers_put, hd_a3]) (by simp [x5]) (by simp [x6]) (by simp [hz_a3]) (hB.trans (hb39.mono hB.size))
      obtain ⟨A5, c5, hv, hy5⟩ := hv1 h
      exact ⟨by rw [← hrc]; exact h, ⟨A5, c5, hv, (hy5.below hb39 (Nat.le_refl _)).more hb39.size⟩, A8, c8, (by simp [x8]), (hs8.below hb9 (Nat.le_refl _)).wide hb9.size⟩
end
set_option maxHeartbeats 400000 in
theorem joins_wp (l l' : List UInt8) (W : World) : Calls Try.prog 11 #[strV l, strV l'] W (TP W true) := by
  refine (callsIn_wide (n := 5)).1 (callsIn_of_wp Try.func11 body11 trivial ?_ rfl)
  obtain ⟨a, ha⟩ : ∃ a : Act, a = { tmps := #[strV l, strV l'] ++ Array.replicate (Try.f11.ntmps - (#[strV l, strV l'] : Array Value).size) undef, defers := [] } := ⟨_, rfl⟩
  have hsz : a.tmps.size = 69 := by rw [ha]; simp [Try.ntmps11]
  have t0 : a.eval (.tmp 0) = strV l := by rw [ha]; simp [Act.eval]
  have t1 : a.eval (.tmp 1) = strV l' := by rw [ha]; simp [Act.eval]
  have hd_a : a.defers = [] := by rw [ha]
  rw [← ha]
  clear ha
  unfold code11
  refine wpIn_seq (region_p 1 ?_)
  intro K hK
  refine ListK.assign (i := 0) (v := .bool false) rfl (by simp) ?_
  refine ListK.done (hK _ _ ?_)
  clear hK K
  generalize hA : Act.put _ _ _ = a1
  have hz_a1 : a1.tmps.size = 69 := by rw [← hA]; simp only [size_put, hsz]
  have u0 : a1.eval (.tmp 0) = strV l := by rw [← hA]; exact (by simp [t0])
  have u1 : a1.eval (.tmp 1) = strV l' := by rw [← hA]; exact (by simp [t1])
  have hd_a1 : a1.defers = [] := by rw [← hA]; simp only [defers_put, hd_a]
  clear hA
  by_cases h1 : 4100 < l.length
  · skip
    refine wpIn_seq (wpIn_seq (region_p 8 ?_))
    intro K hK
    refine ListK.move (i := 0) (v := strV l) rfl (by simp [u0]) ?_
    refine ListK.len (i := 1) (u := strV l) (v := .int .i64 (l.length : Int)) rfl (by simp [hz_a1]) (ln9 _ _ _) rfl ?_
    refine ListK.bin (i := 2) (u := .int .i64 (l.length : Int)) (u' := .int .i64 4100) (v := .bool true) rfl (by simp [hz_a1]) (by simp) (gtrT3 (by omega) _) ?_
    refine ListK.move (i := 3) (v := .bool true) rfl (by simp [hz_a1]) ?_
    refine ListK.passG (i := 4) (e := 12) (b' := true) rfl rfl (by simp [hz_a1]) rfl ?_
    refine ListK.passG (i := 5) (e := 12) (b' := true) rfl rfl (by simp [hz_a1]) rfl ?_
    refine ListK.passG (i := 6) (e := 12) (b' := true) rfl rfl (by simp [hz_a1]) rfl ?_
    refine ListK.pick (i := 7) (b := true) (v := .bool true) rfl (by simp [hz_a1]) (by simp) ?_
    refine ListK.done (hK _ _ ?_)
    clear hK K
    refine wpIn_cond (t := true) (by simp [hz_a1]) ?_
    refine wpIn_seq (region_p 2 ?_)
    intro K hK
    refine ListK.call (i := 0) (vs := #[]) rfl (enters_of Try.func16 (by kernel_rfl) rfl) (by simp) ((awake_any W).mono ?_)
    rintro _ W2 ⟨rfl, hb2⟩
    refine ⟨_, rfl, ?_⟩
    refine ListK.assign (i := 1) (v := .bool true) rfl (by simp [hz_a1]) ?_
    refine ListK.done (hK _ _ (wpIn_ret ?_))
    exact bodyPost_ret (v := .bool true) (res1 Try.results11 (by simp [hz_a1])) (by simp only [defers_put, hd_a1]) ⟨rfl, hb2⟩
  · by_cases h2 : 4100 < l'.length
    · skip
      refine wpIn_seq (wpIn_seq (region_p 8 ?_))
      intro K hK
      refine ListK.move (i := 0) (v := strV l) rfl (by simp [u0]) ?_
      refine ListK.len (i := 1) (u := strV l) (v := .int .i64 (l.length : Int)) rfl (by simp [hz_a1]) (ln9 _ _ _) rfl ?_
      refine ListK.bin (i := 2) (u := .int .i64 (l.length : Int)) (u' := .int .i64 4100) (v := .bool false) rfl (by simp [hz_a1]) (by simp) (gtrF3 (by omega) _) ?_
      refine ListK.move (i := 3) (v := .bool false) rfl (by simp [hz_a1]) ?_
      refine ListK.move (i := 4) (v := strV l') rfl (by simp [u1]) ?_ (hw := wanted_g (e := 12) (b' := false) rfl (by simp [hz_a1]) rfl)
      refine ListK.lenW (i := 5) (u := strV l') (v := .int .i64 (l'.length : Int)) rfl (by simp [hz_a1]) (ln9 _ _ _) rfl ?_ (hw := wanted_g (e := 12) (b' := false) rfl (by simp [hz_a1]) rfl)
      refine ListK.bin (i := 6) (u := .int .i64 (l'.length : Int)) (u' := .int .i64 4100) (v := .bool true) rfl (by simp [hz_a1]) (by simp) (gtrT3 (by omega) _) ?_ (hw := wanted_g (e := 12) (b' := false) rfl (by simp [hz_a1]) rfl)
      refine ListK.pick (i := 7) (b := false) (v := .bool true) rfl (by simp [hz_a1]) (by simp [hz_a1]) ?_
      refine ListK.done (hK _ _ ?_)
      clear hK K
      refine wpIn_cond (t := true) (by simp [hz_a1]) ?_
      refine wpIn_seq (region_p 2 ?_)
      intro K hK
      refine ListK.call (i := 0) (vs := #[]) rfl (enters_of Try.func16 (by kernel_rfl) rfl) (by simp) ((awake_any W).mono ?_)
      rintro _ W2 ⟨rfl, hb2⟩
      refine ⟨_, rfl, ?_⟩
      refine ListK.assign (i := 1) (v := .bool true) rfl (by simp [hz_a1]) ?_
      refine ListK.done (hK _ _ (wpIn_ret ?_))
      exact bodyPost_ret (v := .bool true) (res1 Try.results11 (by simp [hz_a1])) (by simp only [defers_put, hd_a1]) ⟨rfl, hb2⟩
    · skip
      refine wpIn_seq (wpIn_seq (region_p 8 ?_))
      intro K hK
      refine ListK.move (i := 0) (v := strV l) rfl (by simp [u0]) ?_
      refine ListK.len (i := 1) (u := strV l) (v := .int .i64 (l.length : Int)) rfl (by simp [hz_a1]) (ln9 _ _ _) rfl ?_
      refine ListK.bin (i := 2) (u := .int .i64 (l.length : Int)) (u' := .int .i64 4100) (v := .bool false) rfl (by simp [hz_a1]) (by simp) (gtrF3 (by omega) _) ?_
      refine ListK.move (i := 3) (v := .bool false) rfl (by simp [hz_a1]) ?_
      refine ListK.move (i := 4) (v := strV l') rfl (by simp [u1]) ?_ (hw := wanted_g (e := 12) (b' := false) rfl (by simp [hz_a1]) rfl)
      refine ListK.lenW (i := 5) (u := strV l') (v := .int .i64 (l'.length : Int)) rfl (by simp [hz_a1]) (ln9 _ _ _) rfl ?_ (hw := wanted_g (e := 12) (b' := false) rfl (by simp [hz_a1]) rfl)
      refine ListK.bin (i := 6) (u := .int .i64 (l'.length : Int)) (u' := .int .i64 4100) (v := .bool false) rfl (by simp [hz_a1]) (by simp) (gtrF3 (by omega) _) ?_ (hw := wanted_g (e := 12) (b' := false) rfl (by simp [hz_a1]) rfl)
      refine ListK.pick (i := 7) (b := false) (v := .bool false) rfl (by simp [hz_a1]) (by simp [hz_a1]) ?_
      refine ListK.done (hK _ _ ?_)
      clear hK K
      refine wpIn_cond (t := false) (by simp [hz_a1]) (wpIn_skip ?_)
      generalize hA : Act.put _ _ _ = a2
      have hz_a2 : a2.tmps.size = 69 := by rw [← hA]; simp only [size_put, hz_a1]
      have v0 : a2.eval (.tmp 0) = strV l := by rw [← hA]; exact (by simp [u0])
      have v1 : a2.eval (.tmp 1) = strV l' := by rw [← hA]; exact (by simp [u1])
      have hd_a2 : a2.defers = [] := by rw [← hA]; simp only [defers_put, hd_a1]
      clear hA
      refine wpIn_seq (region_p 10 ?_)
      intro K hK
      refine ListK.move (i := 0) (v := strV l) rfl (by simp [v0]) ?_
      refine ListK.call (i := 1) (vs := #[strV l]) rfl (enters_of Try.func26 (by kernel_rfl) rfl) (by simp [hz_a2]) ((bytes_any l (by omega) W).mono ?_)
      rintro _ V1 ⟨v1, rfl, ob1⟩
      obtain ⟨A1, c1, rfl, hc1, hy1⟩ := ob1.bytes
      refine ⟨_, rfl, ?_⟩
      refine ListK.move (i := 2) (v := strV l') rfl (by simp [v1]) ?_
      refine ListK.call (i := 3) (vs := #[strV l']) rfl (enters_of Try.func26 (by kernel_rfl) rfl) (by simp [hz_a2]) ((bytes_any l' (by omega) V1).mono ?_)
      rintro _ V2 ⟨v2, rfl, ob2⟩
      obtain ⟨A2, c2, rfl, hc2, hy2⟩ := ob2.bytes
      refine ⟨_, rfl, ?_⟩
      refine ListK.call (i := 4) (vs := #[.slice A1 l.length c1, .slice A2 l'.length c2]) rfl (enters_of Try.func39 (by kernel_rfl) rfl) (by simp [hz_a2]) ((join_any A1 A2 c1 c2 l l' V2 hc1 (by omega) ((hy1.below ob2.low (Nat.le_refl _)).more ob2.low.size) hc2 (by omega) hy2).mono ?_)
      rintro e W3 ⟨hb3, v5, rfl, hv0, hv1⟩
      refine ⟨_, rfl, ?_⟩
      refine ListK.move (i := 5) (v := .tuple #[v5, .int .i64 (readC [l, l'])]) rfl (by simp [hz_a2]) ?_
      refine ListK.extract (i := 6) (u := .tuple #[v5, .int .i64 (readC [l, l'])]) (v := v5) rfl (by simp [hz_a2]) (ex0 _ _ _) ?_
      refine ListK.extract (i := 7) (u := .tuple #[v5, .int .i64 (readC [l, l'])]) (v := .int .i64 (readC [l, l'])) rfl (by simp [hz_a2]) (ex1 _ _ _) ?_
      refine ListK.assign (i := 8) (v := v5) rfl (by simp [hz_a2]) ?_
      refine ListK.assign (i := 9) (v := .int .i64 (readC [l, l'])) rfl (by simp [hz_a2]) ?_
      refine ListK.done (hK _ _ ?_)
      clear hK K
      have hb13 := ob1.low.trans ((ob2.low.trans (hb3.mono ob2.low.size)).mono ob1.low.size)
      have hfl : [l, l'].flatMap goods = goods l ++ goods l' := by simp
      rw [hfl] at hv1
      generalize hA : Act.put _ _ _ = a3
      have hz_a3 : a3.tmps.size = 69 := by rw [← hA]; simp only [size_put, hz_a2]
      have x0 : a3.eval (.tmp 0) = strV l := by rw [← hA]; exact (by simp [v0])
      have x1 : a3.eval (.tmp 1) = strV l' := by rw [← hA]; exact (by simp [v1])
      have x5 : a3.eval (.tmp 5) = v5 := by rw [← hA]; exact (by simp [hz_a2])
      have x6 : a3.eval (.tmp 6) = .int .i64 (readC [l, l']) := by rw [← hA]; exact (by simp [hz_a2])
      have hd_a3 : a3.defers = [] := by rw [← hA]; simp only [defers_put, hd_a2]
      clear hA
      refine wpIn_seq (region_p 1 ?_)
      intro K hK
      refine ListK.assign (i := 0) (v := .int .i64 0) rfl (by simp) ?_
      refine ListK.done (hK _ _ ?_)
      clear hK K
      refine wpIn_seq (region_p 1 ?_)
      intro K hK
      refine ListK.assign (i := 0) (v := .slice none 0 0) rfl (by simp) ?_
      refine ListK.done (hK _ _ ?_)
      clear hK K
      show jf_b.wpIn _ _ _ _ _ _
      exact jf_b_any (by omega) (by omega) hv0 (fun h => by obtain ⟨A, c, h1, _, h2⟩ := (hv1 h).bytes; exact ⟨A, c, h1, h2⟩) (by simp only [size_put, hz_a3]) (by simp only [defers_put, hd_a3]) (by simp [x0]) (by simp [x1]) (by simp [x5]) (by simp [x6]) (by simp [hz_a3]) (by simp [hz_a3]) hb13
end Go.Proofs.YtmdlmmfbcnkanaaR
