/- Texts for the laws of package file, part 2: contracts of the program's functions, each for every input that its words name. -/
import Derived.Test.YtmdlmmfbcnkanaaRA1
import Derived.RangeFuncNested
import Derived.Maps.RangeRun
import Derived.Laws.CopyRow

set_option linter.unusedVariables false
set_option maxRecDepth 10000

namespace Go.Proofs.YtmdlmmfbcnkanaaR
open Go.RowKit Go.Shelf
noncomputable def opsGd0 : Array Oper := (Try.f67.body.bind (regionOf 0)).getD #[]
noncomputable def opsGd1 : Array Oper := (Try.f67.body.bind (regionOf 1)).getD #[]
noncomputable def opsGd2 : Array Oper := (Try.f67.body.bind (regionOf 2)).getD #[]
noncomputable def opsGd3 : Array Oper := (Try.f67.body.bind (regionOf 3)).getD #[]
noncomputable def opsGd4 : Array Oper := (Try.f67.body.bind (regionOf 4)).getD #[]
noncomputable def opsGd5 : Array Oper := (Try.f67.body.bind (regionOf 5)).getD #[]
noncomputable def opsGd6 : Array Oper := (Try.f67.body.bind (regionOf 6)).getD #[]
noncomputable def opsGd7 : Array Oper := (Try.f67.body.bind (regionOf 7)).getD #[]
noncomputable def opsGd8 : Array Oper := (Try.f67.body.bind (regionOf 8)).getD #[]
noncomputable def gd_b : Code := (.seq (.region 8 opsGd8 false) .ret)
noncomputable def code67 : Code := (.seq (.region 0 opsGd0 false) (.seq (.seq (.region 1 opsGd1 false) (.cond (.tmp 9) (.seq (.region 2 opsGd2 false) .ret) .skip)) (.seq (.region 3 opsGd3 false) (.seq (.region 4 opsGd4 false) (.seq (.region 5 opsGd5 false) (.seq (.seq (.region 6 opsGd6 true) (.cond (.tmp 41) (.seq (.region 7 opsGd7 false) .ret) .skip)) gd_b))))))
theorem body67 : Try.f67.body = some code67 := by kernel_rfl
theorem ix110 {b n c : Nat} {i : Nat} (h : i < n) (w : World) : (Instr.indexAt 110 (.slice (some ⟨b, 0, none⟩) n c) (.int .i64 i)).run Try.prog w = .ok (.pointer (some ⟨b, i * 2, none⟩)) w := by
  go_simp
theorem fa113_1 {b o : Nat} (w : World) : (Instr.fieldAt 113 (.pointer (some ⟨b, o, none⟩)) 1).run Try.prog w = .ok (.pointer (some ⟨b, o + 1, none⟩)) w := by go_simp
theorem ld111 {w : World} {p : Addr} {v : Value} (h : w.cell? p = some v) : (Instr.loadAt 111 (.pointer (some p))).run Try.prog w = .ok v w := by
  go_simp
theorem sl31L {A : Option Addr} {b o n c k : Nat} (h : k ≤ n) (h2 : n ≤ c) (hc : k < c) (w : World) : (Instr.sliceAt 31 (.slice (some ⟨b, o, none⟩) n c) (some (.int .i64 k)) none none).run Try.prog w = .ok (.slice (some ⟨b, o + k, none⟩) (n - k) (c - k)) w := by
  go_simp
  omega
theorem good7_of {c0 c1 c2 c3 c4 c5 c6 : UInt8} {dg hb : Bool} (hk : c0 = 72 ∨ c0 = 82 ∨ c0 = 80) (hd : dg = [c1, c2, c3, c4, c5, c6].all isDig) (hh : c0 = 72 → hb = headOk (num2 c1 c2) (dig c3) (dig c4)) (hn : c0 ≠ 72 → hb = true) :
    isGood [c0, c1, c2, c3, c4, c5, c6] = (dg && (num2 c5 c6 == chk5 c0 c1 c2 c3 c4) && hb) := by
  have h1 : (c0 == 72 || c0 == 82 || c0 == 80) = true := by rcases hk with h | h | h <;> simp [h]
  subst hd
  show good7 c0 c1 c2 c3 c4 c5 c6 = _
  unfold good7
  rw [h1]
  by_cases h : c0 = 72
  · rw [hh h]
    simp [h, List.all_cons, Bool.and_assoc]
  · have hne : (c0 != 72) = true := by simpa [bne_iff_ne] using h
    rw [hn h, hne]
    simp [List.all_cons, Bool.and_assoc]
theorem bad_kind {c0 c1 c2 c3 c4 c5 c6 : UInt8} (h1 : c0 ≠ 72) (h2 : c0 ≠ 82) (h3 : c0 ≠ 80) : isGood [c0, c1, c2, c3, c4, c5, c6] = false := by
  show good7 c0 c1 c2 c3 c4 c5 c6 = _
  simp [good7, h1, h2, h3]
section
variable {P : Program} {ops : Array Oper} {K : Act → World → Prop} {Kp : Nat → World → World → Prop} {fuel : Nat} {listed : Array Bool} {a : Act} {w : World} {i d : Nat} {ty : TypeId} {pos : String} {aft : Array Edge} {gd : Option (Nat × Bool)} {v : Value}
theorem StepK.load {t : TypeId} {x : Operand} {p : Addr} (hi : ops[i]? = some ⟨some d, .load t x, ty, pos, aft, gd⟩) (hx : a.eval x = .pointer (some p)) (hv : (Instr.loadAt t (.pointer (some p))).run P w = .ok v w) (hk : Kp i w w)
    (h : AnyK P ops K Kp fuel (listed.setIfInBounds i true) (a.put (some d) v) w) (hw : Region.wanted ⟨some d, .load t x, ty, pos, aft, gd⟩ (yielded ops a.tmps) = true := by rfl) : StepK P ops K Kp fuel listed a w i := by
  unfold StepK opG
  simp only [hi]
  rw [if_pos hw]
  simp [Oper.wp, execOp, hx, hv, Oper.upon]
  exact ⟨hk, h⟩
end
section
attribute [local irreducible] AnyK StepK
variable {c0 c1 c2 c3 c4 c5 c6 : UInt8} {a1 : Act} {W1 : World} {b off c b4 : Nat} {Q : Exit → Act → World → Prop}
set_option maxHeartbeats 400000 in
theorem gd6_bad (h1 : c0 ≠ 72) (h2 : c0 ≠ 82) (h3 : c0 ≠ 80) (hz_a1 : a1.tmps.size = 44) (hd_a1 : a1.defers = []) (u0 : a1.eval (.tmp 0) = .slice (some ⟨b, off, none⟩) 7 c) (u4 : a1.eval (.tmp 4) = .pointer (some ⟨b4, 0, none⟩)) (u5 : a1.eval (.tmp 5) = .func (.func 87) #[] #[]) (hc : 7 ≤ c) (hs : BytesAt W1 W1.heap.size (some ⟨b, off, none⟩) [c0, c1, c2, c3, c4, c5, c6]) (w4 : Whole W1 b4 83 (r7 c0 c1 c2 c3 c4 c5 c6)) (u6 : a1.eval (.tmp 6) = .int .i64 (-1)) (hQ : ∀ a' W', a'.tmps.size = 44 → a'.defers = [] → a'.eval (.tmp 41) = .bool (!isGood [c0, c1, c2, c3, c4, c5, c6]) → (∀ e : Nat, e < 17 → a'.eval (.tmp e) = a1.eval (.tmp e)) → Below W1.heap.size W1 W' → Q .normal a' W') : (Code.region 6 opsGd6 true).wpIn Fence.wide 5 Try.prog Q a1 W1 := by
  rw [bad_kind h1 h2 h3] at hQ
  refine region_K (KpR (fun w : World => Whole w b4 83 (r7 c0 c1 c2 c3 c4 c5 c6)) (fun _ => false)) (wideF_plain _) (by kernel_rfl) Try.mixed ?_
  change AnyK _ _ _ _ 25 (Array.replicate 25 false) _ _
  have hR : (fun w : World => Whole w b4 83 (r7 c0 c1 c2 c3 c4 c5 c6)) W1.drew := w4.below ((Below.refl W1.heap.size W1).drew) w4.lt
  refine AnyK.move (i := 0) may_o (v := .int .i64 (-1)) (by simp [u6]) hR ?_
  refine AnyK.bin (i := 1) may_o (u := .int .i64 (-1)) (u' := .int .i64 (0)) (v := .bool true) (by simp [hz_a1]) (by simp) (fun w => lssT3 (by decide) w) hR ?_
  refine AnyK.move (i := 2) may_o (v := .bool true) (by simp [hz_a1]) hR ?_
  refine AnyK.passG (i := 3) may_o (e := 19) (b' := true) rfl (by simp [hz_a1]) rfl hR ?_
  refine AnyK.passG (i := 4) may_o (e := 19) (b' := true) rfl (by simp [hz_a1]) rfl hR ?_
  refine AnyK.passG (i := 5) may_o (e := 19) (b' := true) rfl (by simp [hz_a1]) rfl hR ?_
  refine AnyK.passG (i := 6) may_o (e := 19) (b' := true) rfl (by simp [hz_a1]) rfl hR ?_
  refine AnyK.passG (i := 7) may_o (e := 19) (b' := true) rfl (by simp [hz_a1]) rfl hR ?_
  refine AnyK.pick (i := 8) may_o (b := true) (v := .bool true) (by simp [hz_a1]) (by simp) hR ?_
  refine AnyK.move (i := 9) may_o (v := .bool true) (by simp [hz_a1]) hR ?_
  refine AnyK.passG (i := 10) may_o (e := 26) (b' := true) rfl (by simp [hz_a1]) rfl hR ?_
  refine AnyK.passG (i := 11) may_o (e := 26) (b' := true) rfl (by simp [hz_a1]) rfl hR ?_
  refine AnyK.passG (i := 12) may_o (e := 26) (b' := true) rfl (by simp [hz_a1]) rfl hR ?_
  refine AnyK.passG (i := 13) may_o (e := 26) (b' := true) rfl (by simp [hz_a1]) rfl hR ?_
  refine AnyK.pick (i := 14) may_o (b := true) (v := .bool true) (by simp [hz_a1]) (by simp) hR ?_
  refine AnyK.move (i := 15) may_o (v := .bool true) (by simp [hz_a1]) hR ?_
  refine AnyK.passG (i := 16) may_o (e := 32) (b' := true) rfl (by simp [hz_a1]) rfl hR ?_
  refine AnyK.passG (i := 17) may_o (e := 32) (b' := true) rfl (by simp [hz_a1]) rfl hR ?_
  refine AnyK.passG (i := 18) may_o (e := 32) (b' := true) rfl (by simp [hz_a1]) rfl hR ?_
  refine AnyK.passG (i := 19) may_o (e := 32) (b' := true) rfl (by simp [hz_a1]) rfl hR ?_
  refine AnyK.passG (i := 20) may_o (e := 32) (b' := true) rfl (by simp [hz_a1]) rfl hR ?_
  refine AnyK.passG (i := 21) may_o (e := 32) (b' := true) rfl (by simp [hz_a1]) rfl hR ?_
  refine AnyK.passG (i := 22) may_o (e := 32) (b' := true) rfl (by simp [hz_a1]) rfl hR ?_
  refine AnyK.passG (i := 23) may_o (e := 32) (b' := true) rfl (by simp [hz_a1]) rfl hR ?_
  refine AnyK.pick (i := 24) may_o (b := true) (v := .bool true) (by simp [hz_a1]) (by simp) hR ?_
  refine AnyK.done (by kernel_rfl) ?_
  refine hQ _ _ (by simp only [size_put, hz_a1]) (by simp only [defers_put, hd_a1]) (by simp [hz_a1]) (fun e h1 => ?_) ((Below.refl W1.heap.size W1).drew)
  iterate 25 refine (ev_ne (by omega)).trans ?_
  rfl
set_option maxHeartbeats 1000000 in
theorem gd6_ok {kx : Nat} {f : FuncId} {dg hb : Bool} (hk : c0 = 72 ∨ c0 = 82 ∨ c0 = 80) (hd : dg = [c1, c2, c3, c4, c5, c6].all isDig) (hh : c0 = 72 → hb = headOk (num2 c1 c2) (dig c3) (dig c4)) (hn : c0 ≠ 72 → hb = true) (hkx : kx < 3) (hkf : kindC[kx * 2 + 1]? = some (.func (.func f) #[] #[]))
    (he : ∀ args w, (callFunc f args).run Try.prog w = .ok (.enter f args) w) (hf : ∀ W, Calls Try.prog f #[rV c0 c1 c2 c3 c4 c5 c6] W (EvP W (.bool hb)))
    (hz_a1 : a1.tmps.size = 44) (hd_a1 : a1.defers = []) (u0 : a1.eval (.tmp 0) = .slice (some ⟨b, off, none⟩) 7 c) (u4 : a1.eval (.tmp 4) = .pointer (some ⟨b4, 0, none⟩)) (u5 : a1.eval (.tmp 5) = .func (.func 87) #[] #[]) (hc : 7 ≤ c) (hs : BytesAt W1 W1.heap.size (some ⟨b, off, none⟩) [c0, c1, c2, c3, c4, c5, c6]) (w4 : Whole W1 b4 83 (r7 c0 c1 c2 c3 c4 c5 c6)) (u6 : a1.eval (.tmp 6) = .int .i64 (kx : Int)) (hQ : ∀ a' W', a'.tmps.size = 44 → a'.defers = [] → a'.eval (.tmp 41) = .bool (!isGood [c0, c1, c2, c3, c4, c5, c6]) → (∀ e : Nat, e < 17 → a'.eval (.tmp e) = a1.eval (.tmp e)) → Below W1.heap.size W1 W' → Q .normal a' W') : (Code.region 6 opsGd6 true).wpIn Fence.wide 5 Try.prog Q a1 W1 := by
  rw [good7_of hk hd hh hn] at hQ
  have hsd : BytesAt W1.drew W1.drew.heap.size (some ⟨b, off + 1, none⟩) [c1, c2, c3, c4, c5, c6] := by
    intro k x hx
    obtain ⟨b', o', e, hlt, hcell⟩ := hs (k + 1) x (by simpa using hx)
    cases e
    exact ⟨b, off + 1, rfl, hlt, by rw [show off + 1 + k = off + (k + 1) by omega]; exact hcell⟩
  have hB0 : Below W1.heap.size W1 W1.drew := (Below.refl _ _).drew
  have hall := allDigits_any (some ⟨b, off + 1, none⟩) [c1, c2, c3, c4, c5, c6] (c - 1) W1.drew (by simp) hsd
  rw [← hd] at hall
  cases dg with
  | false =>
    refine region_K (KpR (fun w : World => Whole w b4 83 (r7 c0 c1 c2 c3 c4 c5 c6)) (fun _ => false)) (wideF_plain _) (by kernel_rfl) Try.mixed ?_
    change AnyK _ _ _ _ 25 (Array.replicate 25 false) _ _
    have hR : (fun w : World => Whole w b4 83 (r7 c0 c1 c2 c3 c4 c5 c6)) W1.drew := w4.below ((Below.refl W1.heap.size W1).drew) w4.lt
    refine AnyK.move (i := 0) may_o (v := .int .i64 (kx : Int)) (by simp [u6]) hR ?_
    refine AnyK.bin (i := 1) may_o (u := .int .i64 (kx : Int)) (u' := .int .i64 (0)) (v := .bool false) (by simp [hz_a1]) (by simp) (fun w => lssF3 (by omega) w) hR ?_
    refine AnyK.move (i := 2) may_o (v := .bool false) (by simp [hz_a1]) hR ?_
    refine AnyK.move (i := 3) may_o (v := .slice (some ⟨b, off, none⟩) 7 c) (by simp [u0]) hR (hw := (by exact wanted_g (e := 19) (b' := false) rfl (by simp [hz_a1]) rfl)) ?_
    refine AnyK.sliceL (i := 4) may_o (u := .slice (some ⟨b, off, none⟩) 7 c) (u' := .int .i64 (1)) (v := .slice (some ⟨b, off + 1, none⟩) 6 (c - 1)) (by simp [hz_a1]) (by simp) (fun w => sl31L (A := none) (k := 1) (by omega) hc (by omega) w) hR (hw := (by exact wanted_g (e := 19) (b' := false) rfl (by simp [hz_a1]) rfl)) ?_
    refine AnyK.move (i := 5) may_o (v := .func (.func 87) #[] #[]) (by simp [u5]) hR (hw := (by exact wanted_g (e := 19) (b' := false) rfl (by simp [hz_a1]) rfl)) ?_
    refine AnyK.pick1 (i := 6) (by kernel_rfl) ?_
    refine StepK.call (i := 6) (f := 89) (vs := #[.slice (some ⟨b, off + 1, none⟩) 6 (c - 1), .func (.func 87) #[] #[]]) rfl (enters_of Try.func89 (by kernel_rfl) rfl) rfl (by simp [hz_a1]) ((hall).mono ?_) (hw := (by exact wanted_g (e := 19) (b' := false) rfl (by simp [hz_a1]) rfl))
    rintro _ W2 ⟨rfl, hb2⟩
    have w42 := (w4.below hB0 w4.lt).below hb2 w4.lt
    have hB2 := hB0.trans (hb2.mono hB0.size)
    replace hR : (fun w : World => Whole w b4 83 (r7 c0 c1 c2 c3 c4 c5 c6)) W2 := w42
    refine ⟨_, rfl, fun _ _ => hR, ?_⟩
    refine AnyK.un (i := 7) may_o (u := .bool false) (v := .bool true) (by simp [hz_a1]) (fun w => not4 _ w) hR (hw := (by exact wanted_g (e := 19) (b' := false) rfl (by simp [hz_a1]) rfl)) ?_
    refine AnyK.pick (i := 8) may_o (b := false) (v := .bool true) (by simp [hz_a1]) (by simp [hz_a1]) hR ?_
    refine AnyK.move (i := 9) may_o (v := .bool true) (by simp [hz_a1]) hR ?_
    refine AnyK.passG (i := 10) may_o (e := 26) (b' := true) rfl (by simp [hz_a1]) rfl hR ?_
    refine AnyK.passG (i := 11) may_o (e := 26) (b' := true) rfl (by simp [hz_a1]) rfl hR ?_
    refine AnyK.passG (i := 12) may_o (e := 26) (b' := true) rfl (by simp [hz_a1]) rfl hR ?_
    refine AnyK.passG (i := 13) may_o (e := 26) (b' := true) rfl (by simp [hz_a1]) rfl hR ?_
    refine AnyK.pick (i := 14) may_o (b := true) (v := .bool true) (by simp [hz_a1]) (by simp) hR ?_
    refine AnyK.move (i := 15) may_o (v := .bool true) (by simp [hz_a1]) hR ?_
    refine AnyK.passG (i := 16) may_o (e := 32) (b' := true) rfl (by simp [hz_a1]) rfl hR ?_
    refine AnyK.passG (i := 17) may_o (e := 32) (b' := true) rfl (by simp [hz_a1]) rfl hR ?_
    refine AnyK.passG (i := 18) may_o (e := 32) (b' := true) rfl (by simp [hz_a1]) rfl hR ?_
    refine AnyK.passG (i := 19) may_o (e := 32) (b' := true) rfl (by simp [hz_a1]) rfl hR ?_
    refine AnyK.passG (i := 20) may_o (e := 32) (b' := true) rfl (by simp [hz_a1]) rfl hR ?_
    refine AnyK.passG (i := 21) may_o (e := 32) (b' := true) rfl (by simp [hz_a1]) rfl hR ?_
    refine AnyK.passG (i := 22) may_o (e := 32) (b' := true) rfl (by simp [hz_a1]) rfl hR ?_
    refine AnyK.passG (i := 23) may_o (e := 32) (b' := true) rfl (by simp [hz_a1]) rfl hR ?_
    refine AnyK.pick (i := 24) may_o (b := true) (v := .bool true) (by simp [hz_a1]) (by simp) hR ?_
    refine AnyK.done (by kernel_rfl) ?_
    refine hQ _ _ (by simp only [size_put, hz_a1]) (by simp only [defers_put, hd_a1]) (by simp [hz_a1]) (fun e h1 => ?_) hB2
    iterate 25 refine (ev_ne (by omega)).trans ?_
    rfl
  | true =>
    by_cases hck : num2 c5 c6 = chk5 c0 c1 c2 c3 c4
    · have hck2 : (num2 c5 c6 == chk5 c0 c1 c2 c3 c4) = true := by simpa using hck
      rw [hck2] at hQ
      refine region_K (KpR (fun w : World => Whole w b4 83 (r7 c0 c1 c2 c3 c4 c5 c6)) (fun _ => false)) (wideF_plain _) (by kernel_rfl) Try.mixed ?_
      change AnyK _ _ _ _ 25 (Array.replicate 25 false) _ _
      have hR : (fun w : World => Whole w b4 83 (r7 c0 c1 c2 c3 c4 c5 c6)) W1.drew := w4.below ((Below.refl W1.heap.size W1).drew) w4.lt
      refine AnyK.move (i := 0) may_o (v := .int .i64 (kx : Int)) (by simp [u6]) hR ?_
      refine AnyK.bin (i := 1) may_o (u := .int .i64 (kx : Int)) (u' := .int .i64 (0)) (v := .bool false) (by simp [hz_a1]) (by simp) (fun w => lssF3 (by omega) w) hR ?_
      refine AnyK.move (i := 2) may_o (v := .bool false) (by simp [hz_a1]) hR ?_
      refine AnyK.move (i := 3) may_o (v := .slice (some ⟨b, off, none⟩) 7 c) (by simp [u0]) hR (hw := (by exact wanted_g (e := 19) (b' := false) rfl (by simp [hz_a1]) rfl)) ?_
      refine AnyK.sliceL (i := 4) may_o (u := .slice (some ⟨b, off, none⟩) 7 c) (u' := .int .i64 (1)) (v := .slice (some ⟨b, off + 1, none⟩) 6 (c - 1)) (by simp [hz_a1]) (by simp) (fun w => sl31L (A := none) (k := 1) (by omega) hc (by omega) w) hR (hw := (by exact wanted_g (e := 19) (b' := false) rfl (by simp [hz_a1]) rfl)) ?_
      refine AnyK.move (i := 5) may_o (v := .func (.func 87) #[] #[]) (by simp [u5]) hR (hw := (by exact wanted_g (e := 19) (b' := false) rfl (by simp [hz_a1]) rfl)) ?_
      refine AnyK.pick1 (i := 6) (by kernel_rfl) ?_
      refine StepK.call (i := 6) (f := 89) (vs := #[.slice (some ⟨b, off + 1, none⟩) 6 (c - 1), .func (.func 87) #[] #[]]) rfl (enters_of Try.func89 (by kernel_rfl) rfl) rfl (by simp [hz_a1]) ((hall).mono ?_) (hw := (by exact wanted_g (e := 19) (b' := false) rfl (by simp [hz_a1]) rfl))
      rintro _ W2 ⟨rfl, hb2⟩
      have w42 := (w4.below hB0 w4.lt).below hb2 w4.lt
      have hB2 := hB0.trans (hb2.mono hB0.size)
      replace hR : (fun w : World => Whole w b4 83 (r7 c0 c1 c2 c3 c4 c5 c6)) W2 := w42
      refine ⟨_, rfl, fun _ _ => hR, ?_⟩
      refine AnyK.un (i := 7) may_o (u := .bool true) (v := .bool false) (by simp [hz_a1]) (fun w => not4 _ w) hR (hw := (by exact wanted_g (e := 19) (b' := false) rfl (by simp [hz_a1]) rfl)) ?_
      refine AnyK.pick (i := 8) may_o (b := false) (v := .bool false) (by simp [hz_a1]) (by simp [hz_a1]) hR ?_
      refine AnyK.move (i := 9) may_o (v := .bool false) (by simp [hz_a1]) hR ?_
      refine AnyK.load (i := 10) may_o (p := ⟨b4, 0, none⟩) (v := (rV c0 c1 c2 c3 c4 c5 c6)) (by simp [u4]) (fun w hw => ld83 hw) hR (hw := (by exact wanted_g (e := 26) (b' := false) rfl (by simp [hz_a1]) rfl)) ?_
      refine AnyK.pick1 (i := 11) (by kernel_rfl) ?_
      refine StepK.call (i := 11) (f := 59) (vs := #[(rV c0 c1 c2 c3 c4 c5 c6), .int .i64 (5)]) rfl (enters_of Try.func59 (by kernel_rfl) rfl) rfl (by simp [hz_a1]) ((number5 c0 c1 c2 c3 c4 c5 c6 W2).mono ?_) (hw := (by exact wanted_g (e := 26) (b' := false) rfl (by simp [hz_a1]) rfl))
      rintro _ W3 ⟨rfl, hb3⟩
      have w43 := w42.below hb3 w42.lt
      have hB3 := hB2.trans (hb3.mono hB2.size)
      replace hR : (fun w : World => Whole w b4 83 (r7 c0 c1 c2 c3 c4 c5 c6)) W3 := w43
      refine ⟨_, rfl, fun _ _ => hR, ?_⟩
      refine AnyK.pick1 (i := 12) (by kernel_rfl) ?_
      refine StepK.call (i := 12) (f := 79) (vs := #[.pointer (some ⟨b4, 0, none⟩)]) rfl (enters_of Try.func79 (by kernel_rfl) rfl) rfl (by simp [u4]) ((check7_any b4 c0 c1 c2 c3 c4 _ _ W3 w43).mono ?_) (hw := (by exact wanted_g (e := 26) (b' := false) rfl (by simp [hz_a1]) rfl))
      rintro _ _ ⟨rfl, rfl⟩
      refine ⟨_, rfl, fun _ _ => hR, ?_⟩
      refine AnyK.bin (i := 13) may_o (u := .int .i64 (num2 c5 c6 : Int)) (u' := .int .i64 (chk5 c0 c1 c2 c3 c4 : Int)) (v := .bool false) (by simp [hz_a1]) (by simp [hz_a1]) (fun w => neqF (by omega) w) hR (hw := (by exact wanted_g (e := 26) (b' := false) rfl (by simp [hz_a1]) rfl)) ?_
      refine AnyK.pick (i := 14) may_o (b := false) (v := .bool false) (by simp [hz_a1]) (by simp [hz_a1]) hR ?_
      refine AnyK.move (i := 15) may_o (v := .bool false) (by simp [hz_a1]) hR ?_
      refine AnyK.move (i := 17) may_o (v := .int .i64 (kx : Int)) (by simp [u6]) hR (hw := (by exact wanted_g (e := 32) (b' := false) rfl (by simp [hz_a1]) rfl)) ?_
      refine AnyK.load (i := 21) may_o (p := ⟨b4, 0, none⟩) (v := (rV c0 c1 c2 c3 c4 c5 c6)) (by simp [u4]) (fun w hw => ld83 hw) hR (hw := (by exact wanted_g (e := 32) (b' := false) rfl (by simp [hz_a1]) rfl)) ?_
      refine AnyK.pick1 (i := 16) (by kernel_rfl) ?_
      refine StepK.call (i := 16) (f := 70) (vs := #[]) rfl (enters_of Try.func70 (by kernel_rfl) rfl) rfl (by simp []) ((kinds_any W3).mono ?_) (hw := (by exact wanted_g (e := 32) (b' := false) rfl (by simp [hz_a1]) rfl))
      rintro _ W4 ⟨rfl, hkw, hb4⟩
      have w44 := w43.below hb4 w43.lt
      have hB4 := hB3.trans (hb4.mono hB3.size)
      have hkc := hkw.cell (kx * 2 + 1)
      rw [hkf] at hkc
      generalize hkb : W3.heap.size = kb at *
      replace hR : (fun w : World => Whole w b4 83 (r7 c0 c1 c2 c3 c4 c5 c6)) W4 := w44
      refine ⟨_, rfl, fun _ _ => hR, ?_⟩
      refine AnyK.index (i := 18) may_o (u := .slice (some ⟨kb, 0, none⟩) 3 3) (u' := .int .i64 (kx : Int)) (v := .pointer (some ⟨kb, kx * 2, none⟩)) (by simp [hz_a1]) (by simp [hz_a1]) (fun w => ix110 hkx w) hR (hw := (by exact wanted_g (e := 32) (b' := false) rfl (by simp [hz_a1]) rfl)) ?_
      refine AnyK.field (i := 19) may_o (u := .pointer (some ⟨kb, kx * 2, none⟩)) (v := .pointer (some ⟨kb, kx * 2 + 1, none⟩)) (by simp [hz_a1]) (fun w => fa113_1 w) hR (hw := (by exact wanted_g (e := 32) (b' := false) rfl (by simp [hz_a1]) rfl)) ?_
      refine AnyK.pick1 (i := 20) (by kernel_rfl) ?_
      refine StepK.load (i := 20) (p := ⟨kb, kx * 2 + 1, none⟩) (v := .func (.func f) #[] #[]) rfl (by simp [hz_a1]) (ld111 hkc) (fun _ h => h) ?_ (hw := by exact wanted_g (e := 32) (b' := false) rfl (by simp [hz_a1]) rfl)
      refine AnyK.pick1 (i := 22) (by kernel_rfl) ?_
      refine StepK.callC (i := 22) (f := f) (caps := #[]) (vs := #[rV c0 c1 c2 c3 c4 c5 c6]) rfl he (by simp [hz_a1]) (by simp [hz_a1]) ((hf W4).mono ?_) (hw := by exact wanted_g (e := 32) (b' := false) rfl (by simp [hz_a1]) rfl)
      rintro _ W5 ⟨rfl, hb5⟩
      have w45 := w44.below hb5 w44.lt
      have hB5 := hB4.trans (hb5.mono hB4.size)
      replace hR : (fun w : World => Whole w b4 83 (r7 c0 c1 c2 c3 c4 c5 c6)) W5 := w45
      refine ⟨_, rfl, fun _ _ => hR, ?_⟩
      refine AnyK.un (i := 23) may_o (u := .bool hb) (v := .bool (!hb)) (by simp [hz_a1]) (fun w => not4 _ w) hR (hw := (by exact wanted_g (e := 32) (b' := false) rfl (by simp [hz_a1]) rfl)) ?_
      refine AnyK.pick (i := 24) may_o (b := false) (v := .bool (!hb)) (by simp [hz_a1]) (by simp [hz_a1]) hR ?_
      refine AnyK.done (by kernel_rfl) ?_
      refine hQ _ _ (by simp only [size_put, hz_a1]) (by simp only [defers_put, hd_a1]) (by simp [hz_a1]) (fun e h1 => ?_) hB5
      iterate 25 refine (ev_ne (by omega)).trans ?_
      rfl
    · have hck2 : (num2 c5 c6 == chk5 c0 c1 c2 c3 c4) = false := by simpa using hck
      rw [hck2] at hQ
      refine region_K (KpR (fun w : World => Whole w b4 83 (r7 c0 c1 c2 c3 c4 c5 c6)) (fun _ => false)) (wideF_plain _) (by kernel_rfl) Try.mixed ?_
      change AnyK _ _ _ _ 25 (Array.replicate 25 false) _ _
      have hR : (fun w : World => Whole w b4 83 (r7 c0 c1 c2 c3 c4 c5 c6)) W1.drew := w4.below ((Below.refl W1.heap.size W1).drew) w4.lt
      refine AnyK.move (i := 0) may_o (v := .int .i64 (kx : Int)) (by simp [u6]) hR ?_
      refine AnyK.bin (i := 1) may_o (u := .int .i64 (kx : Int)) (u' := .int .i64 (0)) (v := .bool false) (by simp [hz_a1]) (by simp) (fun w => lssF3 (by omega) w) hR ?_
      refine AnyK.move (i := 2) may_o (v := .bool false) (by simp [hz_a1]) hR ?_
      refine AnyK.move (i := 3) may_o (v := .slice (some ⟨b, off, none⟩) 7 c) (by simp [u0]) hR (hw := (by exact wanted_g (e := 19) (b' := false) rfl (by simp [hz_a1]) rfl)) ?_
      refine AnyK.sliceL (i := 4) may_o (u := .slice (some ⟨b, off, none⟩) 7 c) (u' := .int .i64 (1)) (v := .slice (some ⟨b, off + 1, none⟩) 6 (c - 1)) (by simp [hz_a1]) (by simp) (fun w => sl31L (A := none) (k := 1) (by omega) hc (by omega) w) hR (hw := (by exact wanted_g (e := 19) (b' := false) rfl (by simp [hz_a1]) rfl)) ?_
      refine AnyK.move (i := 5) may_o (v := .func (.func 87) #[] #[]) (by simp [u5]) hR (hw := (by exact wanted_g (e := 19) (b' := false) rfl (by simp [hz_a1]) rfl)) ?_
      refine AnyK.pick1 (i := 6) (by kernel_rfl) ?_
      refine StepK.call (i := 6) (f := 89) (vs := #[.slice (some ⟨b, off + 1, none⟩) 6 (c - 1), .func (.func 87) #[] #[]]) rfl (enters_of Try.func89 (by kernel_rfl) rfl) rfl (by simp [hz_a1]) ((hall).mono ?_) (hw := (by exact wanted_g (e := 19) (b' := false) rfl (by simp [hz_a1]) rfl))
      rintro _ W2 ⟨rfl, hb2⟩
      have w42 := (w4.below hB0 w4.lt).below hb2 w4.lt
      have hB2 := hB0.trans (hb2.mono hB0.size)
      replace hR : (fun w : World => Whole w b4 83 (r7 c0 c1 c2 c3 c4 c5 c6)) W2 := w42
      refine ⟨_, rfl, fun _ _ => hR, ?_⟩
      refine AnyK.un (i := 7) may_o (u := .bool true) (v := .bool false) (by simp [hz_a1]) (fun w => not4 _ w) hR (hw := (by exact wanted_g (e := 19) (b' := false) rfl (by simp [hz_a1]) rfl)) ?_
      refine AnyK.pick (i := 8) may_o (b := false) (v := .bool false) (by simp [hz_a1]) (by simp [hz_a1]) hR ?_
      refine AnyK.move (i := 9) may_o (v := .bool false) (by simp [hz_a1]) hR ?_
      refine AnyK.load (i := 10) may_o (p := ⟨b4, 0, none⟩) (v := (rV c0 c1 c2 c3 c4 c5 c6)) (by simp [u4]) (fun w hw => ld83 hw) hR (hw := (by exact wanted_g (e := 26) (b' := false) rfl (by simp [hz_a1]) rfl)) ?_
      refine AnyK.pick1 (i := 11) (by kernel_rfl) ?_
      refine StepK.call (i := 11) (f := 59) (vs := #[(rV c0 c1 c2 c3 c4 c5 c6), .int .i64 (5)]) rfl (enters_of Try.func59 (by kernel_rfl) rfl) rfl (by simp [hz_a1]) ((number5 c0 c1 c2 c3 c4 c5 c6 W2).mono ?_) (hw := (by exact wanted_g (e := 26) (b' := false) rfl (by simp [hz_a1]) rfl))
      rintro _ W3 ⟨rfl, hb3⟩
      have w43 := w42.below hb3 w42.lt
      have hB3 := hB2.trans (hb3.mono hB2.size)
      replace hR : (fun w : World => Whole w b4 83 (r7 c0 c1 c2 c3 c4 c5 c6)) W3 := w43
      refine ⟨_, rfl, fun _ _ => hR, ?_⟩
      refine AnyK.pick1 (i := 12) (by kernel_rfl) ?_
      refine StepK.call (i := 12) (f := 79) (vs := #[.pointer (some ⟨b4, 0, none⟩)]) rfl (enters_of Try.func79 (by kernel_rfl) rfl) rfl (by simp [u4]) ((check7_any b4 c0 c1 c2 c3 c4 _ _ W3 w43).mono ?_) (hw := (by exact wanted_g (e := 26) (b' := false) rfl (by simp [hz_a1]) rfl))
      rintro _ _ ⟨rfl, rfl⟩
      refine ⟨_, rfl, fun _ _ => hR, ?_⟩
      refine AnyK.bin (i := 13) may_o (u := .int .i64 (num2 c5 c6 : Int)) (u' := .int .i64 (chk5 c0 c1 c2 c3 c4 : Int)) (v := .bool true) (by simp [hz_a1]) (by simp [hz_a1]) (fun w => neqT3 (by omega) w) hR (hw := (by exact wanted_g (e := 26) (b' := false) rfl (by simp [hz_a1]) rfl)) ?_
      refine AnyK.pick (i := 14) may_o (b := false) (v := .bool true) (by simp [hz_a1]) (by simp [hz_a1]) hR ?_
      refine AnyK.move (i := 15) may_o (v := .bool true) (by simp [hz_a1]) hR ?_
      refine AnyK.passG (i := 16) may_o (e := 32) (b' := true) rfl (by simp [hz_a1]) rfl hR ?_
      refine AnyK.passG (i := 17) may_o (e := 32) (b' := true) rfl (by simp [hz_a1]) rfl hR ?_
      refine AnyK.passG (i := 18) may_o (e := 32) (b' := true) rfl (by simp [hz_a1]) rfl hR ?_
      refine AnyK.passG (i := 19) may_o (e := 32) (b' := true) rfl (by simp [hz_a1]) rfl hR ?_
      refine AnyK.passG (i := 20) may_o (e := 32) (b' := true) rfl (by simp [hz_a1]) rfl hR ?_
      refine AnyK.passG (i := 21) may_o (e := 32) (b' := true) rfl (by simp [hz_a1]) rfl hR ?_
      refine AnyK.passG (i := 22) may_o (e := 32) (b' := true) rfl (by simp [hz_a1]) rfl hR ?_
      refine AnyK.passG (i := 23) may_o (e := 32) (b' := true) rfl (by simp [hz_a1]) rfl hR ?_
      refine AnyK.pick (i := 24) may_o (b := true) (v := .bool true) (by simp [hz_a1]) (by simp) hR ?_
      refine AnyK.done (by kernel_rfl) ?_
      refine hQ _ _ (by simp only [size_put, hz_a1]) (by simp only [defers_put, hd_a1]) (by simp [hz_a1]) (fun e h1 => ?_) hB3
      iterate 25 refine (ev_ne (by omega)).trans ?_
      rfl
end
end Go.Proofs.YtmdlmmfbcnkanaaR
namespace Go.Proofs.YtmdlmmfbcnkanaaR
open Go.RowKit Go.Shelf
section
variable {P : Program} {ops : Array Oper} {K : Act → World → Prop} {k i d : Nat} {a : Act} {w : World} {ty : TypeId} {pos : String} {aft : Array Edge} {gd : Option (Nat × Bool)} {v : Value}
theorem ListK.s2a {t : TypeId} {x : Operand} {u : Value} (hi : ops[i]? = some ⟨some d, .sliceToArrayPointer t x, ty, pos, aft, gd⟩) (hx : a.eval x = u) (hv : (Instr.arrayAt t u).run P w = .ok v w)
    (h : ListK P ops K k (i + 1) (a.put (some d) v) w) (hw : Region.wanted ⟨some d, .sliceToArrayPointer t x, ty, pos, aft, gd⟩ (yielded ops a.tmps) = true := by rfl) : ListK P ops K (k + 1) i a w := ListK.valW hi hw (by simp [execOp, hx, hv]) h
end
theorem aa83 {b o c : Nat} (w : World) : (Instr.arrayAt 83 (.slice (some ⟨b, o, none⟩) 7 c)).run Try.prog w = .ok (.pointer (some ⟨b, o, none⟩)) w := by
  unfold Instr.arrayAt
  go_simp
theorem bd83z (w : World) : (Instr.build 83 #[]).run Try.prog w = .ok (.agg z7) w := by
  go_simp
theorem st83z {w : World} {b : Nat} {u0 u1 u2 u3 u4 u5 u6 : Value} (h : Whole w b 83 #[u0, u1, u2, u3, u4, u5, u6]) : (Instr.storeAt 83 (.pointer (some ⟨b, 0, none⟩)) (.agg z7)).run Try.prog w = .ok () (put7 w b (.int .u8 0) (.int .u8 0) (.int .u8 0) (.int .u8 0) (.int .u8 0) (.int .u8 0) (.int .u8 0)) := st83 h
theorem res83b {fn : Func} {k j b : Nat} {W : World} {a : Act} {v0 v1 v2 v3 v4 v5 v6 u : Value} (h : fn.results = #[.cell k 83, .tmp j]) (he : a.eval (.tmp k) = .pointer (some ⟨b, 0, none⟩)) (hj : a.eval (.tmp j) = u) (hw : Whole W b 83 #[v0, v1, v2, v3, v4, v5, v6]) :
    (results fn a.tmps).run Try.prog W = .ok (.tuple #[.agg #[v0, v1, v2, v3, v4, v5, v6], u]) W := by
  have he' : a.tmps[k]?.getD undef = .pointer (some ⟨b, 0, none⟩) := by simpa [Act.eval] using he
  have hj' : a.tmps[j]?.getD undef = u := by simpa [Act.eval] using hj
  obtain ⟨h0, h1, h2, h3, h4, h5, h6⟩ := seven hw
  simp only [results, h]
  simp [he', hj']
  go_simp
/-- A piece as a record. -/
def asRec (p : List UInt8) : Array Value := if isGood p then recC p else z7
abbrev GdP (W : World) (p : List UInt8) : Ending → World → Prop := fun e w' => e = .returned (.tuple #[.agg (asRec p), .bool (isGood p)]) ∧ Below W.heap.size W w'
theorem not7 {p : List UInt8} (h : p.length ≠ 7) : isGood p = false := by
  unfold isGood
  split
  · simp at h
  · rfl
set_option maxHeartbeats 1000000 in
theorem good_any (A : Option Addr) (p : List UInt8) (c : Nat) (W : World) (hl : p.length ≤ c) (hs : BytesAt W W.heap.size A p) :
    Calls Try.prog 67 #[.slice A p.length c] W (GdP W p) := by
  refine (callsIn_wide (n := 5)).1 (callsIn_of_wp Try.func67 body67 trivial ?_ rfl)
  obtain ⟨a, ha⟩ : ∃ a : Act, a = { tmps := #[.slice A p.length c] ++ Array.replicate (Try.f67.ntmps - (#[.slice A p.length c] : Array Value).size) undef, defers := [] } := ⟨_, rfl⟩
  have hsz : a.tmps.size = 44 := by rw [ha]; simp [Try.ntmps67]
  have t0 : a.eval (.tmp 0) = .slice A p.length c := by rw [ha]; simp [Act.eval]
  have hd_a : a.defers = [] := by rw [ha]
  rw [← ha]
  clear ha
  unfold code67
  refine wpIn_seq (region_p 2 ?_)
  intro K hK
  refine ListK.alloc (i := 0) rfl (al83 W) ?_
  refine ListK.assign (i := 1) (v := .bool false) rfl (by simp) ?_
  refine ListK.done (hK _ _ ?_)
  clear hK K
  have wg := Whole.new W 83 z7
  have hB1 : Below W.heap.size W (W.alloc (.cells z7 83)) := (Below.refl _ W).alloc (Nat.le_refl _) _
  have hS1 := hB1.size
  generalize hb3 : W.heap.size = g at *
  generalize W.alloc (.cells z7 83) = W1 at *
  replace hs : BytesAt W1 W1.heap.size A p := (hs.below hB1 (Nat.le_refl _)).more hS1
  generalize hA : Act.put _ _ _ = a1
  have hz_a1 : a1.tmps.size = 44 := by rw [← hA]; simp only [size_put, hsz]
  have u0 : a1.eval (.tmp 0) = .slice A p.length c := by rw [← hA]; exact (by simp [t0])
  have u2 : a1.eval (.tmp 2) = .pointer (some ⟨g, 0, none⟩) := by rw [← hA]; exact (by simp [hsz])
  have hd_a1 : a1.defers = [] := by rw [← hA]; simp only [defers_put, hd_a]
  clear hA
  by_cases h7 : p.length = 7
  · obtain ⟨c0, c1, c2, c3, c4, c5, c6, rfl⟩ := len7 h7
    obtain ⟨b, off, rfl, _, _⟩ := hs 0 c0 rfl
    have hx : ∀ i x, [c0, c1, c2, c3, c4, c5, c6][i]? = some x → W1.cell? ⟨b, off + i, none⟩ = some (u8V x) := fun i x hx => by
      obtain ⟨b', o', e, _, hc⟩ := hs i x hx
      cases e
      exact hc
    replace u0 : a1.eval (.tmp 0) = .slice (some ⟨b, off, none⟩) 7 c := u0
    refine wpIn_seq (wpIn_seq (region_p 3 ?_))
    intro K hK
    refine ListK.move (i := 0) (v := .slice (some ⟨b, off, none⟩) 7 c) rfl (by simp [u0]) ?_
    refine ListK.len (i := 1) (u := .slice (some ⟨b, off, none⟩) 7 c) (v := .int .i64 7) rfl (by simp [hz_a1]) (ln31 _ _ _ _ _) rfl ?_
    refine ListK.bin (i := 2) (u := .int .i64 7) (u' := .int .i64 7) (v := .bool false) rfl (by simp [hz_a1]) (by simp) (neqF (by decide) _) ?_
    refine ListK.done (hK _ _ ?_)
    clear hK K
    refine wpIn_cond (t := false) (by simp [hz_a1]) (wpIn_skip ?_)
    generalize hA : Act.put _ _ _ = a2
    have hz_a2 : a2.tmps.size = 44 := by rw [← hA]; simp only [size_put, hz_a1]
    have v0 : a2.eval (.tmp 0) = .slice (some ⟨b, off, none⟩) 7 c := by rw [← hA]; exact (by simp [u0])
    have v2 : a2.eval (.tmp 2) = .pointer (some ⟨g, 0, none⟩) := by rw [← hA]; exact (by simp [u2])
    have hd_a2 : a2.defers = [] := by rw [← hA]; simp only [defers_put, hd_a1]
    clear hA
    refine wpIn_seq (region_p 5 ?_)
    intro K hK
    refine ListK.move (i := 0) (v := .slice (some ⟨b, off, none⟩) 7 c) rfl (by simp [v0]) ?_
    refine ListK.s2a (i := 1) (u := .slice (some ⟨b, off, none⟩) 7 c) rfl (by simp [hz_a2]) (aa83 _) ?_
    refine ListK.load (i := 2) (p := ⟨b, off, none⟩) (v := (rV c0 c1 c2 c3 c4 c5 c6)) rfl (by simp [hz_a2]) (ld83o (by simpa using hx 0 c0 rfl) (hx 1 c1 rfl) (hx 2 c2 rfl) (hx 3 c3 rfl) (hx 4 c4 rfl) (hx 5 c5 rfl) (hx 6 c6 rfl)) ?_
    refine ListK.alloc (i := 3) rfl (al83 W1) ?_
    refine ListK.store (i := 4) (u := .pointer (some ⟨W1.heap.size, 0, none⟩)) (u' := (rV c0 c1 c2 c3 c4 c5 c6)) rfl (by simp [hz_a2]) (by simp [hz_a2]) (st83 (Whole.new W1 83 z7)) ?_
    refine ListK.done (hK _ _ ?_)
    clear hK K
    have w4 := put7_whole (Whole.new W1 83 z7) (u8V c0) (u8V c1) (u8V c2) (u8V c3) (u8V c4) (u8V c5) (u8V c6)
    have hlow : Below W1.heap.size W1 (put7 (W1.alloc (.cells z7 83)) W1.heap.size (u8V c0) (u8V c1) (u8V c2) (u8V c3) (u8V c4) (u8V c5) (u8V c6)) := ((Below.refl _ W1).alloc (Nat.le_refl _) _).trans ((put7_else (w := W1.alloc (.cells z7 83)) (b := W1.heap.size) (u8V c0) (u8V c1) (u8V c2) (u8V c3) (u8V c4) (u8V c5) (u8V c6)).below (by simp) (fun k hk e => by omega))
    have hlt := wg.lt
    replace wg := wg.below hlow wg.lt
    replace hs := (hs.below hlow (Nat.le_refl _)).more hlow.size
    replace hB1 := hB1.trans (hlow.mono (by omega))
    clear hx hlow
    generalize put7 (W1.alloc (.cells z7 83)) W1.heap.size (u8V c0) (u8V c1) (u8V c2) (u8V c3) (u8V c4) (u8V c5) (u8V c6) = W2 at *
    generalize W1.heap.size = b4 at *
    refine wpIn_seq (region_p 1 ?_)
    intro K hK
    refine ListK.assign (i := 0) (v := .func (.func 87) #[] #[]) rfl (by simp) ?_
    refine ListK.done (hK _ _ ?_)
    clear hK K
    generalize hA : Act.put _ _ _ = a3
    have hz_a3 : a3.tmps.size = 44 := by rw [← hA]; simp only [size_put, hz_a2]
    have x0 : a3.eval (.tmp 0) = .slice (some ⟨b, off, none⟩) 7 c := by rw [← hA]; exact (by simp [v0])
    have x2 : a3.eval (.tmp 2) = .pointer (some ⟨g, 0, none⟩) := by rw [← hA]; exact (by simp [v2])
    have x4 : a3.eval (.tmp 4) = .pointer (some ⟨b4, 0, none⟩) := by rw [← hA]; exact (by simp [hz_a2])
    have x5 : a3.eval (.tmp 5) = .func (.func 87) #[] #[] := by rw [← hA]; exact (by simp [hz_a2])
    have hd_a3 : a3.defers = [] := by rw [← hA]; simp only [defers_put, hd_a2]
    clear hA
    refine wpIn_seq (region_p 4 ?_)
    intro K hK
    refine ListK.call (i := 0) (vs := #[]) rfl (enters_of Try.func70 (by kernel_rfl) rfl) (by simp) (((kinds_any W2)).mono ?_)
    rintro _ W3 ⟨rfl, hkw, hb3_⟩
    replace wg := wg.below hb3_ wg.lt
    replace w4 := w4.below hb3_ w4.lt
    replace hs := (hs.below hb3_ (Nat.le_refl _)).more hb3_.size
    replace hB1 := hB1.trans (hb3_.mono (by have := hB1.size; omega))
    refine ⟨_, rfl, ?_⟩
    refine ListK.mkB (i := 1) (us := #[]) (vs := #[.pointer (some ⟨b4, 0, none⟩)]) (v := .func (.func 88) #[] #[.pointer (some ⟨b4, 0, none⟩)]) rfl (by simp) (by simp [x4]) rfl ?_
    refine ListK.call (i := 2) (vs := #[.slice (some ⟨W2.heap.size, 0, none⟩) 3 3, .func (.func 88) #[] #[.pointer (some ⟨b4, 0, none⟩)]]) rfl (enters_of Try.func69 (by kernel_rfl) rfl) (by simp [hz_a3]) (((kindAt_any b4 W2.heap.size c0 W3 (w4.cell 0) hkw)).mono ?_)
    rintro _ W4 ⟨rfl, hb4⟩
    replace wg := wg.below hb4 wg.lt
    replace w4 := w4.below hb4 w4.lt
    replace hs := (hs.below hb4 (Nat.le_refl _)).more hb4.size
    replace hB1 := hB1.trans (hb4.mono (by have := hB1.size; omega))
    clear hkw
    refine ⟨_, rfl, ?_⟩
    refine ListK.assign (i := 3) (v := .int .i64 (kindIx c0)) rfl (by simp [hz_a3]) ?_
    refine ListK.done (hK _ _ ?_)
    clear hK K
    generalize hA : Act.put _ _ _ = a4
    have hz_a4 : a4.tmps.size = 44 := by rw [← hA]; simp only [size_put, hz_a3]
    have y0 : a4.eval (.tmp 0) = .slice (some ⟨b, off, none⟩) 7 c := by rw [← hA]; exact (by simp [x0])
    have y2 : a4.eval (.tmp 2) = .pointer (some ⟨g, 0, none⟩) := by rw [← hA]; exact (by simp [x2])
    have y4 : a4.eval (.tmp 4) = .pointer (some ⟨b4, 0, none⟩) := by rw [← hA]; exact (by simp [x4])
    have y5 : a4.eval (.tmp 5) = .func (.func 87) #[] #[] := by rw [← hA]; exact (by simp [x5])
    have y6 : a4.eval (.tmp 6) = .int .i64 (kindIx c0) := by rw [← hA]; exact (by simp [hz_a3])
    have hd_a4 : a4.defers = [] := by rw [← hA]; simp only [defers_put, hd_a3]
    clear hA
    have hcont : ∀ (a' : Act) (W' : World), a'.tmps.size = 44 → a'.defers = [] → a'.eval (.tmp 41) = .bool (!isGood [c0, c1, c2, c3, c4, c5, c6]) → (∀ e : Nat, e < 17 → a'.eval (.tmp e) = a4.eval (.tmp e)) → Below W4.heap.size W4 W' →
        (Code.cond (.tmp 41) (.seq (.region 7 opsGd7 false) .ret) .skip).wpIn Fence.wide 5 Try.prog (Exit.then (gd_b.wpIn Fence.wide 5 Try.prog (bodyPost Try.prog Try.f67 (GdP W [c0, c1, c2, c3, c4, c5, c6]))) (bodyPost Try.prog Try.f67 (GdP W [c0, c1, c2, c3, c4, c5, c6]))) a' W' := by
      intro b5 W5 hz_b5 hd_b5 r41 hr hb5
      have r2 := (hr 2 (by omega)).trans y2
      have r4 := (hr 4 (by omega)).trans y4
      have wg5 := wg.below hb5 wg.lt
      have w45 := w4.below hb5 w4.lt
      have hB5 := hB1.trans (hb5.mono (by have := hB1.size; omega))
      clear hr
      cases hg : isGood [c0, c1, c2, c3, c4, c5, c6] with
      | false =>
        rw [hg] at r41
        refine wpIn_cond (t := true) r41 ?_
        refine wpIn_seq (region_p 3 ?_)
        intro K hK
        refine ListK.bld (i := 0) (ps := #[]) (v := .agg z7) rfl (by simp) (bd83z _) ?_
        refine ListK.store (i := 1) (u := .pointer (some ⟨g, 0, none⟩)) (u' := .agg z7) rfl (by simp [r2]) (by simp [hz_b5]) (st83z wg5) ?_
        refine ListK.assign (i := 2) (v := .bool false) rfl (by simp) ?_
        refine ListK.done (hK _ _ (wpIn_ret ?_))
        refine bodyPost_ret (v := .tuple #[.agg z7, .bool false]) (res83b Try.results67 (by simp [r2]) (by simp [hz_b5]) (put7_whole wg5 _ _ _ _ _ _ _)) (by simp only [defers_put, hd_b5]) ⟨by unfold asRec; rw [hg]; rfl, ?_⟩
        rw [hb3]
        exact hB5.trans ((put7_else _ _ _ _ _ _ _).below (by have := hB5.size; omega) (fun k hk e => by omega))
      | true =>
        rw [hg] at r41
        refine wpIn_cond (t := false) r41 (wpIn_skip ?_)
        show gd_b.wpIn _ _ _ _ _ _
        unfold gd_b
        refine wpIn_seq (region_p 3 ?_)
        intro K hK
        refine ListK.load (i := 0) (p := ⟨b4, 0, none⟩) (v := (rV c0 c1 c2 c3 c4 c5 c6)) rfl (by simp [r4]) (ld83 w45) ?_
        refine ListK.store (i := 1) (u := .pointer (some ⟨g, 0, none⟩)) (u' := (rV c0 c1 c2 c3 c4 c5 c6)) rfl (by simp [r2]) (by simp [hz_b5]) (st83 wg5) ?_
        refine ListK.assign (i := 2) (v := .bool true) rfl (by simp) ?_
        refine ListK.done (hK _ _ (wpIn_ret ?_))
        refine bodyPost_ret (v := .tuple #[rV c0 c1 c2 c3 c4 c5 c6, .bool true]) (res83b Try.results67 (by simp [r2]) (by simp [hz_b5]) (put7_whole wg5 _ _ _ _ _ _ _)) (by simp only [defers_put, hd_b5]) ⟨by unfold asRec; rw [hg]; rfl, ?_⟩
        rw [hb3]
        exact hB5.trans ((put7_else _ _ _ _ _ _ _).below (by have := hB5.size; omega) (fun k hk e => by omega))
    refine wpIn_seq (wpIn_seq ?_)
    by_cases k1 : c0 = 72
    · rw [show kindIx c0 = ((0 : Nat) : Int) by simp [kindIx, k1]] at y6
      exact gd6_ok (kx := 0) (f := 90) (dg := [c1, c2, c3, c4, c5, c6].all isDig) (hb := headOk (num2 c1 c2) (dig c3) (dig c4)) (.inl k1) rfl (fun _ => rfl) (fun h => absurd k1 h) (by omega) rfl (enters_of Try.func90 (by kernel_rfl) rfl) (fun W => heads_any c0 c1 c2 c3 c4 c5 c6 W) hz_a4 hd_a4 y0 y4 y5 hl hs w4 y6 hcont
    · by_cases k2 : c0 = 82
      · rw [show kindIx c0 = ((1 : Nat) : Int) by simp [kindIx, k2]] at y6
        exact gd6_ok (kx := 1) (f := 91) (dg := [c1, c2, c3, c4, c5, c6].all isDig) (hb := true) (.inr (.inl k2)) rfl (fun h => absurd h k1) (fun _ => rfl) (by omega) rfl (enters_of Try.func91 (by kernel_rfl) rfl) (fun W => anyR c0 c1 c2 c3 c4 c5 c6 W) hz_a4 hd_a4 y0 y4 y5 hl hs w4 y6 hcont
      · by_cases k3 : c0 = 80
        · rw [show kindIx c0 = ((2 : Nat) : Int) by simp [kindIx, k3]] at y6
          exact gd6_ok (kx := 2) (f := 91) (dg := [c1, c2, c3, c4, c5, c6].all isDig) (hb := true) (.inr (.inr k3)) rfl (fun h => absurd h k1) (fun _ => rfl) (by omega) rfl (enters_of Try.func91 (by kernel_rfl) rfl) (fun W => anyR c0 c1 c2 c3 c4 c5 c6 W) hz_a4 hd_a4 y0 y4 y5 hl hs w4 y6 hcont
        · rw [show kindIx c0 = -1 by simp [kindIx, k1, k2, k3]] at y6
          exact gd6_bad k1 k2 k3 hz_a4 hd_a4 y0 y4 y5 hl hs w4 y6 hcont
  · skip
    refine wpIn_seq (wpIn_seq (region_p 3 ?_))
    intro K hK
    refine ListK.move (i := 0) (v := .slice A p.length c) rfl (by simp [u0]) ?_
    refine ListK.len (i := 1) (u := .slice A p.length c) (v := .int .i64 p.length) rfl (by simp [hz_a1]) (ln31 _ _ _ _ _) rfl ?_
    refine ListK.bin (i := 2) (u := .int .i64 p.length) (u' := .int .i64 7) (v := .bool true) rfl (by simp [hz_a1]) (by simp) (neqT3 (by omega) _) ?_
    refine ListK.done (hK _ _ ?_)
    clear hK K
    refine wpIn_cond (t := true) (by simp [hz_a1]) ?_
    generalize hA : Act.put _ _ _ = a2
    have hz_a2 : a2.tmps.size = 44 := by rw [← hA]; simp only [size_put, hz_a1]
    have v2 : a2.eval (.tmp 2) = .pointer (some ⟨g, 0, none⟩) := by rw [← hA]; exact (by simp [u2])
    have hd_a2 : a2.defers = [] := by rw [← hA]; simp only [defers_put, hd_a1]
    clear hA
    refine wpIn_seq (region_p 3 ?_)
    intro K hK
    refine ListK.bld (i := 0) (ps := #[]) (v := .agg z7) rfl (by simp) (bd83z _) ?_
    refine ListK.store (i := 1) (u := .pointer (some ⟨g, 0, none⟩)) (u' := .agg z7) rfl (by simp [v2]) (by simp [hz_a2]) (st83z wg) ?_
    refine ListK.assign (i := 2) (v := .bool false) rfl (by simp) ?_
    refine ListK.done (hK _ _ (wpIn_ret ?_))
    refine bodyPost_ret (v := .tuple #[.agg z7, .bool false]) (res83b Try.results67 (by simp [v2]) (by simp [hz_a2]) (put7_whole wg _ _ _ _ _ _ _)) (by simp only [defers_put, hd_a2]) ⟨by unfold asRec; rw [not7 h7]; rfl, ?_⟩
    rw [hb3]
    exact hB1.trans ((put7_else _ _ _ _ _ _ _).below (by have := hB1.size; omega) (fun k hk e => by omega))
end Go.Proofs.YtmdlmmfbcnkanaaR
namespace Go.Proofs.YtmdlmmfbcnkanaaR
open Go.RowKit Go.Shelf

/-- A word that outlives growth, a turn of block bb, and a turn of what is no cells, from B on. -/
def Abid {β : Type} (bb B : Nat) (J : β → World → Prop) : Prop :=
  ∀ s (A C : World) (row : Option Nat), J s A → A.grownBy C row → (∀ r, row = some r → r = bb ∨ (B ≤ r ∧ ∃ o : Obj, A.heap[r]? = some o ∧ o.isCells = false)) → J s C
theorem Abid.own {β : Type} {bb B : Nat} {J : β → World → Prop} (h : Abid bb B J) : OwnFrom B J := fun s W W' row hs hg hr => h s W W' row hs hg (fun r e => .inr (hr r e))
theorem Abid.grown {β : Type} {bb B : Nat} {J : β → World → Prop} (h : Abid bb B J) {s : β} {W W' : World} (hs : J s W) (hg : W.grownBy W' none) : J s W' := h s W W' none hs hg (fun _ e => by cases e)
theorem Abid.cell {β : Type} {bb B : Nat} {J : β → World → Prop} (h : Abid bb B J) {s : β} {W W' : World} (hs : J s W) (hg : W.grownBy W' (some bb)) : J s W' := h s W W' _ hs hg (fun _ e => .inl (by cases e; rfl))

/-- An iterator of N elements, whose own block is bb. -/
def SeqIx (F : Fence) (n : Nat) (P : Program) (gf : Nat) (lb : Array Value) (encs : Nat → Array Value) (N bb : Nat) (Z : World → Prop) (w0 : World) : Prop :=
  ∀ (ly : Nat) (J Jx : Nat → World → Prop) (W : World), Below w0.heap.size w0 W → Abid bb W.heap.size J → Abid bb W.heap.size Jx → (∀ i A, J i A → Z A) →
    (∀ i W1, i < N → J i W1 → YieldAt F (n - 1) P ly (encs i) W1 fun e W' => (e = .returned (.bool true) ∧ J (i + 1) W' ∧ W'.heap[bb]? = W1.heap[bb]?) ∨ (e = .returned (.bool false) ∧ Jx i W')) →
    J 0 W → CallsIn F n P gf (#[.func (.yield ly) #[] #[]] ++ lb) W fun e W' => (∃ v, e = .returned v) ∧ (J N W' ∨ ∃ i, i < N ∧ Jx i W')

/-- What a round leaves. -/
def rpost (B bb i : Nat) (W : World) (I : Nat → World → Prop) (Ix : Code → Nat → World → Prop) : Exit → Act → World → Prop
  | .normal, _, W' => KeepsFrom B W W' ∧ W'.heap[bb]? = W.heap[bb]? ∧ I (i + 1) W'
  | .ret, _, W' => KeepsFrom B W W' ∧ Ix .ret i W'
  | .exit id, _, W' => KeepsFrom B W W' ∧ Ix (.exit id) i W'
  | .goto t, _, W' => KeepsFrom B W W' ∧ Ix (.goto t) i W'
  | .panic _, _, _ => False
  | .outgrown, _, _ => False

theorem range_ix {F : Fence} {n : Nat} {P : Program} {g : Operand} {ps : Array Tmp} {assign body : Code} {Q : Exit → Act → World → Prop} {a : Act} {w : World}
    (hro : F.round = none) (h1 : 1 ≤ n) {gf : Nat} {lb : Array Value} (hg : a.eval g = .func (.func gf) #[] lb) (hFg : F.fn gf) (eg : ∀ args w, (callFunc gf args).run P w = .ok (.enter gf args) w)
    {encs : Nat → Array Value} {N bb : Nat} {Z : World → Prop} {w0 : World} (hseq : SeqIx F (n - 1) P gf lb encs N bb Z w0) (hb0 : Below w0.heap.size w0 w) (hbb : bb < w.heap.size) (hps : ∀ i, (encs i).size = ps.size)
    (I : Nat → World → Prop) (Ix : Code → Nat → World → Prop) (hI : Abid bb w.heap.size I) (hIx : ∀ c, Abid bb w.heap.size (Ix c)) (hZ : ∀ i A, I i A → Z A) (h0 : I 0 w)
    (Ax : Nat → Act → World → Prop) (hAx : ∀ i a', OwnFrom w.heap.size (fun (_ : Unit) W => Ax i a' W))
    (hassign : ∀ (l i : Nat) (W : World) (K : Act → World → Prop), i < N → I i W → (∀ a' W', KeepsFrom w.heap.size W W' → W'.heap[bb]? = W.heap[bb]? → I i W' → Ax i a' W' → K a' W') →
      assign.wpIn (F.inRound l) (n - 1 - 1) P (Exit.then K (fun _ _ _ => False)) { tmps := (ps.zip (encs i)).foldl (fun t (p, v) => t.setIfInBounds p v) a.tmps, defers := [] } W)
    (hbody : ∀ (l i : Nat) (a' : Act) (W : World), i < N → I i W → Ax i a' W → body.wpIn (F.inRound l) (n - 1 - 1) P (rpost w.heap.size bb i W I Ix) a' W)
    (hdone : ∀ (D : Nat) (W : World), w.heap.size ≤ D → I N W → W.heap[D]? = some (.deferred (some [])) → Q .normal { a with defers := { target := .collected D, args := #[] } :: a.defers } W)
    (hstop : ∀ (D : Nat) (c : Code) (i : Nat) (W : World), w.heap.size ≤ D → i < N → Ix c i W → W.heap[D]? = some (.deferred (some [])) → c.wpIn F n P Q { a with defers := { target := .collected D, args := #[] } :: a.defers } W) :
    (Code.rangeFunc g ps assign body).wpIn F n P Q a w := by
  refine wpIn_rangeFunc ?_
  intro fn hfn
  rw [hro]
  obtain ⟨rec, hrec⟩ : ∃ rec : LoopState → Option Code → Loop, rec = fun st pe => { state := st, pending := pe, fn, tmps := a.tmps, params := ps, assign, body, defers := w.heap.size } := ⟨_, rfl⟩
  obtain ⟨W1, hW1⟩ : ∃ W1, (w.alloc (.deferred (some []))).alloc (.loop (rec .ready none)) = W1 := ⟨_, rfl⟩
  have hsz1 : W1.heap.size = w.heap.size + 2 := by rw [← hW1]; simp
  have hL1 : W1.heap[w.heap.size + 1]? = some (.loop (rec .ready none)) := by
    rw [← hW1]; have := World.alloc_heap_new (w.alloc (.deferred (some []))) (.loop (rec .ready none)); rwa [World.size_alloc] at this
  have hK1 : W1.heap[w.heap.size]? = some (.deferred (some [])) := by
    rw [← hW1]; exact (Below.heap_alloc _ _ _ (by simp)).trans (World.alloc_heap_new w _)
  have hI1 : I 0 W1 := by rw [← hW1]; exact hI.own.alloc _ (hI.own.alloc _ h0)
  have hb1 : Below w0.heap.size w0 W1 := by
    rw [← hW1]; exact hb0.trans ((((Below.refl _ w).alloc (Nat.le_refl _) _).alloc (by simp) _).mono hb0.size)
  refine ⟨w.heap.size + 1, [{ target := .collected w.heap.size, args := #[] }], W1, { target := .fn (.func gf) lb, args := #[.func (.yield (w.heap.size + 1)) #[] #[]] }, W1, gf,
    #[.func (.yield (w.heap.size + 1)) #[] #[]] ++ lb, W1, ?_, ?_, ?_, ?_, fun _ => h1, ?_⟩
  · rw [← hW1, hrec]; exact run_enterLoop_outer _ _ _ _ _
  · simp only [resolve, hg]
    simp [go_sem]
  · intro f' hf'; simp [Target.leads] at hf'; subst hf'; exact hFg
  · simp [invoke, go_sem, eg]
  · have hnw : ∀ {A : World} {row : Option Nat}, (∀ r, row = some r → r = bb ∨ (W1.heap.size ≤ r ∧ ∃ o : Obj, A.heap[r]? = some o ∧ o.isCells = false)) → (∀ r, row = some r → r = bb ∨ (w.heap.size ≤ r ∧ ∃ o : Obj, A.heap[r]? = some o ∧ o.isCells = false)) :=
      fun hr r e => (hr r e).imp id (fun h => ⟨by omega, h.2⟩)
    have hkp : ∀ {A C : World} {row : Option Nat} {k : Nat} {o : Obj}, A.grownBy C row → (∀ r, row = some r → r = bb ∨ (W1.heap.size ≤ r ∧ ∃ o : Obj, A.heap[r]? = some o ∧ o.isCells = false)) → w.heap.size ≤ k → k < W1.heap.size → A.heap[k]? = some o → C.heap[k]? = some o :=
      fun {A C row k o} hg hr h1 h2 hk => (hg.block k (Array.getElem?_eq_some_iff.1 hk).1 (fun e => by rcases hr k e.symm with h | h <;> omega)).trans hk
    refine (hseq (w.heap.size + 1)
      (fun i W => I i W ∧ W.heap[w.heap.size + 1]? = some (.loop (rec .ready none)) ∧ W.heap[w.heap.size]? = some (.deferred (some [])))
      (fun i W => ∃ c, Ix c i W ∧ W.heap[w.heap.size + 1]? = some (.loop (rec .done (some c))) ∧ W.heap[w.heap.size]? = some (.deferred (some [])))
      W1 hb1
      (fun s A C row hs hg' hr => ⟨hI s A C row hs.1 hg' (hnw hr), hkp hg' hr (by omega) (by omega) hs.2.1, hkp hg' hr (by omega) (by omega) hs.2.2⟩)
      (fun s A C row hs hg' hr => by
        obtain ⟨c, hc, hl, hk⟩ := hs
        exact ⟨c, hIx c s A C row hc hg' (hnw hr), hkp hg' hr (by omega) (by omega) hl, hkp hg' hr (by omega) (by omega) hk⟩)
      (fun i A h => hZ i A h.1) ?_ ⟨hI1, hL1, hK1⟩).mono ?_
    · rintro i W hlen ⟨hi, hl, hk⟩
      have hy := run_yield (P := P) (args := encs i) hl (by rw [hrec]; exact hps i)
      rw [hrec] at hy
      refine ⟨fn, _, assign, body, hy, roundIn_of_wpIn hfn (hassign _ i W _ hlen hi ?_)⟩
      clear hy
      intro a' W2 hkf2 hbb2 hi2 hax2
      have hl2 := hkf2.same _ _ (by omega) hl rfl
      have hk2 := hkf2.same _ _ (Nat.le_refl _) hk rfl
      have hlt2 : w.heap.size + 1 < W2.heap.size := (Array.getElem?_eq_some_iff.1 hl2).1
      refine ⟨_, run_beginRound hl2 (by rw [hrec]), ?_⟩
      obtain ⟨W3, hW3⟩ : ∃ W3, W2.putObj (w.heap.size + 1) (.loop { rec .ready none with state := .busy }) = W3 := ⟨_, rfl⟩
      rw [hW3]
      have hl3 : W3.heap[w.heap.size + 1]? = some (.loop { rec .ready none with state := .busy }) := by rw [← hW3]; exact World.putObj_heap_same hlt2
      have hk3 : W3.heap[w.heap.size]? = some (.deferred (some [])) := by rw [← hW3]; exact (World.putObj_heap_other (by omega)).trans hk2
      have hbb3 : W3.heap[bb]? = W.heap[bb]? := by rw [← hW3]; exact (World.putObj_heap_other (by omega)).trans hbb2
      have hi3 : I i W3 := by rw [← hW3]; exact hI.own.putObj _ hi2 (by omega) hl2 rfl
      have hax3 : Ax i a' W3 := by rw [← hW3]; exact (hAx i a').putObj (s := ()) _ hax2 (by omega) hl2 rfl
      refine wpIn_mono (hbody _ i a' _ hlen hi3 hax3) ?_
      have fin : ∀ (jump : Option Code) (W4 : World), KeepsFrom w.heap.size W3 W4 →
          (Instr.endRound (w.heap.size + 1) jump).run P W4 = .ok (.bool jump.isNone) (W4.putObj (w.heap.size + 1) (.loop (rec (if jump.isNone then .ready else .done) jump))) ∧
          W4.heap[w.heap.size + 1]? = some (.loop { rec .ready none with state := .busy }) ∧
          (W4.putObj (w.heap.size + 1) (.loop (rec (if jump.isNone then .ready else .done) jump))).heap[w.heap.size + 1]? = some (.loop (rec (if jump.isNone then .ready else .done) jump)) ∧
          (W4.putObj (w.heap.size + 1) (.loop (rec (if jump.isNone then .ready else .done) jump))).heap[w.heap.size]? = some (.deferred (some [])) := fun jump W4 hk4 => by
        have hl4 := hk4.same _ _ (by omega) hl3 rfl
        have := run_endRound (P := P) jump hl4
        rw [hrec] at this ⊢
        exact ⟨this, by rw [hrec] at hl4; exact hl4, World.putObj_heap_same (Array.getElem?_eq_some_iff.1 hl4).1, (World.putObj_heap_other (by omega)).trans (hk4.same _ _ (Nat.le_refl _) hk3 rfl)⟩
      rintro e a4 W4 hp
      cases e with
      | normal =>
        obtain ⟨hk4, hbb4, hi4⟩ := hp
        obtain ⟨hr, hl4, hl5, hk5⟩ := fin none W4 hk4
        exact ⟨_, _, hr, .inl ⟨rfl, ⟨hI.own.putObj _ hi4 (by omega) hl4 rfl, hl5, hk5⟩, ((World.putObj_heap_other (by omega)).trans hbb4).trans hbb3⟩⟩
      | ret =>
        obtain ⟨hk4, hi4⟩ := hp
        obtain ⟨hr, hl4, hl5, hk5⟩ := fin (some .ret) W4 hk4
        exact ⟨_, _, hr, .inr ⟨rfl, .ret, (hIx _).own.putObj _ hi4 (by omega) hl4 rfl, hl5, hk5⟩⟩
      | exit id =>
        obtain ⟨hk4, hi4⟩ := hp
        obtain ⟨hr, hl4, hl5, hk5⟩ := fin (some (.exit id)) W4 hk4
        exact ⟨_, _, hr, .inr ⟨rfl, .exit id, (hIx _).own.putObj _ hi4 (by omega) hl4 rfl, hl5, hk5⟩⟩
      | goto t =>
        obtain ⟨hk4, hi4⟩ := hp
        obtain ⟨hr, hl4, hl5, hk5⟩ := fin (some (.goto t)) W4 hk4
        exact ⟨_, _, hr, .inr ⟨rfl, .goto t, (hIx _).own.putObj _ hi4 (by omega) hl4 rfl, hl5, hk5⟩⟩
      | panic ch => exact hp.elim
      | outgrown => exact hp.elim
    · rintro e W2 ⟨⟨v, rfl⟩, (⟨hi, hl, hk⟩ | ⟨i, hlt, c, hi, hl, hk⟩)⟩
      · exact ⟨none, _, by have := run_endLoop (P := P) hl (by rw [hrec]; simp); rw [hrec] at this; exact this, hdone _ _ (Nat.le_refl _) (hI.own.putObj _ hi (by omega) hl rfl) ((World.putObj_heap_other (by omega)).trans hk)⟩
      · exact ⟨some c, _, by have := run_endLoop (P := P) hl (by rw [hrec]; simp); rw [hrec] at this; exact this, hstop _ c i _ (Nat.le_refl _) hlt ((hIx c).own.putObj _ hi (by omega) hl rfl) ((World.putObj_heap_other (by omega)).trans hk)⟩
end Go.Proofs.YtmdlmmfbcnkanaaR
namespace Go.Proofs.YtmdlmmfbcnkanaaR
open Go.RowKit Go.Shelf

/-- What a map's keys are like. -/
structure KeyLaw {κ : Type} [DecidableEq κ] (tm tk te : TypeId) (kv : κ → Value) : Prop where
  und : ∀ w, (underlying tm).run Try.prog w = .ok (.map tk te) w
  chk : ∀ b k w, (Instr.checkKey b 10000 tk (kv k)).run Try.prog w = .ok () w
  slow : ∃ d, (∀ w, (underlying tk).run Try.prog w = .ok d w) ∧ ∀ k k', Instr.sameNow d (kv k) (kv k') = none
  eq : ∀ k k' w, (Op.equal tk (kv k) (kv k')).run Try.prog w = .ok (decide (k = k')) w
  stays : ∀ k w, (Instr.keyThatStays (kv k) (kv k)).run Try.prog w = .ok (kv k) w

section
variable {κ : Type}
/-- The map at block M holds l. -/
structure MapAt (kv : κ → Value) (W : World) (M : Nat) (l : List (κ × Value)) : Prop where
  ex : ∃ es ck, W.heap[M]? = some (.map es ck) ∧ es.toList.map (fun e => (e.key, e.val)) = l.map (fun p => (kv p.1, p.2)) ∧ (∀ e, e ∈ es.toList → e.born < ck) ∧ (es.toList.map (·.born)).Nodup

variable {kv : κ → Value} {W : World} {M : Nat} {l : List (κ × Value)}
theorem MapAt.keep {W' : World} (h : MapAt kv W M l) (hk : W'.heap[M]? = W.heap[M]?) : MapAt kv W' M l := by
  obtain ⟨es, ck, h1, h2⟩ := h.ex
  exact ⟨es, ck, hk.trans h1, h2⟩
theorem MapAt.lt (h : MapAt kv W M l) : M < W.heap.size := by
  obtain ⟨es, ck, h1, _⟩ := h.ex
  exact (Array.getElem?_eq_some_iff.1 h1).1
theorem MapAt.new (W : World) : MapAt kv (W.alloc (.map #[] 0)) W.heap.size ([] : List (κ × Value)) :=
  ⟨#[], 0, World.alloc_heap_new _ _, rfl, by simp, by simp⟩

/-- The iterator at block r over the map at block M: the entries D (by their places) have come. -/
structure IterAt (kv : κ → Value) (W : World) (r M : Nat) (l : List (κ × Value)) (D : List Nat) : Prop where
  ex : ∃ es ck since seen, W.heap[M]? = some (.map es ck) ∧ es.toList.map (fun e => (e.key, e.val)) = l.map (fun p => (kv p.1, p.2)) ∧ (∀ e, e ∈ es.toList → e.born < since) ∧ since ≤ ck ∧ (es.toList.map (·.born)).Nodup ∧
    W.heap[r]? = some (.mapIter (some M) since seen ck) ∧ (D.map fun i => (es[i]?).map (·.born)) = seen.toList.map some
  nd : D.Nodup
  lt : ∀ i, i ∈ D → i < l.length
theorem nodup_le : ∀ (n : Nat) (D : List Nat), D.Nodup → (∀ i, i ∈ D → i < n) → D.length ≤ n
  | 0, D, _, h => by
    cases D with
    | nil => simp
    | cons d D => exact absurd (h d List.mem_cons_self) (Nat.not_lt_zero _)
  | n + 1, D, hd, h => by
    by_cases hn : n ∈ D
    · have h1 := nodup_le n (D.erase n) (hd.erase n) (fun i hi => by
        have h2 := (hd.mem_erase_iff).1 hi
        have := h i h2.2
        omega)
      rw [List.length_erase_of_mem hn] at h1
      omega
    · have h1 := nodup_le n D hd (fun i hi => by
        have := h i hi
        have : i ≠ n := fun e => hn (e ▸ hi)
        omega)
      omega
theorem nodup_inj {l : List Nat} (h : l.Nodup) {i j b : Nat} (hi : l[i]? = some b) (hj : l[j]? = some b) : i = j := by
  obtain ⟨h1, h2⟩ := List.getElem?_eq_some_iff.1 hi
  obtain ⟨h3, h4⟩ := List.getElem?_eq_some_iff.1 hj
  have hp := List.pairwise_iff_getElem.1 h
  by_cases e1 : i < j
  · exact (hp i j h1 h3 e1 (h2.trans h4.symm)).elim
  · by_cases e2 : j < i
    · exact (hp j i h3 h1 e2 (h4.trans h2.symm)).elim
    · omega
theorem IterAt.keep {W' : World} {r : Nat} {D : List Nat} (h : IterAt kv W r M l D) (hM : W'.heap[M]? = W.heap[M]?) (hr : W'.heap[r]? = W.heap[r]?) : IterAt kv W' r M l D := by
  obtain ⟨es, ck, since, seen, h1, h2, h3, h4, h5, h6, h7⟩ := h.ex
  exact ⟨⟨es, ck, since, seen, hM.trans h1, h2, h3, h4, h5, hr.trans h6, h7⟩, h.nd, h.lt⟩
theorem IterAt.next {r : Nat} {D : List Nat} (h : IterAt kv W r M l D) (hrM : r ≠ M) (ty : TypeId) :
    ((∀ i, i < l.length → i ∈ D) ∧ (Instr.next (.pointer (some ⟨r, 0, none⟩)) false ty).run Try.prog W = .ok (.tuple #[.bool false]) W) ∨
    ∃ i k v W1, l[i]? = some (k, v) ∧ D.length < l.length ∧ (Instr.next (.pointer (some ⟨r, 0, none⟩)) false ty).run Try.prog W = .ok (.tuple #[.bool true, kv k, v]) W1 ∧ IterAt kv W1 r M l (D ++ [i]) ∧ Else (fun k => k = r) W W1 := by
  obtain ⟨es, ck, since, seen, h1, h2, h3, h4, h5, h6, h7⟩ := h.ex
  have hlen : es.size = l.length := by have := congrArg List.length h2; simpa using this
  have hbi : ∀ (i j : Nat) (b : Nat), (es[i]?).map (·.born) = some b → (es[j]?).map (·.born) = some b → i = j := by
    intro i j b hi hj
    have hi' : (es.toList.map (·.born))[i]? = some b := by simpa using hi
    have hj' : (es.toList.map (·.born))[j]? = some b := by simpa using hj
    exact nodup_inj h5 hi' hj'
  have hmem : ∀ (i : Nat) (e : MapEntry), es[i]? = some e → (seen.contains e.born = true ↔ i ∈ D) := by
    intro i e he
    have h8 : seen.contains e.born = true ↔ some e.born ∈ seen.toList.map some := by simp
    rw [h8, ← h7]
    constructor
    · intro hx
      obtain ⟨j, hj, hje⟩ := List.mem_map.1 hx
      have := hbi i j e.born (by rw [he]; rfl) hje
      exact this ▸ hj
    · intro hx
      exact List.mem_map.2 ⟨i, hx, by rw [he]; rfl⟩
  rcases run_next_at (P := Try.prog) W ty r M since ck seen es ck h6 h1 h3 h4 with ⟨h8, h9⟩ | ⟨e, he, w1, hw1, h9⟩
  · refine .inl ⟨fun i hi => ?_, h9⟩
    have hi2 : i < es.size := by omega
    have hx := (hmem i es[i] (Array.getElem?_eq_getElem hi2))
    refine hx.1 ?_
    have h10 : Go.leftOf es seen = #[] := Array.eq_empty_of_size_eq_zero h8
    unfold Go.leftOf at h10
    rw [Array.filter_eq_empty_iff] at h10
    have := h10 es[i] (by simp)
    simpa using this
  · right
    have he2 : e ∈ es.toList ∧ seen.contains e.born = false := by
      simp [Go.leftOf] at he
      exact ⟨by simpa using he.1, by simpa using he.2⟩
    obtain ⟨i, hi⟩ := List.mem_iff_getElem?.1 he2.1
    have hi' : es[i]? = some e := by simpa using hi
    have hil : i < l.length := by have := (Array.getElem?_eq_some_iff.1 hi').1; omega
    have hnd : i ∉ D := fun hx => by have := (hmem i e hi').2 hx; rw [he2.2] at this; cases this
    have hkv : (e.key, e.val) = (kv l[i].1, l[i].2) := by
      have h10 : (es.toList.map (fun e => (e.key, e.val)))[i]? = (l.map (fun p => (kv p.1, p.2)))[i]? := by rw [h2]
      simp [hi', hil] at h10
      simp [h10]
    have hk1 : e.key = kv l[i].1 := congrArg Prod.fst hkv
    have hk2 : e.val = l[i].2 := congrArg Prod.snd hkv
    have hnd2 : (D ++ [i]).Nodup := List.nodup_append.2 ⟨h.nd, by simp, fun a ha b hb => by simp at hb; subst hb; exact fun e => hnd (e ▸ ha)⟩
    have hlt2 : ∀ j, j ∈ D ++ [i] → j < l.length := fun j hj => by
      rcases List.mem_append.1 hj with hj | hj
      · exact h.lt j hj
      · simp at hj; subst hj; exact hil
    have hsz := nodup_le _ _ hnd2 hlt2
    rw [List.length_append] at hsz
    simp only [List.length_cons, List.length_nil] at hsz
    have hh : w1.heap = W.heap := by rcases hw1 with rfl | rfl <;> rfl
    have hrl : r < W.heap.size := (Array.getElem?_eq_some_iff.1 h6).1
    refine ⟨i, l[i].1, l[i].2, _, List.getElem?_eq_getElem hil, by omega, by rw [h9, hk1, hk2], ⟨⟨es, ck, since, seen.push e.born, ?_, h2, h3, h4, h5, ?_, ?_⟩, hnd2, hlt2⟩, ?_⟩
    · simp only [ChangeMaps.setBlock, hh]
      rw [Array.getElem?_setIfInBounds_ne hrM]
      exact h1
    · simp only [ChangeMaps.setBlock, hh]
      rw [Array.getElem?_setIfInBounds_self_of_lt hrl]
    · rw [List.map_append, h7]
      simp [hi']
    · refine ⟨⟨?_, ?_, ?_, ?_, fun k hk => by omega⟩, fun k hk hx => ?_⟩
      · rcases hw1 with rfl | rfl <;> rfl
      · rcases hw1 with rfl | rfl <;> rfl
      · rcases hw1 with rfl | rfl <;> rfl
      · simp [ChangeMaps.setBlock, hh]
      · simp only [ChangeMaps.setBlock, hh]
        exact Array.getElem?_setIfInBounds_ne (fun e => hx e.symm)
theorem IterAt.entry {r : Nat} {D : List Nat} {i : Nat} {k : κ} {v : Value} (h : IterAt kv W r M l (D ++ [i])) (hi : l[i]? = some (k, v)) :
    (Instr.entry (.pointer (some ⟨r, 0, none⟩))).run Try.prog W = .ok (.tuple #[kv k, v]) W := by
  obtain ⟨es, ck, since, seen, h1, h2, h3, h4, h5, h6, h7⟩ := h.ex
  have hlen : es.size = l.length := by have := congrArg List.length h2; simpa using this
  have hil : i < es.size := by have := (List.getElem?_eq_some_iff.1 hi).1; omega
  have hkv : ((es[i]).key, (es[i]).val) = (kv k, v) := by
    have h10 : (es.toList.map (fun e => (e.key, e.val)))[i]? = (l.map (fun p => (kv p.1, p.2)))[i]? := by rw [h2]
    simpa [hi, hil] using h10
  have hb : seen.back? = some (es[i]).born := by
    have h8 := congrArg List.getLast? h7
    rw [List.map_append, List.map_cons, List.map_nil, List.getLast?_concat, List.getLast?_map] at h8
    rw [Array.back?_eq_getElem?, ← Array.getElem?_toList, ← Array.length_toList, ← List.getLast?_eq_getElem?]
    cases h9 : seen.toList.getLast? with
    | none => rw [h9] at h8; simp [hil] at h8
    | some b =>
      rw [h9] at h8
      simp [hil] at h8
      rw [h8]
  have hf : es.find? (·.born == (es[i]).born) = some es[i] := by rw [← Array.find?_toList]; exact find_born es[i] es.toList h5 (Array.getElem_mem_toList hil)
  simp only [Instr.entry, getObj, Sem.run_bind, Sem.run, h6, h1, Result.andThen, hb, bne_self_eq_false, Bool.false_eq_true, if_false, hf]
  have e1 : es[i].key = kv k := congrArg Prod.fst hkv
  have e2 : es[i].val = v := congrArg Prod.snd hkv
  rw [e1, e2]
  rfl
end
section
variable {κ : Type} [DecidableEq κ]
/-- The first entry of a key. -/
def ixK (k : κ) : List (κ × Value) → Nat → Option (Nat × Value)
  | [], _ => none
  | p :: l, i => if k = p.1 then some (i, p.2) else ixK k l (i + 1)
def getK (l : List (κ × Value)) (k : κ) : Option Value := (ixK k l 0).map (·.2)
def putK (l : List (κ × Value)) (k : κ) (v : Value) : List (κ × Value) := match ixK k l 0 with
  | some (j, _) => l.set j (k, v)
  | none => l ++ [(k, v)]

theorem ixK_some {k : κ} : ∀ {l : List (κ × Value)} {i j : Nat} {v : Value}, ixK k l i = some (j, v) → i ≤ j ∧ l[j - i]? = some (k, v)
  | [], _, _, _, h => by simp [ixK] at h
  | p :: l, i, j, v, h => by
    simp only [ixK] at h
    split at h
    · rename_i e
      cases h
      exact ⟨Nat.le_refl _, by simp [e]⟩
    · obtain ⟨h1, h2⟩ := ixK_some h
      refine ⟨by omega, ?_⟩
      rw [show j - i = (j - (i + 1)) + 1 by omega]
      simpa using h2
theorem ixK_shift (k : κ) : ∀ (l : List (κ × Value)) (i : Nat), ixK k l (i + 1) = (ixK k l i).map fun p => (p.1 + 1, p.2)
  | [], _ => rfl
  | p :: l, i => by
    simp only [ixK]
    split
    · rfl
    · rw [ixK_shift k l (i + 1)]
theorem getK_nil (k : κ) : getK ([] : List (κ × Value)) k = none := rfl
theorem getK_cons (p : κ × Value) (l : List (κ × Value)) (k : κ) : getK (p :: l) k = if k = p.1 then some p.2 else getK l k := by
  simp only [getK, ixK]
  split
  · rfl
  · rw [ixK_shift, Option.map_map]
    rfl
theorem getK_append (k : κ) (l' : List (κ × Value)) : ∀ l : List (κ × Value), getK (l ++ l') k = (getK l k).or (getK l' k)
  | [] => by simp [getK_nil]
  | p :: l => by
    rw [List.cons_append, getK_cons, getK_cons, getK_append k l' l]
    split
    · rfl
    · rfl
theorem getK_set {k : κ} {v : Value} (k' : κ) : ∀ {l : List (κ × Value)} {i j : Nat} {v0 : Value}, ixK k l i = some (j, v0) → getK (l.set (j - i) (k, v)) k' = if k' = k then some v else getK l k'
  | [], _, _, _, h => by simp [ixK] at h
  | p :: l, i, j, v0, h => by
    have h0 := h
    simp only [ixK] at h
    split at h
    · rename_i e
      cases h
      rw [Nat.sub_self, List.set_cons_zero, getK_cons, getK_cons]
      by_cases h1 : k' = k
      · simp [h1]
      · simp [h1, ← e]
    · rename_i e
      obtain ⟨h1, _⟩ := ixK_some h
      rw [show j - i = (j - (i + 1)) + 1 by omega, List.set_cons_succ, getK_cons, getK_cons, getK_set k' h]
      by_cases h2 : k' = p.1
      · have : k' ≠ k := fun h3 => e (h3 ▸ h2)
        simp [h2]
        intro h3
        exact (e h3.symm).elim
      · simp [h2]
theorem getK_put (l : List (κ × Value)) (k k' : κ) (v : Value) : getK (putK l k v) k' = if k' = k then some v else getK l k' := by
  unfold putK
  cases h : ixK k l 0 with
  | none =>
    have hn : getK l k = none := by simp [getK, h]
    simp only []
    rw [getK_append, getK_cons, getK_nil]
    by_cases e : k' = k
    · subst e
      simp [hn]
    · simp [e]
  | some p => exact getK_set k' (i := 0) h
theorem putK_same {l : List (κ × Value)} {k : κ} {v : Value} (h : getK l k = some v) : putK l k v = l := by
  unfold putK
  unfold getK at h
  cases h2 : ixK k l 0 with
  | none => rw [h2] at h; cases h
  | some p =>
    obtain ⟨j, v0⟩ := p
    rw [h2] at h
    cases h
    obtain ⟨_, h3⟩ := ixK_some h2
    simp only []
    have h3' : l[j]? = some (k, v0) := h3
    have hj : j < l.length := (List.getElem?_eq_some_iff.1 h3').1
    have e : l[j] = (k, v0) := (List.getElem?_eq_some_iff.1 h3').2
    show l.set j (k, v0) = l
    rw [← e]
    exact List.set_getElem_self hj
theorem putK_new {l : List (κ × Value)} {k : κ} {v : Value} (h : getK l k = none) : putK l k v = l ++ [(k, v)] := by
  unfold putK
  unfold getK at h
  cases h2 : ixK k l 0 with
  | none => rfl
  | some p => rw [h2] at h; cases h
variable {kv : κ → Value} {W : World} {M : Nat} {l : List (κ × Value)} {tm tk te : TypeId}
theorem findA (L : KeyLaw tm tk te kv) (k : κ) (w : World) : ∀ (es : List MapEntry) (l : List (κ × Value)) (i : Nat), es.map (fun e => (e.key, e.val)) = l.map (fun p => (kv p.1, p.2)) →
    (Instr.findAsking tk (kv k) es i).run Try.prog w = .ok (ixK k l i) w
  | [], l, _, h => by
    cases l with
    | nil => simp [Instr.findAsking, ixK]
    | cons p l => simp at h
  | e :: es, [], _, h => by simp at h
  | e :: es, p :: l, i, h => by
    simp only [List.map_cons, List.cons.injEq, Prod.mk.injEq] at h
    obtain ⟨⟨h1, h2⟩, h3⟩ := h
    simp only [Instr.findAsking, Sem.run_bind, h1, L.eq, Result.andThen, ixK]
    by_cases hk : k = p.1
    · simp [hk, h2]
    · simp [hk, findA L k w es l (i + 1) h3]
theorem findK (L : KeyLaw tm tk te kv) (k : κ) (w : World) (es : List MapEntry) (l : List (κ × Value)) (h : es.map (fun e => (e.key, e.val)) = l.map (fun p => (kv p.1, p.2))) :
    (Instr.findKey tk (kv k) es).run Try.prog w = .ok (ixK k l 0) w := by
  obtain ⟨d, h1, h2⟩ := L.slow
  have ha := findA L k w es l 0 h
  cases es with
  | nil =>
    cases l with
    | cons p l => simp at h
    | nil => simp [Instr.findKey, Instr.findNow, h1, ixK]
  | cons e es =>
    cases l with
    | nil => simp at h
    | cons p l =>
      simp only [List.map_cons, List.cons.injEq, Prod.mk.injEq] at h
      obtain ⟨⟨h3, h4⟩, h5⟩ := h
      simp only [Instr.findKey, Sem.run_bind, h1, Result.andThen, Instr.findNow, h3, h2]
      exact ha
theorem getObj_map {es : Array MapEntry} {ck : Nat} (h1 : W.heap[M]? = some (.map es ck)) : (getObj M).run Try.prog W = .ok (.map es ck) W := by simp [getObj, Sem.run, h1]

theorem MapAt.look2 (L : KeyLaw tm tk te kv) (h : MapAt kv W M l) (k : κ) {z : Value} (hz : ∀ w, (zeroValue te).run Try.prog w = .ok z w) :
    (Instr.lookup tm (.map (some M)) (kv k) true).run Try.prog W = .ok (.tuple #[(getK l k).getD z, .bool (getK l k).isSome]) W := by
  obtain ⟨es, ck, h1, h2, _⟩ := h.ex
  have hf := findK L k W es.toList l h2
  unfold getK
  cases hx : ixK k l 0 with
  | none =>
    rw [hx] at hf
    simp only [Instr.lookup, Sem.run_bind, L.und, Result.andThen, getObj_map h1, Sem.run_pure, L.chk, hf, hz]
    simp
  | some p =>
    rw [hx] at hf
    simp only [Instr.lookup, Sem.run_bind, L.und, Result.andThen, getObj_map h1, Sem.run_pure, L.chk, hf]
    simp
theorem MapAt.put (L : KeyLaw tm tk te kv) (h : MapAt kv W M l) (k : κ) (v : Value) : ∃ o, (Instr.mapUpdate tm (.map (some M)) (kv k) v).run Try.prog W = .ok () (W.putObj M o) ∧ MapAt kv (W.putObj M o) M (putK l k v) := by
  have hlt := h.lt
  obtain ⟨es, ck, h1, h2, h3, h4⟩ := h.ex
  have hs : ∀ o, (setObj M o).run Try.prog W = .ok () (W.putObj M o) := fun o => by simp [setObj, Sem.run, h1, World.putObj]
  have hf := findK L k W es.toList l h2
  cases hr : ixK k l 0 with
  | none =>
    rw [hr] at hf
    refine ⟨.map (es.push { key := kv k, val := v, born := ck }) (ck + 1), ?_, ⟨_, _, World.putObj_heap_same hlt, ?_, ?_, ?_⟩⟩
    · simp only [Instr.mapUpdate, Sem.run_bind, L.und, Result.andThen, getObj_map h1, L.chk, hf, hs]
    · simp [putK, hr, h2]
    · intro e he
      simp at he
      rcases he with he | rfl
      · have := h3 e (by simpa using he); omega
      · simp
    · simp only [Array.toList_push, List.map_append, List.map_cons, List.map_nil]
      refine List.nodup_append.2 ⟨h4, by simp, ?_⟩
      intro a ha b hb
      obtain ⟨e, he, rfl⟩ := List.mem_map.1 ha
      have := h3 e he
      simp at hb
      omega
  | some jv =>
    obtain ⟨j, v0⟩ := jv
    rw [hr] at hf
    obtain ⟨_, hlj⟩ := ixK_some hr
    have hlj' : l[j]? = some (k, v0) := hlj
    have hej : (es.toList.map (fun e => (e.key, e.val)))[j]? = some (kv k, v0) := by rw [h2]; simp [hlj']
    obtain ⟨e, he, hke⟩ : ∃ e, es[j]? = some e ∧ (e.key, e.val) = (kv k, v0) := by
      rw [List.getElem?_map, Array.getElem?_toList] at hej
      cases h5 : es[j]? with
      | none => rw [h5] at hej; cases hej
      | some e => rw [h5] at hej; exact ⟨e, rfl, by simpa using hej⟩
    have hke1 : e.key = kv k := by simpa using congrArg Prod.fst hke
    have hbn : (es.modify j fun e => { e with key := kv k, val := v }).toList.map (·.born) = es.toList.map (·.born) := by
      apply List.ext_getElem?
      intro i
      simp only [List.getElem?_map, Array.getElem?_toList, Array.getElem?_modify]
      split
      · cases es[i]? <;> rfl
      · rfl
    refine ⟨.map (es.modify j fun e => { e with key := kv k, val := v }) ck, ?_, ⟨_, _, World.putObj_heap_same hlt, ?_, ?_, ?_⟩⟩
    · simp only [Instr.mapUpdate, Sem.run_bind, L.und, Result.andThen, getObj_map h1, L.chk, hf, he, hke1, Option.map_some, Option.getD_some, L.stays, hs]
    · simp only [putK, hr]
      apply List.ext_getElem?
      intro i
      have h6 : (es.toList.map (fun e => (e.key, e.val)))[i]? = (l.map (fun p => (kv p.1, p.2)))[i]? := by rw [h2]
      simp only [List.getElem?_map, Array.getElem?_toList, Array.getElem?_modify, List.getElem?_set] at h6 ⊢
      by_cases hij : j = i
      · subst hij
        have hl : j < l.length := (List.getElem?_eq_some_iff.1 hlj').1
        simp [he, hl]
      · simp only [hij, if_false]
        exact h6
    · intro e' he'
      have : e'.born ∈ (es.modify j fun e => { e with key := kv k, val := v }).toList.map (·.born) := List.mem_map.2 ⟨e', he', rfl⟩
      rw [hbn] at this
      obtain ⟨e2, he2, h7⟩ := List.mem_map.1 this
      rw [← h7]
      exact h3 e2 he2
    · rw [hbn]; exact h4

theorem IterAt.new (L : KeyLaw tm tk te kv) (h : MapAt kv W M l) : ∃ o : Obj, (Instr.range tm (.map (some M))).run Try.prog W = .ok (.pointer (some ⟨W.heap.size, 0, none⟩)) (W.alloc o) ∧ IterAt kv (W.alloc o) W.heap.size M l [] := by
  obtain ⟨es, ck, h1, h2, h3, h4⟩ := h.ex
  refine ⟨.mapIter (some M) ck #[] ck, ?_, ⟨⟨es, ck, ck, #[], ?_, h2, h3, Nat.le_refl _, h4, World.alloc_heap_new _ _, rfl⟩, List.nodup_nil, fun i hi => by simp at hi⟩⟩
  · simp only [Instr.range, Sem.run_bind, L.und, Result.andThen, getObj_map h1, Sem.run_pure, run_newObj_alloc]
  · exact (Below.heap_alloc _ _ _ h.lt).trans h1
end
end Go.Proofs.YtmdlmmfbcnkanaaR
namespace Go.Proofs.YtmdlmmfbcnkanaaR
open Go.RowKit Go.Shelf
section
variable {P : Program} {ops : Array Oper} {K : Act → World → Prop} {k i d : Nat} {a : Act} {w w' : World} {ty : TypeId} {pos : String} {aft : Array Edge} {v : Value} {gd : Option (Nat × Bool)}
theorem ListK.look2 {t : TypeId} {x y : Operand} {u u' : Value} (hi : ops[i]? = some ⟨some d, .lookup t x y true, ty, pos, aft, gd⟩) (hx : a.eval x = u) (hy : a.eval y = u') (hv : (Instr.lookup t u u' true).run P w = .ok v w')
    (h : ListK P ops K k (i + 1) (a.put (some d) v) w') (hw : Region.wanted ⟨some d, .lookup t x y true, ty, pos, aft, gd⟩ (yielded ops a.tmps) = true := by rfl) : ListK P ops K (k + 1) i a w := ListK.valW hi hw (by simp [execOp, hx, hy, hv]) h
theorem ListK.range {t : TypeId} {x : Operand} {u : Value} (hi : ops[i]? = some ⟨some d, .range t x, ty, pos, aft, gd⟩) (hx : a.eval x = u) (hv : (Instr.range t u).run P w = .ok v w')
    (h : ListK P ops K k (i + 1) (a.put (some d) v) w') (hw : Region.wanted ⟨some d, .range t x, ty, pos, aft, gd⟩ (yielded ops a.tmps) = true := by rfl) : ListK P ops K (k + 1) i a w := ListK.valW hi hw (by simp [execOp, hx, hv]) h
theorem ListK.next {x : Operand} {u : Value} (hi : ops[i]? = some ⟨some d, .next x false, ty, pos, aft, gd⟩) (hx : a.eval x = u) (hv : (Instr.next u false ty).run P w = .ok v w')
    (h : ListK P ops K k (i + 1) (a.put (some d) v) w') (hw : Region.wanted ⟨some d, .next x false, ty, pos, aft, gd⟩ (yielded ops a.tmps) = true := by rfl) : ListK P ops K (k + 1) i a w := ListK.valW hi hw (by simp [execOp, hx, hv]) h
theorem ListK.entry {x : Operand} {u : Value} (hi : ops[i]? = some ⟨some d, .entry x, ty, pos, aft, gd⟩) (hx : a.eval x = u) (hv : (Instr.entry u).run P w = .ok v w')
    (h : ListK P ops K k (i + 1) (a.put (some d) v) w') (hw : Region.wanted ⟨some d, .entry x, ty, pos, aft, gd⟩ (yielded ops a.tmps) = true := by rfl) : ListK P ops K (k + 1) i a w := ListK.valW hi hw (by simp [execOp, hx, hv]) h
end
theorem al90 (w : World) : (Instr.alloc 90 true (.tuple #[])).run Try.prog w = .ok (.pointer (some ⟨w.heap.size, 0, none⟩)) (w.alloc (.cells #[.pointer none] 90)) := by go_simp
theorem al27 (w : World) : (Instr.alloc 27 true (.tuple #[])).run Try.prog w = .ok (.pointer (some ⟨w.heap.size, 0, none⟩)) (w.alloc (.cells #[.int .i64 0] 27)) := by go_simp
theorem al40 (w : World) : (Instr.alloc 40 true (.tuple #[])).run Try.prog w = .ok (.pointer (some ⟨w.heap.size, 0, none⟩)) (w.alloc (.cells #[.slice none 0 0] 40)) := by go_simp
theorem al137 (w : World) : (Instr.alloc 137 true (.tuple #[])).run Try.prog w = .ok (.pointer (some ⟨w.heap.size, 0, none⟩)) (w.alloc (.cells #[.map none] 137)) := by go_simp
theorem al138 (w : World) : (Instr.alloc 138 true (.tuple #[])).run Try.prog w = .ok (.pointer (some ⟨w.heap.size, 0, none⟩)) (w.alloc (.cells #[.nilFunc] 138)) := by go_simp
theorem al140 (w : World) : (Instr.alloc 140 true (.tuple #[])).run Try.prog w = .ok (.pointer (some ⟨w.heap.size, 0, none⟩)) (w.alloc (.cells #[.int .i64 0, .int .i64 0, .int .i64 0] 140)) := by go_simp
theorem mm93 (w : World) : (Instr.makeMap 93 none).run Try.prog w = .ok (.map (some w.heap.size)) (w.alloc (.map #[] 0)) := by kernel_rfl
theorem mm137 (w : World) : (Instr.makeMap 137 none).run Try.prog w = .ok (.map (some w.heap.size)) (w.alloc (.map #[] 0)) := by kernel_rfl
theorem bd95 (M : Option Nat) (w : World) : (Instr.build 95 #[(1, .map M)]).run Try.prog w = .ok (.agg #[.int .i64 0, .int .i64 0, .int .i64 0, .map M]) w := by go_simp
theorem bd140_1 (x : Int) (w : World) : (Instr.build 140 #[(0, .int .i64 x)]).run Try.prog w = .ok (.agg #[.int .i64 x, .int .i64 0, .int .i64 0]) w := by go_simp
theorem bd140_0 (w : World) : (Instr.build 140 #[]).run Try.prog w = .ok (.agg #[.int .i64 0, .int .i64 0, .int .i64 0]) w := by go_simp
theorem bd140 (x y z : Int) (w : World) : (Instr.build 140 #[(0, .int .i64 x), (1, .int .i64 y), (2, .int .i64 z)]).run Try.prog w = .ok (.agg #[.int .i64 x, .int .i64 y, .int .i64 z]) w := by go_simp
theorem bx95 (w : World) (x y z : Int) (M : Option Nat) : (Instr.box 95 (.agg #[.int .i64 x, .int .i64 y, .int .i64 z, .map M])).run Try.prog w = .ok (.pointer (some ⟨w.heap.size, 0, none⟩)) (w.alloc (.cells #[.int .i64 x, .int .i64 y, .int .i64 z, .map M] 95)) := by go_simp
theorem bx90 (w : World) (p : Option Addr) : (Instr.box 90 (.pointer p)).run Try.prog w = .ok (.pointer (some ⟨w.heap.size, 0, none⟩)) (w.alloc (.cells #[.pointer p] 90)) := by go_simp
theorem bx140 (w : World) (x y z : Int) : (Instr.box 140 (.agg #[.int .i64 x, .int .i64 y, .int .i64 z])).run Try.prog w = .ok (.pointer (some ⟨w.heap.size, 0, none⟩)) (w.alloc (.cells #[.int .i64 x, .int .i64 y, .int .i64 z] 140)) := by go_simp
theorem st90 {w : World} {p : Addr} {u : Value} {q : Option Addr} (h : w.cell? p = some u) (hf : w.frozen? p = false) : (Instr.storeAt 90 (.pointer (some p)) (.pointer q)).run Try.prog w = .ok () (w.setCell p (.pointer q)) := by go_simp
theorem st27 {w : World} {p : Addr} {u : Value} {x : Int} (h : w.cell? p = some u) (hf : w.frozen? p = false) : (Instr.storeAt 27 (.pointer (some p)) (.int .i64 x)).run Try.prog w = .ok () (w.setCell p (.int .i64 x)) := by go_simp
theorem st40 {w : World} {p : Addr} {u : Value} {A : Option Addr} {n c : Nat} (h : w.cell? p = some u) (hf : w.frozen? p = false) : (Instr.storeAt 40 (.pointer (some p)) (.slice A n c)).run Try.prog w = .ok () (w.setCell p (.slice A n c)) := by go_simp
theorem st137 {w : World} {p : Addr} {u : Value} {M : Option Nat} (h : w.cell? p = some u) (hf : w.frozen? p = false) : (Instr.storeAt 137 (.pointer (some p)) (.map M)).run Try.prog w = .ok () (w.setCell p (.map M)) := by go_simp
theorem st138 {w : World} {p : Addr} {u : Value} {f : Fn} {xs ys : Array Value} (h : w.cell? p = some u) (hf : w.frozen? p = false) : (Instr.storeAt 138 (.pointer (some p)) (.func f xs ys)).run Try.prog w = .ok () (w.setCell p (.func f xs ys)) := by go_simp
theorem st140 {w : World} {b : Nat} {u0 u1 u2 : Value} {x y z : Int} (h : Whole w b 140 #[u0, u1, u2]) : (Instr.storeAt 140 (.pointer (some ⟨b, 0, none⟩)) (.agg #[.int .i64 x, .int .i64 y, .int .i64 z])).run Try.prog w = .ok () (((w.setCell ⟨b, 0, none⟩ (.int .i64 x)).setCell ⟨b, 1, none⟩ (.int .i64 y)).setCell ⟨b, 2, none⟩ (.int .i64 z)) := by
  have h0 : w.cell? ⟨b, 0, none⟩ = some u0 := h.cell 0
  have h1 : w.cell? ⟨b, 1, none⟩ = some u1 := h.cell 1
  have h2 : w.cell? ⟨b, 2, none⟩ = some u2 := h.cell 2
  have f0 := h.frozen 0
  have f1 := h.frozen 1
  have f2 := h.frozen 2
  go_simp
theorem st77a {w : World} {b : Nat} {u0 u1 u2 u3 : Value} {x y z : Int} (h : Whole w b 95 #[u0, u1, u2, u3]) : (Instr.storeAt 77 (.pointer (some ⟨b, 0, none⟩)) (.agg #[.int .i64 x, .int .i64 y, .int .i64 z])).run Try.prog w = .ok () (((w.setCell ⟨b, 0, none⟩ (.int .i64 x)).setCell ⟨b, 1, none⟩ (.int .i64 y)).setCell ⟨b, 2, none⟩ (.int .i64 z)) := by
  have h0 : w.cell? ⟨b, 0, none⟩ = some u0 := h.cell 0
  have h1 : w.cell? ⟨b, 1, none⟩ = some u1 := h.cell 1
  have h2 : w.cell? ⟨b, 2, none⟩ = some u2 := h.cell 2
  have f0 := h.frozen 0
  have f1 := h.frozen 1
  have f2 := h.frozen 2
  go_simp
theorem ld90 {w : World} {p : Addr} {v : Value} (h : w.cell? p = some v) : (Instr.loadAt 90 (.pointer (some p))).run Try.prog w = .ok v w := by go_simp
theorem ld31 {w : World} {p : Addr} {v : Value} (h : w.cell? p = some v) : (Instr.loadAt 31 (.pointer (some p))).run Try.prog w = .ok v w := by go_simp
theorem ld40 {w : World} {p : Addr} {v : Value} (h : w.cell? p = some v) : (Instr.loadAt 40 (.pointer (some p))).run Try.prog w = .ok v w := by go_simp
theorem ld93m {w : World} {p : Addr} {v : Value} (h : w.cell? p = some v) : (Instr.loadAt 93 (.pointer (some p))).run Try.prog w = .ok v w := by go_simp
theorem ld137 {w : World} {p : Addr} {v : Value} (h : w.cell? p = some v) : (Instr.loadAt 137 (.pointer (some p))).run Try.prog w = .ok v w := by go_simp
theorem ld138 {w : World} {p : Addr} {v : Value} (h : w.cell? p = some v) : (Instr.loadAt 138 (.pointer (some p))).run Try.prog w = .ok v w := by go_simp
theorem ld140 {w : World} {b : Nat} {u v x : Value} (h : w.cell? ⟨b, 0, none⟩ = some u ∧ w.cell? ⟨b, 1, none⟩ = some v ∧ w.cell? ⟨b, 2, none⟩ = some x) : (Instr.loadAt 140 (.pointer (some ⟨b, 0, none⟩))).run Try.prog w = .ok (.agg #[u, v, x]) w := by
  obtain ⟨h0, h1, h2⟩ := h
  go_simp
theorem fa95_0 {b o : Nat} (w : World) : (Instr.fieldAt 95 (.pointer (some ⟨b, o, none⟩)) 0).run Try.prog w = .ok (.pointer (some ⟨b, o, none⟩)) w := by go_simp
theorem fa95_1 {b o : Nat} (w : World) : (Instr.fieldAt 95 (.pointer (some ⟨b, o, none⟩)) 1).run Try.prog w = .ok (.pointer (some ⟨b, o + 3, none⟩)) w := by go_simp
theorem fa97_0 {b o : Nat} (w : World) : (Instr.fieldAt 97 (.pointer (some ⟨b, o, none⟩)) 0).run Try.prog w = .ok (.pointer (some ⟨b, o, none⟩)) w := by go_simp
theorem fa97_1 {b o : Nat} (w : World) : (Instr.fieldAt 97 (.pointer (some ⟨b, o, none⟩)) 1).run Try.prog w = .ok (.pointer (some ⟨b, o + 1, none⟩)) w := by go_simp
theorem fa140_0 {b o : Nat} (w : World) : (Instr.fieldAt 140 (.pointer (some ⟨b, o, none⟩)) 0).run Try.prog w = .ok (.pointer (some ⟨b, o, none⟩)) w := by go_simp
theorem fa140_1 {b o : Nat} (w : World) : (Instr.fieldAt 140 (.pointer (some ⟨b, o, none⟩)) 1).run Try.prog w = .ok (.pointer (some ⟨b, o + 1, none⟩)) w := by go_simp
theorem fa140_2 {b o : Nat} (w : World) : (Instr.fieldAt 140 (.pointer (some ⟨b, o, none⟩)) 2).run Try.prog w = .ok (.pointer (some ⟨b, o + 2, none⟩)) w := by go_simp
theorem fa45_0 {b o : Nat} (w : World) : (Instr.fieldAt 45 (.pointer (some ⟨b, o, none⟩)) 0).run Try.prog w = .ok (.pointer (some ⟨b, o, none⟩)) w := by go_simp
theorem fa45_1 {b o : Nat} (w : World) : (Instr.fieldAt 45 (.pointer (some ⟨b, o, none⟩)) 1).run Try.prog w = .ok (.pointer (some ⟨b, o + 1, none⟩)) w := by go_simp
theorem ix124 {b o n c : Nat} {i : Nat} (h : i < n) (w : World) : (Instr.indexAt 124 (.slice (some ⟨b, o, none⟩) n c) (.int .i64 i)).run Try.prog w = .ok (.pointer (some ⟨b, o + i, none⟩)) w := by go_simp
theorem ix40 {b o n c : Nat} {i : Nat} (h : i < n) (w : World) : (Instr.indexAt 40 (.slice (some ⟨b, o, none⟩) n c) (.int .i64 i)).run Try.prog w = .ok (.pointer (some ⟨b, o + i * 2, none⟩)) w := by go_simp

theorem sameNow_agg (d : TypeDesc) (x y : Array Value) : Instr.sameNow d (.agg x) (.agg y) = none := by cases d <;> rfl
theorem stays_agg (x : Array Value) (w : World) (h : ∀ v, v ∈ x.toList → ∃ k n, v = .int k n) : (Instr.keyThatStays (.agg x) (.agg x)).run Try.prog w = .ok (.agg x) w := by
  have hb : Instr.sameBits 10000 (.agg x) (.agg x) = true := by
    show (x.size == x.size && (x.toList.zip x.toList).all fun (x, y) => Instr.sameBits 9999 x y) = true
    simp only [BEq.rfl, Bool.true_and, List.all_eq_true]
    rintro ⟨u, v⟩ huv
    have : ∀ (l : List Value), (u, v) ∈ l.zip l → u = v ∧ u ∈ l := by
      intro l
      induction l with
      | nil => intro h; simp at h
      | cons z l ih =>
        intro h
        simp only [List.zip_cons_cons, List.mem_cons, Prod.mk.injEq] at h
        rcases h with ⟨rfl, rfl⟩ | h
        · exact ⟨rfl, List.mem_cons_self⟩
        · exact ⟨(ih h).1, List.mem_cons_of_mem _ (ih h).2⟩
    obtain ⟨rfl, hm⟩ := this _ huv
    obtain ⟨k, n, rfl⟩ := h u hm
    show (k == k && n == n) = true
    simp
  simp only [Instr.keyThatStays, hb, if_true]
  rfl
/-- The package in which the struct's fields are declared. -/
noncomputable def ownPkg : String := match Try.prog.underlying 97 with
  | some (.struct fs) => (fs[0]?.map (fun x => x.pkgPath)).getD ""
  | _ => ""
theorem und97 (w : World) : (underlying 97).run Try.prog w = .ok (.struct #[{ name := "letter", type := 5, offset := 0, embedded := false, tag := "", pkgPath := ownPkg, byteOffset := 0 }, { name := "number", type := 3, offset := 1, embedded := false, tag := "", pkgPath := ownPkg, byteOffset := 8 }]) w := by kernel_rfl
theorem p97_0 (d x : Int) (w : World) : (part 5 #[.int .u8 d, .int .i64 x] 0).run Try.prog w = .ok (.int .u8 d) w := by kernel_rfl
theorem p97_1 (d x : Int) (w : World) : (part 3 #[.int .u8 d, .int .i64 x] 1).run Try.prog w = .ok (.int .i64 x) w := by kernel_rfl
theorem eq5 (x y : Int) (w : World) : (Op.equalIn 9999 5 (.int .u8 x) (.int .u8 y)).run Try.prog w = .ok (x == y) w := by kernel_rfl
theorem eq3i (x y : Int) (w : World) : (Op.equalIn 9999 3 (.int .i64 x) (.int .i64 y)).run Try.prog w = .ok (x == y) w := by kernel_rfl
theorem eq97 (d x d' x' : Int) (w : World) : (Op.equal 97 (.agg #[.int .u8 d, .int .i64 x]) (.agg #[.int .u8 d', .int .i64 x'])).run Try.prog w = .ok (if d == d' then x == x' else false) w := by
  show (Op.equalIn (9999 + 1) 97 _ _).run Try.prog w = _
  unfold Op.equalIn
  simp only [Sem.run_bind, und97, Result.andThen]
  cases h : (d == d') with
  | false => simp [p97_0, eq5, h]
  | true =>
    simp [p97_0, p97_1, eq5, eq3i, h]
    by_cases e : x = x' <;> simp [e]
theorem und140 (w : World) : (underlying 140).run Try.prog w = .ok (.struct #[{ name := "at", type := 3, offset := 0, embedded := false, tag := "", pkgPath := ownPkg, byteOffset := 0 }, { name := "reading", type := 3, offset := 1, embedded := false, tag := "", pkgPath := ownPkg, byteOffset := 8 }, { name := "sum", type := 3, offset := 2, embedded := false, tag := "", pkgPath := ownPkg, byteOffset := 16 }]) w := by kernel_rfl
theorem p140_0 (x y z : Int) (w : World) : (part 3 #[.int .i64 x, .int .i64 y, .int .i64 z] 0).run Try.prog w = .ok (.int .i64 x) w := by kernel_rfl
theorem p140_1 (x y z : Int) (w : World) : (part 3 #[.int .i64 x, .int .i64 y, .int .i64 z] 1).run Try.prog w = .ok (.int .i64 y) w := by kernel_rfl
theorem p140_2 (x y z : Int) (w : World) : (part 3 #[.int .i64 x, .int .i64 y, .int .i64 z] 2).run Try.prog w = .ok (.int .i64 z) w := by kernel_rfl
theorem eq140 (x y z x' y' z' : Int) (w : World) : (Op.equal 140 (.agg #[.int .i64 x, .int .i64 y, .int .i64 z]) (.agg #[.int .i64 x', .int .i64 y', .int .i64 z'])).run Try.prog w = .ok (if x == x' then (if y == y' then z == z' else false) else false) w := by
  show (Op.equalIn (9999 + 1) 140 _ _).run Try.prog w = _
  unfold Op.equalIn
  simp only [Sem.run_bind, und140, Result.andThen]
  cases h : (x == x') with
  | false => simp [p140_0, eq3i, h]
  | true =>
    cases h2 : (y == y') with
    | false => simp [p140_0, p140_1, eq3i, h, h2]
    | true =>
      simp [p140_0, p140_1, p140_2, eq3i, h, h2]
      by_cases e : z = z' <;> simp [e]

/-- Names as keys. -/
theorem kl97 : KeyLaw (κ := UInt8 × Nat) 93 97 83 nameV where
  und := fun w => by kernel_rfl
  chk := fun b k w => by kernel_rfl
  slow := ⟨_, und97, fun k k' => sameNow_agg _ _ _⟩
  eq := fun k k' w => by
    rw [eq97]
    obtain ⟨a, n⟩ := k
    obtain ⟨a', n'⟩ := k'
    congr 1
    by_cases h : a = a'
    · subst h
      by_cases h2 : n = n'
      · simp [h2]
      · have : ¬ (n : Int) = n' := by omega
        simp [h2, this]
    · have : ¬ (a.toNat : Int) = a'.toNat := fun e => h (UInt8.toNat_inj.1 (by omega))
      simp [h, this]
  stays := fun k w => stays_agg _ w (by simp)
/-- Steps as keys. -/
abbrev stepV (s : Int × Int × Int) : Value := .agg #[.int .i64 s.1, .int .i64 s.2.1, .int .i64 s.2.2]
theorem kl140 : KeyLaw (κ := Int × Int × Int) 137 140 4 stepV where
  und := fun w => by kernel_rfl
  chk := fun b k w => by kernel_rfl
  slow := ⟨_, und140, fun k k' => sameNow_agg _ _ _⟩
  eq := fun k k' w => by
    rw [eq140]
    obtain ⟨x, y, z⟩ := k
    obtain ⟨x', y', z'⟩ := k'
    congr 1
    by_cases h : x = x' <;> by_cases h2 : y = y' <;> by_cases h3 : z = z' <;> simp [h, h2, h3]
  stays := fun k w => stays_agg _ w (by simp)
theorem zv83 (w : World) : (zeroValue 83).run Try.prog w = .ok (.agg z7) w := by kernel_rfl
theorem zv4 (w : World) : (zeroValue 4).run Try.prog w = .ok (.bool false) w := by kernel_rfl
end Go.Proofs.YtmdlmmfbcnkanaaR
namespace Go.Proofs.YtmdlmmfbcnkanaaR

/-- A step as a key. -/
def stK (k r s : Nat) : Int × Int × Int := ((k : Int) - 1, (r : Int), (s : Int))
theorem stK_inj {k r s k' r' s' : Nat} (h : stK k r s = stK k' r' s') : k = k' ∧ r = r' ∧ s = s' := by
  simp only [stK, Prod.mk.injEq] at h
  omega
theorem mem_reads {h : Head} {k r n : Nat} : n ∈ readsR h k r ↔ lowR h k r ≤ n ∧ n ≤ highR h k r := by
  unfold readsR
  simp only [List.mem_map, List.mem_range]
  constructor
  · rintro ⟨i, hi, rfl⟩
    omega
  · intro hn
    exact ⟨n - lowR h k r, by omega, by omega⟩
theorem high_le (h : Head) (k r : Nat) : highR h k r ≤ 99 := by
  unfold highR
  split <;> omega
theorem mem_reach {h : Head} {m : List (List UInt8)} {k n s' : Nat} : (n, s') ∈ reach h m (k + 1) ↔ ∃ r s, (r, s) ∈ reach h m k ∧ n ∈ readsR h k r ∧ after h m k s n = some s' := by
  simp only [reach, List.mem_flatMap, List.mem_filterMap, Option.map_eq_some_iff]
  constructor
  · rintro ⟨⟨r, s⟩, h1, n', h2, s2, h3, h4⟩
    cases h4
    exact ⟨r, s, h1, h2, h3⟩
  · rintro ⟨r, s, h1, h2, h3⟩
    exact ⟨(r, s), h1, n, h2, s', h3, rfl⟩
theorem mem_goes {h : Head} {m : List (List UInt8)} {k n : Nat} : n ∈ goesAt h m k ↔ ∃ s', (n, s') ∈ reach h m (k + 1) ∧ goB h m (h.many - (k + 1)) (k + 1) n s' = true := by
  simp only [goesAt, List.mem_map, List.mem_filter]
  constructor
  · rintro ⟨⟨n', s'⟩, ⟨h1, h2⟩, rfl⟩
    exact ⟨s', h1, h2⟩
  · rintro ⟨s', h1, h2⟩
    exact ⟨(n, s'), ⟨h1, h2⟩, rfl⟩
theorem goB_succ {h : Head} {m : List (List UInt8)} {f k r s : Nat} : goB h m (f + 1) k r s = true ↔ ∃ n s', n ∈ readsR h k r ∧ after h m k s n = some s' ∧ goB h m f (k + 1) n s' = true := by
  simp only [goB, List.any_eq_true]
  constructor
  · rintro ⟨n, h1, h2⟩
    cases h3 : after h m k s n with
    | none => rw [h3] at h2; cases h2
    | some s' => rw [h3] at h2; exact ⟨n, s', h1, h3, h2⟩
  · rintro ⟨n, s', h1, h2, h3⟩
    exact ⟨n, h1, by rw [h2]; exact h3⟩

/-- What is known, K, and what has been taken up, U. -/
structure MI (h : Head) (m : List (List UInt8)) (K : Int × Int × Int → Option Bool) (U : Nat → Nat → Prop) : Prop where
  ok : ∀ k r s b, K (stK k r s) = some b → k < h.many ∧ b = goB h m (h.many - k) k r s
  cov : ∀ k r s, K (stK k r s) = some true → ∀ n s', n ∈ readsR h k r → after h m k s n = some s' → goB h m (h.many - (k + 1)) (k + 1) n s' = true → U k n ∧ (k + 1 < h.many → K (stK (k + 1) n s') = some true)
  snd : ∀ k n, U k n → n ∈ goesAt h m k
theorem MI.start (h : Head) (m : List (List UInt8)) : MI h m (fun _ => none) (fun _ _ => False) := ⟨fun _ _ _ _ e => (by cases e), fun _ _ _ e => (by cases e), fun _ _ e => False.elim e⟩
theorem MI.all {h : Head} {m : List (List UInt8)} {K : Int × Int × Int → Option Bool} {U : Nat → Nat → Prop} (i : MI h m K U) (h0 : K (stK 0 0 0) = some true) :
    ∀ k r s, k < h.many → (r, s) ∈ reach h m k → goB h m (h.many - k) k r s = true → K (stK k r s) = some true
  | 0, r, s, _, hr, _ => by
    simp only [reach, List.mem_singleton, Prod.mk.injEq] at hr
    obtain ⟨rfl, rfl⟩ := hr
    exact h0
  | k + 1, n, s', hk, hr, hg => by
    obtain ⟨r, s, h1, h2, h3⟩ := mem_reach.1 hr
    have hg2 : goB h m (h.many - k) k r s = true := by
      rw [show h.many - k = (h.many - (k + 1)) + 1 by omega]
      exact goB_succ.2 ⟨n, s', h2, h3, hg⟩
    exact (i.cov k r s (MI.all i h0 k r s (by omega) h1 hg2) n s' h2 h3 hg).2 hk
theorem MI.end_ {h : Head} {m : List (List UInt8)} {K : Int × Int × Int → Option Bool} {U : Nat → Nat → Prop} (i : MI h m K U) (h0 : K (stK 0 0 0) = some true) {k n : Nat} (hk : k < h.many) : U k n ↔ n ∈ goesAt h m k := by
  refine ⟨i.snd k n, fun hn => ?_⟩
  obtain ⟨s', h1, h2⟩ := mem_goes.1 hn
  obtain ⟨r, s, h3, h4, h5⟩ := mem_reach.1 h1
  have hg2 : goB h m (h.many - k) k r s = true := by
    rw [show h.many - k = (h.many - (k + 1)) + 1 by omega]
    exact goB_succ.2 ⟨n, s', h4, h5, h2⟩
  exact (i.cov k r s (i.all h0 k r s hk h3 hg2) n s' h4 h5 h2).1

/-- From lo to hi: the least and the greatest of some numbers. -/
def RgOk (U : Nat → Prop) (lo hi : Int) : Prop := (∀ n, U n → lo ≤ n ∧ (n : Int) ≤ hi) ∧ ((lo = 100 ∧ hi = -1 ∧ ∀ n, ¬ U n) ∨ ∃ a b : Nat, U a ∧ U b ∧ lo = a ∧ hi = b)
theorem RgOk.start {U : Nat → Prop} (h : ∀ n, ¬ U n) : RgOk U 100 (-1) := ⟨fun n hn => (h n hn).elim, .inl ⟨rfl, rfl, h⟩⟩
theorem RgOk.add {U U' : Nat → Prop} {lo hi : Int} (h : RgOk U lo hi) (n : Nat) (hn : n ≤ 99) (hU : ∀ x, U' x ↔ U x ∨ x = n) : RgOk U' (min lo n) (max hi n) := by
  obtain ⟨h1, h2⟩ := h
  refine ⟨fun x hx => ?_, .inr ?_⟩
  · rcases (hU x).1 hx with hx | rfl
    · have := h1 x hx
      omega
    · omega
  · rcases h2 with ⟨rfl, rfl, _⟩ | ⟨a, b, ha, hb, rfl, rfl⟩
    · exact ⟨n, n, (hU n).2 (.inr rfl), (hU n).2 (.inr rfl), by omega, by omega⟩
    · have hb1 := h1 b hb
      have ha1 := h1 a ha
      by_cases e1 : n < a
      · by_cases e2 : b < n
        · omega
        · exact ⟨n, b, (hU n).2 (.inr rfl), (hU b).2 (.inl hb), by omega, by omega⟩
      · by_cases e2 : b < n
        · exact ⟨a, n, (hU a).2 (.inl ha), (hU n).2 (.inr rfl), by omega, by omega⟩
        · exact ⟨a, b, (hU a).2 (.inl ha), (hU b).2 (.inl hb), by omega, by omega⟩
theorem RgOk.congr {U U' : Nat → Prop} {lo hi : Int} (h : RgOk U lo hi) (hU : ∀ x, U' x ↔ U x) : RgOk U' lo hi := by
  have : U' = U := funext fun x => propext (hU x)
  rw [this]
  exact h
theorem RgOk.uniq {U : Nat → Prop} {lo hi lo' hi' : Int} (h : RgOk U lo hi) (h' : RgOk U lo' hi') : lo = lo' ∧ hi = hi' := by
  obtain ⟨h1, h2⟩ := h
  obtain ⟨h3, h4⟩ := h'
  rcases h2 with ⟨rfl, rfl, hn⟩ | ⟨a, b, ha, hb, rfl, rfl⟩ <;> rcases h4 with ⟨rfl, rfl, hn'⟩ | ⟨a', b', ha', hb', rfl, rfl⟩
  · exact ⟨rfl, rfl⟩
  · exact (hn _ ha').elim
  · exact (hn' _ ha).elim
  · have := h1 _ ha'
    have := h1 _ hb'
    have := h3 _ ha
    have := h3 _ hb
    omega
theorem rg_fold : ∀ (l : List Nat) (U : Nat → Prop) (lo hi : Int), (∀ n, n ∈ l → n ≤ 99) → RgOk U lo hi →
    RgOk (fun x => U x ∨ x ∈ l) (l.foldl (fun (x : Int) (n : Nat) => min x (n : Int)) lo) (l.foldl (fun (x : Int) (n : Nat) => max x (n : Int)) hi)
  | [], U, lo, hi, _, h => h.congr (fun x => by simp)
  | n :: l, U, lo, hi, hl, h => by
    have h1 := h.add (U' := fun x => U x ∨ x = n) n (hl n List.mem_cons_self) (fun x => Iff.rfl)
    exact (rg_fold l _ _ _ (fun x hx => hl x (List.mem_cons_of_mem _ hx)) h1).congr (fun x => by simp [or_assoc])
theorem goes_le {h : Head} {m : List (List UInt8)} {k n : Nat} (hn : n ∈ goesAt h m k) : n ≤ 99 := by
  obtain ⟨s', h1, _⟩ := mem_goes.1 hn
  obtain ⟨r, s, _, h4, _⟩ := mem_reach.1 h1
  have := mem_reads.1 h4
  have := high_le h k r
  omega
theorem rg_goes (h : Head) (m : List (List UInt8)) (k : Nat) : RgOk (fun n => n ∈ goesAt h m k) (loAt h m k) (hiAt h m k) :=
  (rg_fold (goesAt h m k) (fun _ => False) 100 (-1) (fun _ hn => goes_le hn) (RgOk.start (fun _ h => h))).congr (fun x => by simp)
def updK (K : Int × Int × Int → Option Bool) (key : Int × Int × Int) (b : Bool) : Int × Int × Int → Option Bool := fun x => if x = key then some b else K x
def updU (U : Nat → Nat → Prop) (k n : Nat) : Nat → Nat → Prop := fun i x => U i x ∨ (i = k ∧ x = n)
theorem MI.ext {h : Head} {m : List (List UInt8)} {K : Int × Int × Int → Option Bool} {U : Nat → Nat → Prop} (i : MI h m K U) {k r s : Nat} {b : Bool} (hb : b = goB h m (h.many - k) k r s) :
    ∀ x v, K x = some v → updK K (stK k r s) b x = some v := by
  intro x v hx
  unfold updK
  split
  · rename_i e
    subst e
    have := (i.ok k r s v hx).2
    rw [hb, ← this]
  · exact hx
theorem MI.put {h : Head} {m : List (List UInt8)} {K : Int × Int × Int → Option Bool} {U : Nat → Nat → Prop} (i : MI h m K U) {k r s : Nat} {b : Bool} (hk : k < h.many) (hb : b = goB h m (h.many - k) k r s)
    (hc : b = true → ∀ n s', n ∈ readsR h k r → after h m k s n = some s' → goB h m (h.many - (k + 1)) (k + 1) n s' = true → U k n ∧ (k + 1 < h.many → K (stK (k + 1) n s') = some true)) : MI h m (updK K (stK k r s) b) U := by
  have he := i.ext hb
  refine ⟨fun k' r' s' b' hx => ?_, fun k' r' s' hx n s2 h1 h2 h3 => ?_, i.snd⟩
  · unfold updK at hx
    split at hx
    · rename_i e
      obtain ⟨rfl, rfl, rfl⟩ := stK_inj e
      cases hx
      exact ⟨hk, hb⟩
    · exact i.ok k' r' s' b' hx
  · unfold updK at hx
    split at hx
    · rename_i e
      obtain ⟨rfl, rfl, rfl⟩ := stK_inj e
      cases hx
      obtain ⟨h4, h5⟩ := hc rfl n s2 h1 h2 h3
      exact ⟨h4, fun hl => he _ _ (h5 hl)⟩
    · obtain ⟨h4, h5⟩ := i.cov k' r' s' hx n s2 h1 h2 h3
      exact ⟨h4, fun hl => he _ _ (h5 hl)⟩
theorem MI.take {h : Head} {m : List (List UInt8)} {K : Int × Int × Int → Option Bool} {U : Nat → Nat → Prop} (i : MI h m K U) {k n : Nat} (hn : n ∈ goesAt h m k) : MI h m K (updU U k n) :=
  ⟨i.ok, fun k' r' s' hx n' s2 h1 h2 h3 => ⟨.inl (i.cov k' r' s' hx n' s2 h1 h2 h3).1, (i.cov k' r' s' hx n' s2 h1 h2 h3).2⟩, fun k' n' hx => by
    rcases hx with hx | ⟨rfl, rfl⟩
    · exact i.snd _ _ hx
    · exact hn⟩
theorem after_le {h : Head} {m : List (List UInt8)} {k s n s' : Nat} (ha : after h m k s n = some s') (hn : n ≤ 99) : s' ≤ 99 := by
  unfold after at ha
  simp only [Option.ite_none_right_eq_some, Option.some.injEq] at ha
  obtain ⟨_, rfl⟩ := ha
  split <;> omega
end Go.Proofs.YtmdlmmfbcnkanaaR
namespace Go.Proofs.YtmdlmmfbcnkanaaR
open Go.RowKit Go.Shelf
/-- Records as a map. -/
def recMap (m : List (List UInt8)) : List ((UInt8 × Nat) × Value) := m.map fun r => (nameOf r, .agg (recC r))
theorem getK_rec (nm : UInt8 × Nat) : ∀ m : List (List UInt8), getK (recMap m) nm = (find m nm).map fun r => .agg (recC r)
  | [] => rfl
  | r :: m => by
    show getK ((nameOf r, Value.agg (recC r)) :: recMap m) nm = _
    rw [getK_cons, getK_rec nm m]
    unfold find
    rw [List.find?_cons]
    by_cases h : nm = nameOf r
    · simp [h]
    · have h1 : (nameOf r == nm) = false := by simpa using fun e => h e.symm
      simp [h, h1]
theorem find_mem {m : List (List UInt8)} {nm : UInt8 × Nat} {r : List UInt8} (h : find m nm = some r) : r ∈ m ∧ nameOf r = nm := by
  unfold find at h
  exact ⟨List.mem_of_find?_eq_some h, by simpa using List.find?_some h⟩
/-- An archive in memory. -/
structure ArchAt (W : World) (b M : Nat) (h : Head) (m : List (List UInt8)) : Prop where
  whole : Whole W b 95 #[.int .i64 (h.many : Int), .int .i64 (h.width : Int), .int .i64 (h.step : Int), .map (some M)]
  map : MapAt nameV W M (recMap m)
  seven : ∀ r, r ∈ m → r.length = 7
theorem ArchAt.lt {W : World} {b M : Nat} {h : Head} {m : List (List UInt8)} (a : ArchAt W b M h m) : b < W.heap.size ∧ M < W.heap.size := ⟨a.whole.lt, a.map.lt⟩
theorem ArchAt.keep {W W' : World} {b M : Nat} {h : Head} {m : List (List UInt8)} (a : ArchAt W b M h m) {X : Nat → Prop} (he : Else X W W') (hb : ¬ X b) (hM : ¬ X M) : ArchAt W' b M h m :=
  ⟨he.whole hb a.whole, a.map.keep (he.block M a.map.lt hM), a.seven⟩
theorem ArchAt.below {W W' : World} {b M : Nat} {h : Head} {m : List (List UInt8)} (a : ArchAt W b M h m) (hb : Below W.heap.size W W') : ArchAt W' b M h m :=
  a.keep (Else.of_below (fun _ => False) hb) (fun h => h) (fun h => h)
theorem res2n {fn : Func} {i j : Nat} {W : World} {a : Act} {x y : Value} (h : fn.results = #[.tmp i, .tmp j]) (hi : a.eval (.tmp i) = x) (hj : a.eval (.tmp j) = y) :
    (results fn a.tmps).run Try.prog W = .ok (.tuple #[x, y]) W := by
  have e1 : a.tmps[i]?.getD undef = x := by simpa [Act.eval] using hi
  have e2 : a.tmps[j]?.getD undef = y := by simpa [Act.eval] using hj
  simp only [results, h]
  simp [e1, e2]
noncomputable def opsTo0 : Array Oper := (Try.f115.body.bind (regionOf 0)).getD #[]
noncomputable def opsTo1 : Array Oper := (Try.f115.body.bind (regionOf 1)).getD #[]
noncomputable def opsTo2 : Array Oper := (Try.f115.body.bind (regionOf 2)).getD #[]
noncomputable def opsTo3 : Array Oper := (Try.f115.body.bind (regionOf 3)).getD #[]
noncomputable def opsTo4 : Array Oper := (Try.f115.body.bind (regionOf 4)).getD #[]
noncomputable def code115 : Code := (.seq (.region 0 opsTo0 false) (.seq (.region 1 opsTo1 false) (.seq (.seq (.region 2 opsTo2 false) (.cond (.tmp 22) (.seq (.region 3 opsTo3 false) .ret) .skip)) (.seq (.region 4 opsTo4 false) .ret))))
theorem body115 : Try.f115.body = some code115 := by kernel_rfl
abbrev optV (o : Option Nat) : Value := .tuple #[.int .i64 ((o.getD 0 : Nat) : Int), .bool o.isSome]
set_option maxHeartbeats 400000 in
theorem told_any {b M : Nat} {h : Head} {m : List (List UInt8)} (k : UInt8) (n : Nat) (W : World) (ar : ArchAt W b M h m) :
    Calls Try.prog 115 #[.pointer (some ⟨b, 0, none⟩), u8V k, .int .i64 (n : Int)] W (EvP W (optV (told m k n))) := by
  have wb := ar.whole
  have hb1 : told m k n = (find m (k, n)).map valOf := rfl
  refine (callsIn_wide (n := 5)).1 (callsIn_of_wp Try.func115 body115 trivial ?_ rfl)
  obtain ⟨a, ha⟩ : ∃ a : Act, a = { tmps := #[.pointer (some ⟨b, 0, none⟩), u8V k, .int .i64 (n : Int)] ++ Array.replicate (Try.f115.ntmps - (#[.pointer (some ⟨b, 0, none⟩), u8V k, .int .i64 (n : Int)] : Array Value).size) undef, defers := [] } := ⟨_, rfl⟩
  have hsz : a.tmps.size = 25 := by rw [ha]; simp [Try.ntmps115]
  have t0 : a.eval (.tmp 0) = .pointer (some ⟨b, 0, none⟩) := by rw [ha]; simp [Act.eval]
  have t1 : a.eval (.tmp 1) = u8V k := by rw [ha]; simp [Act.eval]
  have t2 : a.eval (.tmp 2) = .int .i64 (n : Int) := by rw [ha]; simp [Act.eval]
  have hd_a : a.defers = [] := by rw [ha]
  rw [← ha]
  clear ha
  unfold code115
  refine wpIn_seq (region_p 2 ?_)
  intro K hK
  refine ListK.assign (i := 0) (v := .int .i64 0) rfl (by simp) ?_
  refine ListK.assign (i := 1) (v := .bool false) rfl (by simp) ?_
  refine ListK.done (hK _ _ ?_)
  clear hK K
  generalize hA : Act.put _ _ _ = a1
  have hz_a1 : a1.tmps.size = 25 := by rw [← hA]; simp only [size_put, hsz]
  have u0 : a1.eval (.tmp 0) = .pointer (some ⟨b, 0, none⟩) := by rw [← hA]; exact (by simp [t0])
  have u1 : a1.eval (.tmp 1) = u8V k := by rw [← hA]; exact (by simp [t1])
  have u2 : a1.eval (.tmp 2) = .int .i64 (n : Int) := by rw [← hA]; exact (by simp [t2])
  have hd_a1 : a1.defers = [] := by rw [← hA]; simp only [defers_put, hd_a]
  clear hA
  obtain ⟨vl, hvl⟩ : ∃ vl, vl = (find m (k, n)).map (fun r => recC r) := ⟨_, rfl⟩
  have hlook := ar.map.look2 kl97 (k, n) zv83
  rw [getK_rec] at hlook
  have hlook2 : (Instr.lookup 93 (.map (some M)) (nameV (k, n)) true).run Try.prog W = .ok (.tuple #[.agg (vl.getD z7), .bool (find m (k, n)).isSome]) W := by
    rw [hlook, hvl]
    cases find m (k, n) <;> rfl
  have hv7 : ∃ c0 c1 c2 c3 c4 c5 c6, vl.getD z7 = r7 c0 c1 c2 c3 c4 c5 c6 ∧ ∀ r, find m (k, n) = some r → r = [c0, c1, c2, c3, c4, c5, c6] := by
    cases hf : find m (k, n) with
    | none => exact ⟨0, 0, 0, 0, 0, 0, 0, by rw [hvl, hf]; rfl, fun r e => by cases e⟩
    | some r =>
      obtain ⟨c0, c1, c2, c3, c4, c5, c6, rfl⟩ := len7 (ar.seven r (find_mem hf).1)
      exact ⟨c0, c1, c2, c3, c4, c5, c6, by rw [hvl, hf]; rfl, fun r e => by cases e; rfl⟩
  obtain ⟨c0, c1, c2, c3, c4, c5, c6, hv, hc⟩ := hv7
  rw [hv] at hlook2
  refine wpIn_seq (region_p 14 ?_)
  intro K hK
  refine ListK.move (i := 0) (v := .pointer (some ⟨b, 0, none⟩)) rfl (by simp [u0]) ?_
  refine ListK.nilCheck (i := 1) (p := ⟨b, 0, none⟩) rfl (by simp [hz_a1]) ?_
  refine ListK.field (i := 2) (u := .pointer (some ⟨b, 0, none⟩)) (v := .pointer (some ⟨b, 3, none⟩)) rfl (by simp [hz_a1]) (fa95_1 _) ?_
  refine ListK.load (i := 3) (p := ⟨b, 3, none⟩) (v := .map (some M)) rfl (by simp [hz_a1]) (ld93m (wb.cell 3)) ?_
  refine ListK.move (i := 4) (v := u8V k) rfl (by simp [u1]) ?_
  refine ListK.move (i := 5) (v := .int .i64 (n : Int)) rfl (by simp [u2]) ?_
  refine ListK.bld (i := 6) (ps := #[(0, u8V k), (1, .int .i64 (n : Int))]) (v := nameV (k, n)) rfl (by simp [hz_a1]) (bd97 _ _ _) ?_
  refine ListK.look2 (i := 7) (u := .map (some M)) (u' := nameV (k, n)) rfl (by simp [hz_a1]) (by simp [hz_a1]) hlook2 ?_
  refine ListK.move (i := 8) (v := .tuple #[rV c0 c1 c2 c3 c4 c5 c6, .bool (find m (k, n)).isSome]) rfl (by simp [hz_a1]) ?_
  refine ListK.extract (i := 9) (u := .tuple #[rV c0 c1 c2 c3 c4 c5 c6, .bool (find m (k, n)).isSome]) (v := (rV c0 c1 c2 c3 c4 c5 c6)) rfl (by simp [hz_a1]) (ex0 _ _ _) ?_
  refine ListK.extract (i := 10) (u := .tuple #[rV c0 c1 c2 c3 c4 c5 c6, .bool (find m (k, n)).isSome]) (v := .bool (find m (k, n)).isSome) rfl (by simp [hz_a1]) (ex1 _ _ _) ?_
  refine ListK.alloc (i := 11) rfl (al83 _) ?_
  refine ListK.store (i := 12) (u := .pointer (some ⟨W.heap.size, 0, none⟩)) (u' := (rV c0 c1 c2 c3 c4 c5 c6)) rfl (by simp [hz_a1]) (by simp [hz_a1]) (st83 (Whole.new W 83 z7)) ?_
  refine ListK.assign (i := 13) (v := .bool (find m (k, n)).isSome) rfl (by simp [hz_a1]) ?_
  refine ListK.done (hK _ _ ?_)
  clear hK K
  have wg := put7_whole (Whole.new W 83 z7) (u8V c0) (u8V c1) (u8V c2) (u8V c3) (u8V c4) (u8V c5) (u8V c6)
  have hB1 : Below W.heap.size W (W.alloc (.cells z7 83)) := (Below.refl _ W).alloc (Nat.le_refl _) _
  have hB2 := hB1.trans ((put7_else (w := W.alloc (.cells z7 83)) (b := W.heap.size) (u8V c0) (u8V c1) (u8V c2) (u8V c3) (u8V c4) (u8V c5) (u8V c6)).below (B := W.heap.size) (by simp) (fun k hk e => by omega))
  generalize put7 (W.alloc (.cells z7 83)) W.heap.size (u8V c0) (u8V c1) (u8V c2) (u8V c3) (u8V c4) (u8V c5) (u8V c6) = W2 at *
  generalize hA : Act.put _ _ _ = a2
  have hz_a2 : a2.tmps.size = 25 := by rw [← hA]; simp only [size_put, hz_a1]
  have v8 : a2.eval (.tmp 8) = .pointer (some ⟨W.heap.size, 0, none⟩) := by rw [← hA]; exact (by simp [hz_a1])
  have v9 : a2.eval (.tmp 9) = .bool (find m (k, n)).isSome := by rw [← hA]; exact (by simp [hz_a1])
  have hd_a2 : a2.defers = [] := by rw [← hA]; simp only [defers_put, hd_a1]
  clear hA
  cases hf : find m (k, n) with
  | none =>
    rw [hf] at v9 hb1
    refine wpIn_seq (wpIn_seq (region_p 2 ?_))
    intro K hK
    refine ListK.move (i := 0) (v := .bool false) rfl (by simp [v9]) ?_
    refine ListK.un (i := 1) (u := .bool false) (v := .bool true) rfl (by simp [hz_a2]) (not4 _ _) ?_
    refine ListK.done (hK _ _ ?_)
    clear hK K
    refine wpIn_cond (t := true) (by simp [hz_a2]) ?_
    refine wpIn_seq (region_p 2 ?_)
    intro K hK
    refine ListK.assign (i := 0) (v := .int .i64 0) rfl (by simp) ?_
    refine ListK.assign (i := 1) (v := .bool false) rfl (by simp) ?_
    refine ListK.done (hK _ _ (wpIn_ret ?_))
    refine bodyPost_ret (v := optV (told m k n)) ?_ (by simp only [defers_put, hd_a2]) ⟨rfl, hB2⟩
    rw [hb1]
    exact res2n Try.results115 (by simp [hz_a2]) (by simp [hz_a2])
  | some r =>
    rw [hf] at v9 hb1
    have hcr := hc r hf
    subst hcr
    refine wpIn_seq (wpIn_seq (region_p 2 ?_))
    intro K hK
    refine ListK.move (i := 0) (v := .bool true) rfl (by simp [v9]) ?_
    refine ListK.un (i := 1) (u := .bool true) (v := .bool false) rfl (by simp [hz_a2]) (not4 _ _) ?_
    refine ListK.done (hK _ _ ?_)
    clear hK K
    refine wpIn_cond (t := false) (by simp [hz_a2]) (wpIn_skip ?_)
    refine wpIn_seq (region_p 4 ?_)
    intro K hK
    refine ListK.load (i := 0) (p := ⟨W.heap.size, 0, none⟩) (v := (rV c0 c1 c2 c3 c4 c5 c6)) rfl (by simp [v8]) (ld83 wg) ?_
    refine ListK.call (i := 1) (vs := #[(rV c0 c1 c2 c3 c4 c5 c6), .int .i64 3]) rfl (enters_of Try.func59 (by kernel_rfl) rfl) (by simp [hz_a2]) ((number3 c0 c1 c2 c3 c4 c5 c6 W2).mono ?_)
    rintro _ W3 ⟨rfl, hb3⟩
    refine ⟨_, rfl, ?_⟩
    refine ListK.assign (i := 2) (v := .int .i64 (num2 c3 c4 : Int)) rfl (by simp [hz_a2]) ?_
    refine ListK.assign (i := 3) (v := .bool true) rfl (by simp) ?_
    refine ListK.done (hK _ _ (wpIn_ret ?_))
    refine bodyPost_ret (v := optV (told m k n)) ?_ (by simp only [defers_put, hd_a2]) ⟨rfl, hB2.trans (hb3.mono (by have := hB2.size; omega))⟩
    rw [hb1]
    exact res2n (x := .int .i64 (num2 c3 c4 : Int)) Try.results115 (by simp [hz_a2]) (by simp [hz_a2])
end Go.Proofs.YtmdlmmfbcnkanaaR
namespace Go.Proofs.YtmdlmmfbcnkanaaR
open Go.RowKit Go.Shelf
theorem max3c (m n : Int) (ty : TypeId) (w : World) : (builtin .max #[3, 3] ty #[true, false] #[.int .i64 m, .int .i64 n]).run Try.prog w = .ok (.value (.int .i64 (max m n))) w := by
  go_simp
  split <;> omega
/-- What a head's numbers are. -/
structure HeadB (h : Head) : Prop where
  many : 1 ≤ h.many ∧ h.many ≤ 40
  width : 2 ≤ h.width ∧ h.width ≤ 8
  step : 1 ≤ h.step ∧ h.step ≤ 9
noncomputable def opsRg0 : Array Oper := (Try.f99.body.bind (regionOf 0)).getD #[]
noncomputable def opsRg1 : Array Oper := (Try.f99.body.bind (regionOf 1)).getD #[]
noncomputable def opsRg2 : Array Oper := (Try.f99.body.bind (regionOf 2)).getD #[]
noncomputable def opsRg3 : Array Oper := (Try.f99.body.bind (regionOf 3)).getD #[]
noncomputable def code99 : Code := (.seq (.region 0 opsRg0 false) (.seq (.seq (.region 1 opsRg1 false) (.cond (.tmp 8) (.seq (.region 2 opsRg2 false) .ret) .skip)) (.seq (.region 3 opsRg3 true) .ret)))
theorem body99 : Try.f99.body = some code99 := by kernel_rfl
section
attribute [local irreducible] AnyK StepK
set_option maxHeartbeats 400000 in
theorem readings_any {b M : Nat} {h : Head} {m : List (List UInt8)} (k r s : Nat) (W : World) (ar : ArchAt W b M h m) (hh : HeadB h) (hr : r ≤ 99) (hk : k ≤ 40) :
    Calls Try.prog 99 #[.pointer (some ⟨b, 0, none⟩), stepV (stK k r s)] W (EvP W (.tuple #[.int .i64 (lowR h k r : Int), .int .i64 (highR h k r : Int)])) := by
  have hs := hh.step
  refine (callsIn_wide (n := 5)).1 (callsIn_of_wp Try.func99 body99 trivial ?_ rfl)
  obtain ⟨a, ha⟩ : ∃ a : Act, a = { tmps := #[.pointer (some ⟨b, 0, none⟩), stepV (stK k r s)] ++ Array.replicate (Try.f99.ntmps - (#[.pointer (some ⟨b, 0, none⟩), stepV (stK k r s)] : Array Value).size) undef, defers := [] } := ⟨_, rfl⟩
  have hsz : a.tmps.size = 28 := by rw [ha]; simp [Try.ntmps99]
  have t0 : a.eval (.tmp 0) = .pointer (some ⟨b, 0, none⟩) := by rw [ha]; simp [Act.eval]
  have t1 : a.eval (.tmp 1) = stepV (stK k r s) := by rw [ha]; simp [Act.eval]
  have hd_a : a.defers = [] := by rw [ha]
  rw [← ha]
  clear ha
  unfold code99
  refine wpIn_seq (region_p 3 ?_)
  intro K hK
  refine ListK.box (i := 0) (u := stepV (stK k r s)) rfl (by simp [t1]) (bx140 W _ _ _) ?_
  refine ListK.assign (i := 1) (v := .int .i64 0) rfl (by simp) ?_
  refine ListK.assign (i := 2) (v := .int .i64 0) rfl (by simp) ?_
  refine ListK.done (hK _ _ ?_)
  clear hK K
  have wc := Whole.new W 140 #[.int .i64 ((k : Int) - 1), .int .i64 (r : Int), .int .i64 (s : Int)]
  have wa := ar.whole
  have hB1 : Below W.heap.size W (W.alloc (.cells #[.int .i64 ((k : Int) - 1), .int .i64 (r : Int), .int .i64 (s : Int)] 140)) := (Below.refl _ W).alloc (Nat.le_refl _) _
  replace wa := wa.below hB1 wa.lt
  simp only [stK]
  generalize hb3 : W.heap.size = b3 at *
  generalize W.alloc (.cells #[.int .i64 ((k : Int) - 1), .int .i64 (r : Int), .int .i64 (s : Int)] 140) = W1 at *
  generalize hA : Act.put _ _ _ = a1
  have hz_a1 : a1.tmps.size = 28 := by rw [← hA]; simp only [size_put, hsz]
  have u0 : a1.eval (.tmp 0) = .pointer (some ⟨b, 0, none⟩) := by rw [← hA]; exact (by simp [t0])
  have u3 : a1.eval (.tmp 3) = .pointer (some ⟨b3, 0, none⟩) := by rw [← hA]; exact (by simp [hsz])
  have hd_a1 : a1.defers = [] := by rw [← hA]; simp only [defers_put, hd_a]
  clear hA
  by_cases hk0 : k = 0
  · have hd : decide (((k : Int) - 1) < 0) = true := by simp; omega
    have el : lowR h k r = 0 := by simp only [lowR, hk0, if_true]
    have eh : highR h k r = 99 := by simp only [highR, hk0, if_true]
    refine wpIn_seq (wpIn_seq (region_p 3 ?_))
    intro K hK
    refine ListK.field (i := 0) (u := .pointer (some ⟨b3, 0, none⟩)) (v := .pointer (some ⟨b3, 0, none⟩)) rfl (by simp [u3]) (fa140_0 _) ?_
    refine ListK.load (i := 1) (p := ⟨b3, 0, none⟩) (v := .int .i64 ((k : Int) - 1)) rfl (by simp [hz_a1]) (ld3 (wc.cell 0)) ?_
    refine ListK.bin (i := 2) (u := .int .i64 ((k : Int) - 1)) (u' := .int .i64 0) (v := .bool (decide (((k : Int) - 1) < 0))) rfl (by simp [hz_a1]) (by simp) (lss3 _) ?_
    refine ListK.done (hK _ _ ?_)
    clear hK K
    rw [hd]
    refine wpIn_cond (t := true) (by simp [hz_a1]) ?_
    refine wpIn_seq (region_p 2 ?_)
    intro K hK
    refine ListK.assign (i := 0) (v := .int .i64 0) rfl (by simp) ?_
    refine ListK.assign (i := 1) (v := .int .i64 99) rfl (by simp) ?_
    refine ListK.done (hK _ _ (wpIn_ret ?_))
    refine bodyPost_ret (v := _) (res2n (x := .int .i64 (0 : Int)) (y := .int .i64 (99 : Int)) Try.results99 (by simp [hz_a1]) (by simp [hz_a1])) (by simp only [defers_put, hd_a1]) ⟨by rw [el, eh]; rfl, ?_⟩
    rw [hb3]
    exact hB1
  · have hd : decide (((k : Int) - 1) < 0) = false := by simp; omega
    refine wpIn_seq (wpIn_seq (region_p 3 ?_))
    intro K hK
    refine ListK.field (i := 0) (u := .pointer (some ⟨b3, 0, none⟩)) (v := .pointer (some ⟨b3, 0, none⟩)) rfl (by simp [u3]) (fa140_0 _) ?_
    refine ListK.load (i := 1) (p := ⟨b3, 0, none⟩) (v := .int .i64 ((k : Int) - 1)) rfl (by simp [hz_a1]) (ld3 (wc.cell 0)) ?_
    refine ListK.bin (i := 2) (u := .int .i64 ((k : Int) - 1)) (u' := .int .i64 0) (v := .bool (decide (((k : Int) - 1) < 0))) rfl (by simp [hz_a1]) (by simp) (lss3 _) ?_
    refine ListK.done (hK _ _ ?_)
    clear hK K
    rw [hd]
    refine wpIn_cond (t := false) (by simp [hz_a1]) (wpIn_skip ?_)
    generalize hA : Act.put _ _ _ = a2
    have hz_a2 : a2.tmps.size = 28 := by rw [← hA]; simp only [size_put, hz_a1]
    have v0 : a2.eval (.tmp 0) = .pointer (some ⟨b, 0, none⟩) := by rw [← hA]; exact (by simp [u0])
    have v3 : a2.eval (.tmp 3) = .pointer (some ⟨b3, 0, none⟩) := by rw [← hA]; exact (by simp [u3])
    have hd_a2 : a2.defers = [] := by rw [← hA]; simp only [defers_put, hd_a1]
    clear hA
    have el : ((lowR h k r : Nat) : Int) = max 0 ((r : Int) - (h.step : Int)) := by simp only [lowR, hk0, if_false]; omega
    have eh : ((highR h k r : Nat) : Int) = min 99 ((r : Int) + (h.step : Int)) := by simp only [highR, hk0, if_false]; omega
    refine wpIn_seq (region_K (KpR (fun w : World => Whole w b3 140 #[.int .i64 ((k : Int) - 1), .int .i64 (r : Int), .int .i64 (s : Int)] ∧ Whole w b 95 #[.int .i64 (h.many : Int), .int .i64 (h.width : Int), .int .i64 (h.step : Int), .map (some M)]) (fun _ => false)) (wideF_plain _) (by kernel_rfl) Try.mixed ?_)
    change AnyK _ _ _ _ 21 (Array.replicate 21 false) _ _
    have hR : (fun w : World => Whole w b3 140 #[.int .i64 ((k : Int) - 1), .int .i64 (r : Int), .int .i64 (s : Int)] ∧ Whole w b 95 #[.int .i64 (h.many : Int), .int .i64 (h.width : Int), .int .i64 (h.step : Int), .map (some M)]) W1.drew := ⟨wc.below ((Below.refl W1.heap.size W1).drew) wc.lt, wa.below ((Below.refl W1.heap.size W1).drew) wa.lt⟩
    refine AnyK.field (i := 0) may_o (u := .pointer (some ⟨b3, 0, none⟩)) (v := .pointer (some ⟨b3, 1, none⟩)) (by simp [v3]) (fun w => fa140_1 w) hR ?_
    refine AnyK.load (i := 1) may_o (p := ⟨b3, 1, none⟩) (v := .int .i64 (r : Int)) (by simp [hz_a2]) (fun w hw => ld3 (hw.1.cell 1)) hR ?_
    refine AnyK.move (i := 2) may_o (v := .pointer (some ⟨b, 0, none⟩)) (by simp [v0]) hR ?_
    refine AnyK.nilCheck (i := 3) may_o (p := ⟨b, 0, none⟩) (by simp [hz_a2]) hR ?_
    refine AnyK.field (i := 4) may_o (u := .pointer (some ⟨b, 0, none⟩)) (v := .pointer (some ⟨b, 0, none⟩)) (by simp [hz_a2]) (fun w => fa95_0 w) hR ?_
    refine AnyK.field (i := 5) may_o (u := .pointer (some ⟨b, 0, none⟩)) (v := .pointer (some ⟨b, 2, none⟩)) (by simp [hz_a2]) (fun w => fa77_2 w) hR ?_
    refine AnyK.load (i := 6) may_o (p := ⟨b, 2, none⟩) (v := .int .i64 (h.step : Int)) (by simp [hz_a2]) (fun w hw => ld3 (hw.2.cell 2)) hR ?_
    refine AnyK.bin (i := 7) may_o (u := .int .i64 (r : Int)) (u' := .int .i64 (h.step : Int)) (v := .int .i64 ((r : Int) - (h.step : Int))) (by simp [hz_a2]) (by simp [hz_a2]) (sub3 (by omega) (by omega)) hR ?_
    refine AnyK.bi2 (i := 8) may_o (u := .int .i64 ((r : Int) - (h.step : Int))) (v := .int .i64 (max 0 ((r : Int) - (h.step : Int)))) (by simp [hz_a2]) (max3c _ _ _) hR ?_
    refine AnyK.field (i := 9) may_o (u := .pointer (some ⟨b3, 0, none⟩)) (v := .pointer (some ⟨b3, 1, none⟩)) (by simp [v3]) (fun w => fa140_1 w) hR ?_
    refine AnyK.load (i := 10) may_o (p := ⟨b3, 1, none⟩) (v := .int .i64 (r : Int)) (by simp [hz_a2]) (fun w hw => ld3 (hw.1.cell 1)) hR ?_
    refine AnyK.move (i := 11) may_o (v := .pointer (some ⟨b, 0, none⟩)) (by simp [v0]) hR ?_
    refine AnyK.nilCheck (i := 12) may_o (p := ⟨b, 0, none⟩) (by simp [hz_a2]) hR ?_
    refine AnyK.field (i := 13) may_o (u := .pointer (some ⟨b, 0, none⟩)) (v := .pointer (some ⟨b, 0, none⟩)) (by simp [hz_a2]) (fun w => fa95_0 w) hR ?_
    refine AnyK.field (i := 14) may_o (u := .pointer (some ⟨b, 0, none⟩)) (v := .pointer (some ⟨b, 2, none⟩)) (by simp [hz_a2]) (fun w => fa77_2 w) hR ?_
    refine AnyK.load (i := 15) may_o (p := ⟨b, 2, none⟩) (v := .int .i64 (h.step : Int)) (by simp [hz_a2]) (fun w hw => ld3 (hw.2.cell 2)) hR ?_
    refine AnyK.bin (i := 16) may_o (u := .int .i64 (r : Int)) (u' := .int .i64 (h.step : Int)) (v := .int .i64 ((r : Int) + (h.step : Int))) (by simp [hz_a2]) (by simp [hz_a2]) (add3 (by omega) (by omega)) hR ?_
    refine AnyK.pick1 (i := 17) (by kernel_rfl) ?_
    have hb17 : Below W1.heap.size W1 (W1.drew.alloc (.cells #[.int .i64 99, .int .i64 ((r : Int) + (h.step : Int))] 3)) := (Below.refl W1.heap.size W1).drew.alloc (Nat.le_refl _) _
    replace hR : (fun w : World => Whole w b3 140 #[.int .i64 ((k : Int) - 1), .int .i64 (r : Int), .int .i64 (s : Int)] ∧ Whole w b 95 #[.int .i64 (h.many : Int), .int .i64 (h.width : Int), .int .i64 (h.step : Int), .map (some M)]) (W1.drew.alloc (.cells #[.int .i64 99, .int .i64 ((r : Int) + (h.step : Int))] 3)) := ⟨wc.below hb17 wc.lt, wa.below hb17 wa.lt⟩
    refine StepK.buildG (i := 17) (ps := #[(0, .int .i64 99), (1, .int .i64 ((r : Int) + (h.step : Int)))]) (v := .slice (some ⟨W1.heap.size, 0, none⟩) 2 2) rfl (by simp [hz_a2]) (bs22_2 _ _ W1.drew) (fun _ _ => hR) ?_
    refine AnyK.pick1 (i := 18) (by kernel_rfl) ?_
    refine StepK.call (i := 18) (f := 80) (vs := #[.slice (some ⟨W1.heap.size, 0, none⟩) 2 2]) rfl (enters_of Try.func80 (by kernel_rfl) rfl) rfl (by simp [hz_a2]) ((least_two W1.heap.size 0 2 99 ((r : Int) + (h.step : Int)) _ (cell_new2 W1.drew _ _ 3).1 (cell_new2 W1.drew _ _ 3).2).mono ?_)
    rintro _ _ ⟨rfl, rfl⟩
    refine ⟨_, rfl, fun _ _ => hR, ?_⟩
    refine AnyK.assign (i := 19) may_o (v := .int .i64 (max 0 ((r : Int) - (h.step : Int)))) (by simp [hz_a2]) hR ?_
    refine AnyK.assign (i := 20) may_o (v := .int .i64 (min 99 ((r : Int) + (h.step : Int)))) (by simp [hz_a2]) hR ?_
    refine AnyK.done (by kernel_rfl) ?_
    refine wpIn_ret ?_
    refine bodyPost_ret (v := _) (res2n (x := .int .i64 (max 0 ((r : Int) - (h.step : Int)))) (y := .int .i64 (min 99 ((r : Int) + (h.step : Int)))) Try.results99 (by simp [hz_a2]) (by simp [hz_a2])) (by simp only [defers_put, hd_a2]) ⟨by rw [el, eh], ?_⟩
    rw [hb3]
    exact hB1.trans (hb17.mono (by have := hB1.size; omega))
end
end Go.Proofs.YtmdlmmfbcnkanaaR
namespace Go.Proofs.YtmdlmmfbcnkanaaR
open Go.RowKit Go.Shelf
theorem add3e {x y : Operand} {m n r : Int} (hr : m + n = r) (h0 : -100000 ≤ r) (h1 : r ≤ 10000000) (w : World) : (do eqGuard .add 3 x y (.int .i64 m) (.int .i64 n); binOp .add 3 (.int .i64 m) (.int .i64 n) : Sem Value).run Try.prog w = .ok (.int .i64 r) w := by
  rw [← hr]
  exact add3 (by omega) (by omega) w
theorem closesB_head (h : Head) (hh : HeadB h) (n : Nat) : closesB (h.many : Int) (h.width : Int) (n : Int) = h.closes n := by
  have h1 := hh.many
  have h2 := hh.width
  have e : ((n : Int) % (h.width : Int)) = ((n % h.width : Nat) : Int) := rfl
  unfold closesB Head.closes
  rw [e]
  generalize n % h.width = q
  have e1 : ((n : Int) == (h.many : Int) - 1) = (n + 1 == h.many) := by
    rw [Bool.eq_iff_iff, beq_iff_eq, beq_iff_eq]
    omega
  have e2 : ((q : Int) == (h.width : Int) - 1) = (q == h.width - 1) := by
    rw [Bool.eq_iff_iff, beq_iff_eq, beq_iff_eq]
    omega
  rw [e1, e2]
theorem after_eq {h : Head} {m : List (List UInt8)} {k s n s' : Nat} (he : s' = if k % h.width = 0 then n else (s + n) % 100) :
    after h m k s n = if (told m 82 k).all (· == n) && (!h.closes k || (told m 80 (k / h.width)).all (· == s')) then some s' else none := by
  subst he
  unfold after
  cases told m 82 k <;> cases told m 80 (k / h.width) <;> rfl
theorem res140 {fn : Func} {k b j : Nat} {W : World} {a : Act} {x y z u : Value} (h : fn.results = #[.cell k 140, .tmp j]) (he : a.eval (.tmp k) = .pointer (some ⟨b, 0, none⟩)) (hj : a.eval (.tmp j) = u) (hw : Whole W b 140 #[x, y, z]) :
    (results fn a.tmps).run Try.prog W = .ok (.tuple #[.agg #[x, y, z], u]) W := by
  have he' : a.tmps[k]?.getD undef = .pointer (some ⟨b, 0, none⟩) := by simpa [Act.eval] using he
  have hj' : a.tmps[j]?.getD undef = u := by simpa [Act.eval] using hj
  have h0 : W.cell? ⟨b, 0, none⟩ = some x := hw.cell 0
  have h1 : W.cell? ⟨b, 1, none⟩ = some y := hw.cell 1
  have h2 : W.cell? ⟨b, 2, none⟩ = some z := hw.cell 2
  simp only [results, h]
  simp [he', hj']
  go_simp
/-- What after hands back. -/
def afterV (h : Head) (m : List (List UInt8)) (k s n : Nat) : Value := match after h m k s n with
  | some s' => .tuple #[stepV (stK (k + 1) n s'), .bool true]
  | none => .tuple #[stepV (0, 0, 0), .bool false]
noncomputable def opsAf0 : Array Oper := (Try.f100.body.bind (regionOf 0)).getD #[]
noncomputable def opsAf1 : Array Oper := (Try.f100.body.bind (regionOf 1)).getD #[]
noncomputable def opsAf2 : Array Oper := (Try.f100.body.bind (regionOf 2)).getD #[]
noncomputable def opsAf3 : Array Oper := (Try.f100.body.bind (regionOf 3)).getD #[]
noncomputable def opsAf4 : Array Oper := (Try.f100.body.bind (regionOf 4)).getD #[]
noncomputable def opsAf5 : Array Oper := (Try.f100.body.bind (regionOf 5)).getD #[]
noncomputable def opsAf6 : Array Oper := (Try.f100.body.bind (regionOf 6)).getD #[]
noncomputable def opsAf7 : Array Oper := (Try.f100.body.bind (regionOf 7)).getD #[]
noncomputable def opsAf8 : Array Oper := (Try.f100.body.bind (regionOf 8)).getD #[]
noncomputable def opsAf9 : Array Oper := (Try.f100.body.bind (regionOf 9)).getD #[]
noncomputable def opsAf10 : Array Oper := (Try.f100.body.bind (regionOf 10)).getD #[]
noncomputable def opsAf11 : Array Oper := (Try.f100.body.bind (regionOf 11)).getD #[]
noncomputable def af_c : Code := (.seq (.seq (.region 7 opsAf7 true) (.cond (.tmp 54) (.seq (.region 8 opsAf8 true) (.seq (.region 9 opsAf9 false) (.cond (.tmp 74) (.seq (.region 10 opsAf10 false) .ret) .skip))) .skip)) (.seq (.region 11 opsAf11 false) .ret))
noncomputable def af_b : Code := (.seq (.seq (.region 4 opsAf4 false) (.seq (.region 5 opsAf5 false) (.cond (.tmp 46) (.seq (.region 6 opsAf6 false) .ret) .skip))) af_c)
noncomputable def code100 : Code := (.seq (.region 0 opsAf0 false) (.seq (.region 1 opsAf1 false) (.seq (.seq (.region 2 opsAf2 true) (.cond (.tmp 27) (.region 3 opsAf3 false) .skip)) af_b)))
theorem body100 : Try.f100.body = some code100 := by kernel_rfl
section
attribute [local irreducible] AnyK StepK
set_option maxHeartbeats 400000 in
theorem af_c_any {b M : Nat} {h : Head} {m : List (List UInt8)} {k s n s' b6 b8 : Nat} {W W1 : World} {a1 : Act} (ar : ArchAt W1 b M h m) (hh : HeadB h) (hk : k < h.many) (hn : n ≤ 99) (hs' : s' ≤ 99)
    (he : s' = if k % h.width = 0 then n else (s + n) % 100) (h82 : (told m 82 k).all (· == n) = true) (hz_a1 : a1.tmps.size = 77) (hd_a1 : a1.defers = []) (u0 : a1.eval (.tmp 0) = .pointer (some ⟨b, 0, none⟩)) (u6 : a1.eval (.tmp 6) = .pointer (some ⟨b6, 0, none⟩)) (u8 : a1.eval (.tmp 8) = .pointer (some ⟨b8, 0, none⟩))
    (w6 : Whole W1 b6 140 #[.int .i64 0, .int .i64 0, .int .i64 0]) (w8 : Whole W1 b8 140 #[.int .i64 (k : Int), .int .i64 (n : Int), .int .i64 (s' : Int)]) (hn6 : b6 ≠ b8) (h6 : W.heap.size ≤ b6) (hB : Below W.heap.size W W1) :
    af_c.wpIn Fence.wide 5 Try.prog (bodyPost Try.prog Try.f100 (EvP W (afterV h m k s n))) a1 W1 := by
  have hm := hh.many
  have hw := hh.width
  have hst := hh.step
  have hcl := closesB_head h hh k
  have hfin : ∀ (a : Act) (w : World), a.defers = [] → a.eval (.tmp 6) = .pointer (some ⟨b6, 0, none⟩) → a.eval (.tmp 7) = .bool (after h m k s n).isSome → Whole w b6 140 #[.int .i64 ((if (after h m k s n).isSome then (k : Int) else 0)), .int .i64 (if (after h m k s n).isSome then (n : Int) else 0), .int .i64 (if (after h m k s n).isSome then (s' : Int) else 0)] → Below W.heap.size W w → (∀ x, after h m k s n = some x → x = s') →
      bodyPost Try.prog Try.f100 (EvP W (afterV h m k s n)) .ret a w := by
    intro a w hd h1 h2 h3 h4 h5
    refine bodyPost_ret (v := afterV h m k s n) ?_ hd ⟨rfl, h4⟩
    rw [res140 Try.results100 h1 h2 h3]
    unfold afterV
    cases hx : after h m k s n with
    | none => simp
    | some x =>
      have := h5 x hx
      subst this
      simp [stK]
  have haf : after h m k s n = if (!h.closes k || (told m 80 (k / h.width)).all (· == s')) then some s' else none := by
    rw [after_eq he, h82, Bool.true_and]
  unfold af_c
  have wa := ar.whole
  refine wpIn_seq (wpIn_seq ?_)
  refine region_K (KpR (fun w : World => Whole w b 95 #[.int .i64 (h.many : Int), .int .i64 (h.width : Int), .int .i64 (h.step : Int), .map (some M)] ∧ Whole w b8 140 #[.int .i64 (k : Int), .int .i64 (n : Int), .int .i64 (s' : Int)]) (fun _ => false)) (wideF_plain _) (by kernel_rfl) Try.mixed ?_
  change AnyK _ _ _ _ 7 (Array.replicate 7 false) _ _
  have hR : (fun w : World => Whole w b 95 #[.int .i64 (h.many : Int), .int .i64 (h.width : Int), .int .i64 (h.step : Int), .map (some M)] ∧ Whole w b8 140 #[.int .i64 (k : Int), .int .i64 (n : Int), .int .i64 (s' : Int)]) W1.drew := ⟨wa.below ((Below.refl W1.heap.size W1).drew) wa.lt, w8.below ((Below.refl W1.heap.size W1).drew) w8.lt⟩
  refine AnyK.move (i := 0) may_o (v := .pointer (some ⟨b, 0, none⟩)) (by simp [u0]) hR ?_
  refine AnyK.nilCheck (i := 1) may_o (p := ⟨b, 0, none⟩) (by simp [hz_a1]) hR ?_
  refine AnyK.field (i := 2) may_o (u := .pointer (some ⟨b, 0, none⟩)) (v := .pointer (some ⟨b, 0, none⟩)) (by simp [hz_a1]) (fun w => fa95_0 w) hR ?_
  refine AnyK.load (i := 3) may_o (p := ⟨b, 0, none⟩) (v := (headV (h.many : Int) (h.width : Int) (h.step : Int))) (by simp [hz_a1]) (fun w hw => ld77 ⟨hw.1.cell 0, hw.1.cell 1, hw.1.cell 2⟩) hR ?_
  refine AnyK.field (i := 4) may_o (u := .pointer (some ⟨b8, 0, none⟩)) (v := .pointer (some ⟨b8, 0, none⟩)) (by simp [u8]) (fun w => fa140_0 w) hR ?_
  refine AnyK.load (i := 5) may_o (p := ⟨b8, 0, none⟩) (v := .int .i64 (k : Int)) (by simp [hz_a1]) (fun w hw => ld3 (hw.2.cell 0)) hR ?_
  refine AnyK.pick1 (i := 6) (by kernel_rfl) ?_
  refine StepK.call (i := 6) (f := 51) (vs := #[(headV (h.many : Int) (h.width : Int) (h.step : Int)), .int .i64 (k : Int)]) rfl (enters_of Try.func51 (by kernel_rfl) rfl) rfl (by simp [hz_a1]) ((closes_any (h.many : Int) (h.width : Int) (h.step : Int) (k : Int) W1.drew (by omega) (by omega) (by omega) (by omega) (by omega) (by omega)).mono ?_)
  rintro _ W2 ⟨rfl, hb2⟩
  have hbd := (Below.refl W1.heap.size W1).drew.trans hb2
  have ar2 := ar.below hbd
  have w62 := w6.below hbd w6.lt
  have w82 := w8.below hbd w8.lt
  have hB2 := hB.trans (hbd.mono hB.size)
  rw [hcl]
  replace hR : (fun w : World => Whole w b 95 #[.int .i64 (h.many : Int), .int .i64 (h.width : Int), .int .i64 (h.step : Int), .map (some M)] ∧ Whole w b8 140 #[.int .i64 (k : Int), .int .i64 (n : Int), .int .i64 (s' : Int)]) W2 := ⟨ar2.whole, w82⟩
  refine ⟨_, rfl, fun _ _ => hR, ?_⟩
  refine AnyK.done (by kernel_rfl) ?_
  generalize hA : Act.put _ _ _ = a2
  have hz_a2 : a2.tmps.size = 77 := by rw [← hA]; simp only [size_put, hz_a1]
  have v0 : a2.eval (.tmp 0) = .pointer (some ⟨b, 0, none⟩) := by rw [← hA]; exact (by simp [u0])
  have v6 : a2.eval (.tmp 6) = .pointer (some ⟨b6, 0, none⟩) := by rw [← hA]; exact (by simp [u6])
  have v8 : a2.eval (.tmp 8) = .pointer (some ⟨b8, 0, none⟩) := by rw [← hA]; exact (by simp [u8])
  have v54 : a2.eval (.tmp 54) = .bool (h.closes k) := by rw [← hA]; exact (by simp [hz_a1])
  have hd_a2 : a2.defers = [] := by rw [← hA]; simp only [defers_put, hd_a1]
  clear hA
  cases hcl2 : h.closes k with
  | false =>
    rw [hcl2] at v54 haf
    have hs2 : after h m k s n = some s' := by rw [haf]; rfl
    refine wpIn_cond (t := false) v54 (wpIn_skip ?_)
    refine wpIn_seq (region_p 3 ?_)
    intro K hK
    refine ListK.load (i := 0) (p := ⟨b8, 0, none⟩) (v := stepV ((k : Int), (n : Int), (s' : Int))) rfl (by simp [v8]) (ld140 ⟨w82.cell 0, w82.cell 1, w82.cell 2⟩) ?_
    refine ListK.store (i := 1) (u := .pointer (some ⟨b6, 0, none⟩)) (u' := stepV ((k : Int), (n : Int), (s' : Int))) rfl (by simp [v6]) (by simp [hz_a2]) (st140 w62) ?_
    refine ListK.assign (i := 2) (v := .bool true) rfl (by simp) ?_
    refine ListK.done (hK _ _ (wpIn_ret ?_))
    refine hfin _ _ (by simp only [defers_put, hd_a2]) (by simp [v6]) (by rw [hs2]; exact (by simp [hz_a2])) (by rw [hs2]; exact (((w62.set 0 _).set 1 _).set 2 _)) (((hB2.setCell (p := ⟨b6, 0, none⟩) h6 _).setCell (p := ⟨b6, 1, none⟩) h6 _).setCell (p := ⟨b6, 2, none⟩) h6 _) (fun x hx => by rw [hs2] at hx; cases hx; rfl)
  | true =>
    rw [hcl2] at v54 haf
    refine wpIn_cond (t := true) v54 ?_
    refine wpIn_seq ?_
    have wa2 := ar2.whole
    refine region_K (KpR (fun w : World => Whole w b 95 #[.int .i64 (h.many : Int), .int .i64 (h.width : Int), .int .i64 (h.step : Int), .map (some M)] ∧ Whole w b8 140 #[.int .i64 (k : Int), .int .i64 (n : Int), .int .i64 (s' : Int)]) (fun _ => false)) (wideF_plain _) (by kernel_rfl) Try.mixed ?_
    change AnyK _ _ _ _ 15 (Array.replicate 15 false) _ _
    have hR : (fun w : World => Whole w b 95 #[.int .i64 (h.many : Int), .int .i64 (h.width : Int), .int .i64 (h.step : Int), .map (some M)] ∧ Whole w b8 140 #[.int .i64 (k : Int), .int .i64 (n : Int), .int .i64 (s' : Int)]) W2.drew := ⟨wa2.below ((Below.refl W2.heap.size W2).drew) wa2.lt, w82.below ((Below.refl W2.heap.size W2).drew) w82.lt⟩
    refine AnyK.move (i := 0) may_o (v := .pointer (some ⟨b, 0, none⟩)) (by simp [v0]) hR ?_
    refine AnyK.field (i := 1) may_o (u := .pointer (some ⟨b8, 0, none⟩)) (v := .pointer (some ⟨b8, 0, none⟩)) (by simp [v8]) (fun w => fa140_0 w) hR ?_
    refine AnyK.load (i := 2) may_o (p := ⟨b8, 0, none⟩) (v := .int .i64 (k : Int)) (by simp [hz_a2]) (fun w hw => ld3 (hw.2.cell 0)) hR ?_
    refine AnyK.move (i := 3) may_o (v := .pointer (some ⟨b, 0, none⟩)) (by simp [v0]) hR ?_
    refine AnyK.nilCheck (i := 4) may_o (p := ⟨b, 0, none⟩) (by simp [hz_a2]) hR ?_
    refine AnyK.field (i := 5) may_o (u := .pointer (some ⟨b, 0, none⟩)) (v := .pointer (some ⟨b, 0, none⟩)) (by simp [hz_a2]) (fun w => fa95_0 w) hR ?_
    refine AnyK.field (i := 6) may_o (u := .pointer (some ⟨b, 0, none⟩)) (v := .pointer (some ⟨b, 1, none⟩)) (by simp [hz_a2]) (fun w => fa77_1 w) hR ?_
    refine AnyK.load (i := 7) may_o (p := ⟨b, 1, none⟩) (v := .int .i64 (h.width : Int)) (by simp [hz_a2]) (fun w hw => ld3 (hw.1.cell 1)) hR ?_
    refine AnyK.bin (i := 8) may_o (u := .int .i64 (k : Int)) (u' := .int .i64 (h.width : Int)) (v := .int .i64 ((k / h.width : Nat) : Int)) (by simp [hz_a2]) (by simp [hz_a2]) (fun w => quo3r (by omega) (by omega) (by omega) rfl w) hR ?_
    refine AnyK.pick1 (i := 9) (by kernel_rfl) ?_
    refine StepK.call (i := 9) (f := 115) (vs := #[.pointer (some ⟨b, 0, none⟩), .int .u8 80, .int .i64 ((k / h.width : Nat) : Int)]) rfl (enters_of Try.func115 (by kernel_rfl) rfl) rfl (by simp [hz_a2]) ((told_any 80 (k / h.width) W2.drew (ar2.below (Below.refl W2.heap.size W2).drew)).mono ?_)
    rintro _ W3 ⟨rfl, hb3⟩
    have hbd3 := (Below.refl W2.heap.size W2).drew.trans hb3
    have ar3 := ar2.below hbd3
    have w63 := w62.below hbd3 w62.lt
    have w83 := w82.below hbd3 w82.lt
    have hB3 := hB2.trans (hbd3.mono hB2.size)
    replace hR : (fun w : World => Whole w b 95 #[.int .i64 (h.many : Int), .int .i64 (h.width : Int), .int .i64 (h.step : Int), .map (some M)] ∧ Whole w b8 140 #[.int .i64 (k : Int), .int .i64 (n : Int), .int .i64 (s' : Int)]) W3 := ⟨ar3.whole, w83⟩
    refine ⟨_, rfl, fun _ _ => hR, ?_⟩
    refine AnyK.move (i := 10) may_o (v := optV (told m 80 (k / h.width))) (by simp [hz_a2]) hR ?_
    refine AnyK.extract (i := 11) may_o (u := optV (told m 80 (k / h.width))) (v := .int .i64 (((told m 80 (k / h.width)).getD 0 : Nat) : Int)) (by simp [hz_a2]) (ex0 _ _) hR ?_
    refine AnyK.extract (i := 12) may_o (u := optV (told m 80 (k / h.width))) (v := .bool (told m 80 (k / h.width)).isSome) (by simp [hz_a2]) (ex1 _ _) hR ?_
    refine AnyK.assign (i := 13) may_o (v := .int .i64 (((told m 80 (k / h.width)).getD 0 : Nat) : Int)) (by simp [hz_a2]) hR ?_
    refine AnyK.assign (i := 14) may_o (v := .bool (told m 80 (k / h.width)).isSome) (by simp [hz_a2]) hR ?_
    refine AnyK.done (by kernel_rfl) ?_
    generalize hA : Act.put _ _ _ = a3
    have hz_a3 : a3.tmps.size = 77 := by rw [← hA]; simp only [size_put, hz_a2]
    have q0 : a3.eval (.tmp 0) = .pointer (some ⟨b, 0, none⟩) := by rw [← hA]; exact (by simp [v0])
    have q6 : a3.eval (.tmp 6) = .pointer (some ⟨b6, 0, none⟩) := by rw [← hA]; exact (by simp [v6])
    have q8 : a3.eval (.tmp 8) = .pointer (some ⟨b8, 0, none⟩) := by rw [← hA]; exact (by simp [v8])
    have q11 : a3.eval (.tmp 11) = .int .i64 (((told m 80 (k / h.width)).getD 0 : Nat) : Int) := by rw [← hA]; exact (by simp [hz_a2])
    have q12 : a3.eval (.tmp 12) = .bool (told m 80 (k / h.width)).isSome := by rw [← hA]; exact (by simp [hz_a2])
    have hd_a3 : a3.defers = [] := by rw [← hA]; simp only [defers_put, hd_a2]
    clear hA
    refine wpIn_seq ?_
    cases ht : told m 80 (k / h.width) with
    | none =>
      rw [ht] at q11 q12 haf
      have hs2 : after h m k s n = some s' := by rw [haf]; rfl
      have q11' : a3.eval (.tmp 11) = .int .i64 0 := q11
      have q12' : a3.eval (.tmp 12) = .bool false := q12
      refine region_p 7 ?_
      intro K hK
      refine ListK.move (i := 0) (v := .bool false) rfl (by simp [q12']) ?_
      refine ListK.move (i := 1) (v := .bool false) rfl (by simp [hz_a3]) ?_
      refine ListK.passG (i := 2) (e := 69) (b' := false) rfl rfl (by simp [hz_a3]) rfl ?_
      refine ListK.passG (i := 3) (e := 69) (b' := false) rfl rfl (by simp [hz_a3]) rfl ?_
      refine ListK.passG (i := 4) (e := 69) (b' := false) rfl rfl (by simp [hz_a3]) rfl ?_
      refine ListK.passG (i := 5) (e := 69) (b' := false) rfl rfl (by simp [hz_a3]) rfl ?_
      refine ListK.pick (i := 6) (b := false) (v := .bool false) rfl (by simp [hz_a3]) (by simp) ?_
      refine ListK.done (hK _ _ ?_)
      clear hK K
      refine wpIn_cond (t := false) (by simp [hz_a3]) (wpIn_skip ?_)
      refine wpIn_seq (region_p 3 ?_)
      intro K hK
      refine ListK.load (i := 0) (p := ⟨b8, 0, none⟩) (v := stepV ((k : Int), (n : Int), (s' : Int))) rfl (by simp [q8]) (ld140 ⟨w83.cell 0, w83.cell 1, w83.cell 2⟩) ?_
      refine ListK.store (i := 1) (u := .pointer (some ⟨b6, 0, none⟩)) (u' := stepV ((k : Int), (n : Int), (s' : Int))) rfl (by simp [q6]) (by simp [hz_a3]) (st140 w63) ?_
      refine ListK.assign (i := 2) (v := .bool true) rfl (by simp) ?_
      refine ListK.done (hK _ _ (wpIn_ret ?_))
      refine hfin _ _ (by simp only [defers_put, hd_a3]) (by simp [q6]) (by rw [hs2]; exact (by simp [hz_a3])) (by rw [hs2]; exact (((w63.set 0 _).set 1 _).set 2 _)) (((hB3.setCell (p := ⟨b6, 0, none⟩) h6 _).setCell (p := ⟨b6, 1, none⟩) h6 _).setCell (p := ⟨b6, 2, none⟩) h6 _) (fun x hx => by rw [hs2] at hx; cases hx; rfl)
    | some x =>
      rw [ht] at q11 q12 haf
      have q11' : a3.eval (.tmp 11) = .int .i64 (x : Int) := q11
      have q12' : a3.eval (.tmp 12) = .bool true := q12
      by_cases hx : x = s'
      · have hs2 : after h m k s n = some s' := by rw [haf]; simp [hx]
        refine region_p 7 ?_
        intro K hK
        refine ListK.move (i := 0) (v := .bool true) rfl (by simp [q12']) ?_
        refine ListK.move (i := 1) (v := .bool true) rfl (by simp [hz_a3]) ?_
        refine ListK.move (i := 2) (v := .int .i64 (x : Int)) rfl (by simp [q11']) ?_ (hw := wanted_g (e := 69) (b' := true) rfl (by simp [hz_a3]) rfl)
        refine ListK.field (i := 3) (u := .pointer (some ⟨b8, 0, none⟩)) (v := .pointer (some ⟨b8, 2, none⟩)) rfl (by simp [q8]) (fa140_2 _) ?_ (hw := wanted_g (e := 69) (b' := true) rfl (by simp [hz_a3]) rfl)
        refine ListK.load (i := 4) (p := ⟨b8, 2, none⟩) (v := .int .i64 (s' : Int)) rfl (by simp [hz_a3]) (ld3 (w83.cell 2)) ?_ (hw := wanted_g (e := 69) (b' := true) rfl (by simp [hz_a3]) rfl)
        refine ListK.bin (i := 5) (u := .int .i64 (x : Int)) (u' := .int .i64 (s' : Int)) (v := .bool false) rfl (by simp [hz_a3]) (by simp [hz_a3]) (nq3F (by omega) _) ?_ (hw := wanted_g (e := 69) (b' := true) rfl (by simp [hz_a3]) rfl)
        refine ListK.pick (i := 6) (b := true) (v := .bool false) rfl (by simp [hz_a3]) (by simp [hz_a3]) ?_
        refine ListK.done (hK _ _ ?_)
        clear hK K
        refine wpIn_cond (t := false) (by simp [hz_a3]) (wpIn_skip ?_)
        refine wpIn_seq (region_p 3 ?_)
        intro K hK
        refine ListK.load (i := 0) (p := ⟨b8, 0, none⟩) (v := stepV ((k : Int), (n : Int), (s' : Int))) rfl (by simp [q8]) (ld140 ⟨w83.cell 0, w83.cell 1, w83.cell 2⟩) ?_
        refine ListK.store (i := 1) (u := .pointer (some ⟨b6, 0, none⟩)) (u' := stepV ((k : Int), (n : Int), (s' : Int))) rfl (by simp [q6]) (by simp [hz_a3]) (st140 w63) ?_
        refine ListK.assign (i := 2) (v := .bool true) rfl (by simp) ?_
        refine ListK.done (hK _ _ (wpIn_ret ?_))
        refine hfin _ _ (by simp only [defers_put, hd_a3]) (by simp [q6]) (by rw [hs2]; exact (by simp [hz_a3])) (by rw [hs2]; exact (((w63.set 0 _).set 1 _).set 2 _)) (((hB3.setCell (p := ⟨b6, 0, none⟩) h6 _).setCell (p := ⟨b6, 1, none⟩) h6 _).setCell (p := ⟨b6, 2, none⟩) h6 _) (fun x hx => by rw [hs2] at hx; cases hx; rfl)
      · have hs2 : after h m k s n = none := by rw [haf]; simp [hx]
        refine region_p 7 ?_
        intro K hK
        refine ListK.move (i := 0) (v := .bool true) rfl (by simp [q12']) ?_
        refine ListK.move (i := 1) (v := .bool true) rfl (by simp [hz_a3]) ?_
        refine ListK.move (i := 2) (v := .int .i64 (x : Int)) rfl (by simp [q11']) ?_ (hw := wanted_g (e := 69) (b' := true) rfl (by simp [hz_a3]) rfl)
        refine ListK.field (i := 3) (u := .pointer (some ⟨b8, 0, none⟩)) (v := .pointer (some ⟨b8, 2, none⟩)) rfl (by simp [q8]) (fa140_2 _) ?_ (hw := wanted_g (e := 69) (b' := true) rfl (by simp [hz_a3]) rfl)
        refine ListK.load (i := 4) (p := ⟨b8, 2, none⟩) (v := .int .i64 (s' : Int)) rfl (by simp [hz_a3]) (ld3 (w83.cell 2)) ?_ (hw := wanted_g (e := 69) (b' := true) rfl (by simp [hz_a3]) rfl)
        refine ListK.bin (i := 5) (u := .int .i64 (x : Int)) (u' := .int .i64 (s' : Int)) (v := .bool true) rfl (by simp [hz_a3]) (by simp [hz_a3]) (neqT3 (by omega) _) ?_ (hw := wanted_g (e := 69) (b' := true) rfl (by simp [hz_a3]) rfl)
        refine ListK.pick (i := 6) (b := true) (v := .bool true) rfl (by simp [hz_a3]) (by simp [hz_a3]) ?_
        refine ListK.done (hK _ _ ?_)
        clear hK K
        refine wpIn_cond (t := true) (by simp [hz_a3]) ?_
        refine wpIn_seq (region_p 3 ?_)
        intro K hK
        refine ListK.bld (i := 0) (ps := #[]) (v := stepV (0, 0, 0)) rfl (by simp) (bd140_0 _) ?_
        refine ListK.store (i := 1) (u := .pointer (some ⟨b6, 0, none⟩)) (u' := stepV (0, 0, 0)) rfl (by simp [q6]) (by simp [hz_a3]) (st140 w63) ?_
        refine ListK.assign (i := 2) (v := .bool false) rfl (by simp) ?_
        refine ListK.done (hK _ _ (wpIn_ret ?_))
        refine hfin _ _ (by simp only [defers_put, hd_a3]) (by simp [q6]) (by rw [hs2]; exact (by simp [hz_a3])) (by rw [hs2]; exact (((w63.set 0 _).set 1 _).set 2 _)) (((hB3.setCell (p := ⟨b6, 0, none⟩) h6 _).setCell (p := ⟨b6, 1, none⟩) h6 _).setCell (p := ⟨b6, 2, none⟩) h6 _) (fun x hx => by rw [hs2] at hx; cases hx)
set_option maxHeartbeats 400000 in
theorem af_b_any {b M : Nat} {h : Head} {m : List (List UInt8)} {k s n s' b6 b8 : Nat} {W W1 : World} {a1 : Act} (ar : ArchAt W1 b M h m) (hh : HeadB h) (hk : k < h.many) (hn : n ≤ 99) (hs' : s' ≤ 99)
    (he : s' = if k % h.width = 0 then n else (s + n) % 100) (hz_a1 : a1.tmps.size = 77) (hd_a1 : a1.defers = []) (u0 : a1.eval (.tmp 0) = .pointer (some ⟨b, 0, none⟩)) (u2 : a1.eval (.tmp 2) = .int .i64 (n : Int)) (u6 : a1.eval (.tmp 6) = .pointer (some ⟨b6, 0, none⟩)) (u8 : a1.eval (.tmp 8) = .pointer (some ⟨b8, 0, none⟩))
    (w6 : Whole W1 b6 140 #[.int .i64 0, .int .i64 0, .int .i64 0]) (w8 : Whole W1 b8 140 #[.int .i64 (k : Int), .int .i64 (n : Int), .int .i64 (s' : Int)]) (hn6 : b6 ≠ b8) (h6 : W.heap.size ≤ b6) (hB : Below W.heap.size W W1) :
    af_b.wpIn Fence.wide 5 Try.prog (bodyPost Try.prog Try.f100 (EvP W (afterV h m k s n))) a1 W1 := by
  unfold af_b
  refine wpIn_seq (wpIn_seq ?_)
  refine region_p 9 ?_
  intro K hK
  refine ListK.move (i := 0) (v := .pointer (some ⟨b, 0, none⟩)) rfl (by simp [u0]) ?_
  refine ListK.field (i := 1) (u := .pointer (some ⟨b8, 0, none⟩)) (v := .pointer (some ⟨b8, 0, none⟩)) rfl (by simp [u8]) (fa140_0 _) ?_
  refine ListK.load (i := 2) (p := ⟨b8, 0, none⟩) (v := .int .i64 (k : Int)) rfl (by simp [hz_a1]) (ld3 (w8.cell 0)) ?_
  refine ListK.call (i := 3) (vs := #[.pointer (some ⟨b, 0, none⟩), .int .u8 82, .int .i64 (k : Int)]) rfl (enters_of Try.func115 (by kernel_rfl) rfl) (by simp [hz_a1]) ((told_any 82 k W1 ar).mono ?_)
  rintro _ W2 ⟨rfl, hb2⟩
  refine ⟨_, rfl, ?_⟩
  refine ListK.move (i := 4) (v := optV (told m 82 k)) rfl (by simp [hz_a1]) ?_
  refine ListK.extract (i := 5) (u := optV (told m 82 k)) (v := .int .i64 (((told m 82 k).getD 0 : Nat) : Int)) rfl (by simp [hz_a1]) (ex0 _ _ _) ?_
  refine ListK.extract (i := 6) (u := optV (told m 82 k)) (v := .bool (told m 82 k).isSome) rfl (by simp [hz_a1]) (ex1 _ _ _) ?_
  refine ListK.assign (i := 7) (v := .int .i64 (((told m 82 k).getD 0 : Nat) : Int)) rfl (by simp [hz_a1]) ?_
  refine ListK.assign (i := 8) (v := .bool (told m 82 k).isSome) rfl (by simp [hz_a1]) ?_
  refine ListK.done (hK _ _ ?_)
  clear hK K
  have ar2 := ar.below hb2
  have w62 := w6.below hb2 w6.lt
  have w82 := w8.below hb2 w8.lt
  have hB2 := hB.trans (hb2.mono hB.size)
  generalize hA : Act.put _ _ _ = a2
  have hz_a2 : a2.tmps.size = 77 := by rw [← hA]; simp only [size_put, hz_a1]
  have v0 : a2.eval (.tmp 0) = .pointer (some ⟨b, 0, none⟩) := by rw [← hA]; exact (by simp [u0])
  have v2 : a2.eval (.tmp 2) = .int .i64 (n : Int) := by rw [← hA]; exact (by simp [u2])
  have v6 : a2.eval (.tmp 6) = .pointer (some ⟨b6, 0, none⟩) := by rw [← hA]; exact (by simp [u6])
  have v8 : a2.eval (.tmp 8) = .pointer (some ⟨b8, 0, none⟩) := by rw [← hA]; exact (by simp [u8])
  have v9 : a2.eval (.tmp 9) = .int .i64 (((told m 82 k).getD 0 : Nat) : Int) := by rw [← hA]; exact (by simp [hz_a1])
  have v10 : a2.eval (.tmp 10) = .bool (told m 82 k).isSome := by rw [← hA]; exact (by simp [hz_a1])
  have hd_a2 : a2.defers = [] := by rw [← hA]; simp only [defers_put, hd_a1]
  clear hA
  refine wpIn_seq ?_
  cases ht : told m 82 k with
  | none =>
    rw [ht] at v9 v10
    have q9 : a2.eval (.tmp 9) = .int .i64 0 := v9
    have q10 : a2.eval (.tmp 10) = .bool false := v10
    refine region_p 6 ?_
    intro K hK
    refine ListK.move (i := 0) (v := .bool false) rfl (by simp [q10]) ?_
    refine ListK.move (i := 1) (v := .bool false) rfl (by simp [hz_a2]) ?_
    refine ListK.passG (i := 2) (e := 42) (b' := false) rfl rfl (by simp [hz_a2]) rfl ?_
    refine ListK.passG (i := 3) (e := 42) (b' := false) rfl rfl (by simp [hz_a2]) rfl ?_
    refine ListK.passG (i := 4) (e := 42) (b' := false) rfl rfl (by simp [hz_a2]) rfl ?_
    refine ListK.pick (i := 5) (b := false) (v := .bool false) rfl (by simp [hz_a2]) (by simp) ?_
    refine ListK.done (hK _ _ ?_)
    clear hK K
    refine wpIn_cond (t := false) (by simp [hz_a2]) (wpIn_skip ?_)
    generalize hA : Act.put _ _ _ = a3
    have hz_a3 : a3.tmps.size = 77 := by rw [← hA]; simp only [size_put, hz_a2]
    have p0 : a3.eval (.tmp 0) = .pointer (some ⟨b, 0, none⟩) := by rw [← hA]; exact (by simp [v0])
    have p6 : a3.eval (.tmp 6) = .pointer (some ⟨b6, 0, none⟩) := by rw [← hA]; exact (by simp [v6])
    have p8 : a3.eval (.tmp 8) = .pointer (some ⟨b8, 0, none⟩) := by rw [← hA]; exact (by simp [v8])
    have hd_a3 : a3.defers = [] := by rw [← hA]; simp only [defers_put, hd_a2]
    clear hA
    exact af_c_any ar2 hh hk hn hs' he (by rw [ht]; rfl) hz_a3 hd_a3 p0 p6 p8 w62 w82 hn6 h6 hB2
  | some x =>
    rw [ht] at v9 v10
    have q9 : a2.eval (.tmp 9) = .int .i64 (x : Int) := v9
    have q10 : a2.eval (.tmp 10) = .bool true := v10
    by_cases hx : x = n
    · skip
      refine region_p 6 ?_
      intro K hK
      refine ListK.move (i := 0) (v := .bool true) rfl (by simp [q10]) ?_
      refine ListK.move (i := 1) (v := .bool true) rfl (by simp [hz_a2]) ?_
      refine ListK.move (i := 2) (v := .int .i64 (x : Int)) rfl (by simp [q9]) ?_ (hw := wanted_g (e := 42) (b' := true) rfl (by simp [hz_a2]) rfl)
      refine ListK.move (i := 3) (v := .int .i64 (n : Int)) rfl (by simp [v2]) ?_ (hw := wanted_g (e := 42) (b' := true) rfl (by simp [hz_a2]) rfl)
      refine ListK.bin (i := 4) (u := .int .i64 (x : Int)) (u' := .int .i64 (n : Int)) (v := .bool false) rfl (by simp [hz_a2]) (by simp [hz_a2]) (nq3F (by omega) _) ?_ (hw := wanted_g (e := 42) (b' := true) rfl (by simp [hz_a2]) rfl)
      refine ListK.pick (i := 5) (b := true) (v := .bool false) rfl (by simp [hz_a2]) (by simp [hz_a2]) ?_
      refine ListK.done (hK _ _ ?_)
      clear hK K
      refine wpIn_cond (t := false) (by simp [hz_a2]) (wpIn_skip ?_)
      generalize hA : Act.put _ _ _ = a3
      have hz_a3 : a3.tmps.size = 77 := by rw [← hA]; simp only [size_put, hz_a2]
      have p0 : a3.eval (.tmp 0) = .pointer (some ⟨b, 0, none⟩) := by rw [← hA]; exact (by simp [v0])
      have p6 : a3.eval (.tmp 6) = .pointer (some ⟨b6, 0, none⟩) := by rw [← hA]; exact (by simp [v6])
      have p8 : a3.eval (.tmp 8) = .pointer (some ⟨b8, 0, none⟩) := by rw [← hA]; exact (by simp [v8])
      have hd_a3 : a3.defers = [] := by rw [← hA]; simp only [defers_put, hd_a2]
      clear hA
      exact af_c_any ar2 hh hk hn hs' he (by rw [ht]; simp [hx]) hz_a3 hd_a3 p0 p6 p8 w62 w82 hn6 h6 hB2
    · have hs2 : after h m k s n = none := by rw [after_eq he, ht]; simp [hx]
      refine region_p 6 ?_
      intro K hK
      refine ListK.move (i := 0) (v := .bool true) rfl (by simp [q10]) ?_
      refine ListK.move (i := 1) (v := .bool true) rfl (by simp [hz_a2]) ?_
      refine ListK.move (i := 2) (v := .int .i64 (x : Int)) rfl (by simp [q9]) ?_ (hw := wanted_g (e := 42) (b' := true) rfl (by simp [hz_a2]) rfl)
      refine ListK.move (i := 3) (v := .int .i64 (n : Int)) rfl (by simp [v2]) ?_ (hw := wanted_g (e := 42) (b' := true) rfl (by simp [hz_a2]) rfl)
      refine ListK.bin (i := 4) (u := .int .i64 (x : Int)) (u' := .int .i64 (n : Int)) (v := .bool true) rfl (by simp [hz_a2]) (by simp [hz_a2]) (neqT3 (by omega) _) ?_ (hw := wanted_g (e := 42) (b' := true) rfl (by simp [hz_a2]) rfl)
      refine ListK.pick (i := 5) (b := true) (v := .bool true) rfl (by simp [hz_a2]) (by simp [hz_a2]) ?_
      refine ListK.done (hK _ _ ?_)
      clear hK K
      refine wpIn_cond (t := true) (by simp [hz_a2]) ?_
      refine wpIn_seq (region_p 3 ?_)
      intro K hK
      refine ListK.bld (i := 0) (ps := #[]) (v := stepV (0, 0, 0)) rfl (by simp) (bd140_0 _) ?_
      refine ListK.store (i := 1) (u := .pointer (some ⟨b6, 0, none⟩)) (u' := stepV (0, 0, 0)) rfl (by simp [v6]) (by simp [hz_a2]) (st140 w62) ?_
      refine ListK.assign (i := 2) (v := .bool false) rfl (by simp) ?_
      refine ListK.done (hK _ _ (wpIn_ret ?_))
      refine bodyPost_ret (v := afterV h m k s n) ?_ (by simp only [defers_put, hd_a2]) ⟨rfl, ((hB2.setCell (p := ⟨b6, 0, none⟩) h6 _).setCell (p := ⟨b6, 1, none⟩) h6 _).setCell (p := ⟨b6, 2, none⟩) h6 _⟩
      unfold afterV
      rw [hs2]
      exact res140 Try.results100 (by simp [v6]) (by simp [hz_a2]) (((w62.set 0 _).set 1 _).set 2 _)
set_option maxHeartbeats 400000 in
theorem after_any {b M : Nat} {h : Head} {m : List (List UInt8)} (k r s n : Nat) (W : World) (ar : ArchAt W b M h m) (hh : HeadB h) (hk : k < h.many) (hn : n ≤ 99) (hs : s ≤ 99) :
    Calls Try.prog 100 #[.pointer (some ⟨b, 0, none⟩), stepV (stK k r s), .int .i64 (n : Int)] W (EvP W (afterV h m k s n)) := by
  have hm := hh.many
  have hw := hh.width
  refine (callsIn_wide (n := 5)).1 (callsIn_of_wp Try.func100 body100 trivial ?_ rfl)
  obtain ⟨a, ha⟩ : ∃ a : Act, a = { tmps := #[.pointer (some ⟨b, 0, none⟩), stepV (stK k r s), .int .i64 (n : Int)] ++ Array.replicate (Try.f100.ntmps - (#[.pointer (some ⟨b, 0, none⟩), stepV (stK k r s), .int .i64 (n : Int)] : Array Value).size) undef, defers := [] } := ⟨_, rfl⟩
  have hsz : a.tmps.size = 77 := by rw [ha]; simp [Try.ntmps100]
  have t0 : a.eval (.tmp 0) = .pointer (some ⟨b, 0, none⟩) := by rw [ha]; simp [Act.eval]
  have t1 : a.eval (.tmp 1) = stepV (stK k r s) := by rw [ha]; simp [Act.eval]
  have t2 : a.eval (.tmp 2) = .int .i64 (n : Int) := by rw [ha]; simp [Act.eval]
  have hd_a : a.defers = [] := by rw [ha]
  rw [← ha]
  clear ha
  unfold code100
  simp only [stepV, stK] at t1
  refine wpIn_seq (region_p 3 ?_)
  intro K hK
  refine ListK.box (i := 0) (u := .agg #[.int .i64 ((k : Int) - 1), .int .i64 (r : Int), .int .i64 (s : Int)]) rfl (by simp [t1]) (bx140 W _ _ _) ?_
  refine ListK.alloc (i := 1) rfl (al140 _) ?_
  refine ListK.assign (i := 2) (v := .bool false) rfl (by simp) ?_
  refine ListK.done (hK _ _ ?_)
  clear hK K
  have w4 := Whole.new W 140 #[.int .i64 ((k : Int) - 1), .int .i64 (r : Int), .int .i64 (s : Int)]
  have hb_b4 : Below W.heap.size W (W.alloc (.cells #[.int .i64 ((k : Int) - 1), .int .i64 (r : Int), .int .i64 (s : Int)] 140)) := (Below.refl _ W).alloc (Nat.le_refl _) _
  have hB := hb_b4
  have hl_ar_b4 := ar.lt
  replace ar := ar.below hb_b4
  generalize hq_b4 : W.heap.size = b4 at *
  generalize W.alloc (.cells #[.int .i64 ((k : Int) - 1), .int .i64 (r : Int), .int .i64 (s : Int)] 140) = W1 at *
  have w6 := Whole.new W1 140 #[.int .i64 0, .int .i64 0, .int .i64 0]
  have hb_b6 : Below W1.heap.size W1 (W1.alloc (.cells #[.int .i64 0, .int .i64 0, .int .i64 0] 140)) := (Below.refl _ W1).alloc (Nat.le_refl _) _
  replace hB := hB.trans (hb_b6.mono (by have := hB.size; omega))
  have hl_b4_b6 : b4 < W1.heap.size := w4.lt
  replace w4 := w4.below hb_b6 w4.lt
  have hl_ar_b6 := ar.lt
  replace ar := ar.below hb_b6
  generalize hq_b6 : W1.heap.size = b6 at *
  generalize W1.alloc (.cells #[.int .i64 0, .int .i64 0, .int .i64 0] 140) = W2 at *
  have hn_b4_b6 : b4 ≠ b6 := by omega
  generalize hA : Act.put _ _ _ = a1
  have hz_a1 : a1.tmps.size = 77 := by rw [← hA]; simp only [size_put, hsz]
  have u0 : a1.eval (.tmp 0) = .pointer (some ⟨b, 0, none⟩) := by rw [← hA]; exact (by simp [t0])
  have u2 : a1.eval (.tmp 2) = .int .i64 (n : Int) := by rw [← hA]; exact (by simp [t2])
  have u4 : a1.eval (.tmp 4) = .pointer (some ⟨b4, 0, none⟩) := by rw [← hA]; exact (by simp [hsz])
  have u6 : a1.eval (.tmp 6) = .pointer (some ⟨b6, 0, none⟩) := by rw [← hA]; exact (by simp [hsz])
  have hd_a1 : a1.defers = [] := by rw [← hA]; simp only [defers_put, hd_a]
  clear hA
  refine wpIn_seq (region_p 8 ?_)
  intro K hK
  refine ListK.field (i := 0) (u := .pointer (some ⟨b4, 0, none⟩)) (v := .pointer (some ⟨b4, 0, none⟩)) rfl (by simp [u4]) (fa140_0 _) ?_
  refine ListK.load (i := 1) (p := ⟨b4, 0, none⟩) (v := .int .i64 ((k : Int) - 1)) rfl (by simp [hz_a1]) (ld3 (w4.cell 0)) ?_
  refine ListK.bin (i := 2) (u := .int .i64 ((k : Int) - 1)) (u' := .int .i64 1) (v := .int .i64 (k : Int)) rfl (by simp [hz_a1]) (by simp) (add3e (by omega) (by omega) (by omega) _) ?_
  refine ListK.move (i := 3) (v := .int .i64 (n : Int)) rfl (by simp [u2]) ?_
  refine ListK.move (i := 4) (v := .int .i64 (n : Int)) rfl (by simp [u2]) ?_
  refine ListK.bld (i := 5) (ps := #[(0, .int .i64 (k : Int)), (1, .int .i64 (n : Int)), (2, .int .i64 (n : Int))]) (v := .agg #[.int .i64 (k : Int), .int .i64 (n : Int), .int .i64 (n : Int)]) rfl (by simp [hz_a1]) (bd140 _ _ _ _) ?_
  refine ListK.alloc (i := 6) rfl (al140 _) ?_
  refine ListK.store (i := 7) (u := .pointer (some ⟨W2.heap.size, 0, none⟩)) (u' := .agg #[.int .i64 (k : Int), .int .i64 (n : Int), .int .i64 (n : Int)]) rfl (by simp [hz_a1]) (by simp [hz_a1]) (st140 (Whole.new W2 140 #[.int .i64 0, .int .i64 0, .int .i64 0])) ?_
  refine ListK.done (hK _ _ ?_)
  clear hK K
  have w8 := Whole.new W2 140 #[.int .i64 0, .int .i64 0, .int .i64 0]
  have hb_b8 : Below W2.heap.size W2 (W2.alloc (.cells #[.int .i64 0, .int .i64 0, .int .i64 0] 140)) := (Below.refl _ W2).alloc (Nat.le_refl _) _
  replace hB := hB.trans (hb_b8.mono (by have := hB.size; omega))
  have hl_b4_b8 : b4 < W2.heap.size := w4.lt
  replace w4 := w4.below hb_b8 w4.lt
  have hl_b6_b8 : b6 < W2.heap.size := w6.lt
  replace w6 := w6.below hb_b8 w6.lt
  have hl_ar_b8 := ar.lt
  replace ar := ar.below hb_b8
  generalize hq_b8 : W2.heap.size = b8 at *
  generalize W2.alloc (.cells #[.int .i64 0, .int .i64 0, .int .i64 0] 140) = W3 at *
  have hn_b4_b8 : b4 ≠ b8 := by omega
  have hn_b6_b8 : b6 ≠ b8 := by omega
  have he_W4 : Else (fun k => k = b8) W3 (((W3.setCell ⟨b8, 0, none⟩ (.int .i64 (k : Int))).setCell ⟨b8, 1, none⟩ (.int .i64 (n : Int))).setCell ⟨b8, 2, none⟩ (.int .i64 (n : Int))) := (((Else.refl (fun k => k = b8) W3).setCell (p := ⟨b8, 0, none⟩) (.inl rfl) _).setCell (p := ⟨b8, 1, none⟩) (.inl rfl) _).setCell (p := ⟨b8, 2, none⟩) (.inl rfl) _
  replace w8 := ((w8.set 0 (.int .i64 (k : Int))).set 1 (.int .i64 (n : Int))).set 2 (.int .i64 (n : Int))
  replace w4 := he_W4.whole hn_b4_b8 w4
  replace w6 := he_W4.whole hn_b6_b8 w6
  replace ar := ar.keep he_W4 (fun e => by have := hl_ar_b8; omega) (fun e => by have := hl_ar_b8; omega)
  replace hB := ((hB.setCell (p := ⟨b8, 0, none⟩) ((by show b4 ≤ b8; omega)) (.int .i64 (k : Int))).setCell (p := ⟨b8, 1, none⟩) ((by show b4 ≤ b8; omega)) (.int .i64 (n : Int))).setCell (p := ⟨b8, 2, none⟩) ((by show b4 ≤ b8; omega)) (.int .i64 (n : Int))
  generalize (((W3.setCell ⟨b8, 0, none⟩ (.int .i64 (k : Int))).setCell ⟨b8, 1, none⟩ (.int .i64 (n : Int))).setCell ⟨b8, 2, none⟩ (.int .i64 (n : Int))) = W4 at *
  generalize hA : Act.put _ _ _ = a2
  have hz_a2 : a2.tmps.size = 77 := by rw [← hA]; simp only [size_put, hz_a1]
  have v0 : a2.eval (.tmp 0) = .pointer (some ⟨b, 0, none⟩) := by rw [← hA]; exact (by simp [u0])
  have v2 : a2.eval (.tmp 2) = .int .i64 (n : Int) := by rw [← hA]; exact (by simp [u2])
  have v4 : a2.eval (.tmp 4) = .pointer (some ⟨b4, 0, none⟩) := by rw [← hA]; exact (by simp [u4])
  have v6 : a2.eval (.tmp 6) = .pointer (some ⟨b6, 0, none⟩) := by rw [← hA]; exact (by simp [u6])
  have v8 : a2.eval (.tmp 8) = .pointer (some ⟨b8, 0, none⟩) := by rw [← hA]; exact (by simp [hz_a1])
  have hd_a2 : a2.defers = [] := by rw [← hA]; simp only [defers_put, hd_a1]
  clear hA
  have wa := ar.whole
  refine wpIn_seq (wpIn_seq ?_)
  refine region_K (KpR (fun w : World => Whole w b 95 #[.int .i64 (h.many : Int), .int .i64 (h.width : Int), .int .i64 (h.step : Int), .map (some M)] ∧ Whole w b8 140 #[.int .i64 (k : Int), .int .i64 (n : Int), .int .i64 (n : Int)]) (fun _ => false)) (wideF_plain _) (by kernel_rfl) Try.mixed ?_
  change AnyK _ _ _ _ 9 (Array.replicate 9 false) _ _
  have hR : (fun w : World => Whole w b 95 #[.int .i64 (h.many : Int), .int .i64 (h.width : Int), .int .i64 (h.step : Int), .map (some M)] ∧ Whole w b8 140 #[.int .i64 (k : Int), .int .i64 (n : Int), .int .i64 (n : Int)]) W4.drew := ⟨wa.below ((Below.refl W4.heap.size W4).drew) wa.lt, w8.below ((Below.refl W4.heap.size W4).drew) w8.lt⟩
  refine AnyK.field (i := 0) may_o (u := .pointer (some ⟨b8, 0, none⟩)) (v := .pointer (some ⟨b8, 0, none⟩)) (by simp [v8]) (fun w => fa140_0 w) hR ?_
  refine AnyK.load (i := 1) may_o (p := ⟨b8, 0, none⟩) (v := .int .i64 (k : Int)) (by simp [hz_a2]) (fun w hw => ld3 (hw.2.cell 0)) hR ?_
  refine AnyK.move (i := 2) may_o (v := .pointer (some ⟨b, 0, none⟩)) (by simp [v0]) hR ?_
  refine AnyK.nilCheck (i := 3) may_o (p := ⟨b, 0, none⟩) (by simp [hz_a2]) hR ?_
  refine AnyK.field (i := 4) may_o (u := .pointer (some ⟨b, 0, none⟩)) (v := .pointer (some ⟨b, 0, none⟩)) (by simp [hz_a2]) (fun w => fa95_0 w) hR ?_
  refine AnyK.field (i := 5) may_o (u := .pointer (some ⟨b, 0, none⟩)) (v := .pointer (some ⟨b, 1, none⟩)) (by simp [hz_a2]) (fun w => fa77_1 w) hR ?_
  refine AnyK.load (i := 6) may_o (p := ⟨b, 1, none⟩) (v := .int .i64 (h.width : Int)) (by simp [hz_a2]) (fun w hw => ld3 (hw.1.cell 1)) hR ?_
  refine AnyK.bin (i := 7) may_o (u := .int .i64 (k : Int)) (u' := .int .i64 (h.width : Int)) (v := .int .i64 ((k % h.width : Nat) : Int)) (by simp [hz_a2]) (by simp [hz_a2]) (fun w => rem3r (by omega) (by omega) rfl w) hR ?_
  refine AnyK.bin (i := 8) may_o (u := .int .i64 ((k % h.width : Nat) : Int)) (u' := .int .i64 (0)) (v := .bool (decide ((0 : Int) < ((k % h.width : Nat) : Int)))) (by simp [hz_a2]) (by simp) (fun w => gtr3 w) hR ?_
  refine AnyK.done (by kernel_rfl) ?_
  have hbd := (Below.refl W4.heap.size W4).drew
  replace ar := ar.below hbd
  replace w4 := w4.below hbd w4.lt
  replace w6 := w6.below hbd w6.lt
  replace w8 := w8.below hbd w8.lt
  replace hB := hB.trans (hbd.mono (by have := hB.size; omega))
  generalize W4.drew = W5 at *
  generalize hA : Act.put _ _ _ = a3
  have hz_a3 : a3.tmps.size = 77 := by rw [← hA]; simp only [size_put, hz_a2]
  have q0 : a3.eval (.tmp 0) = .pointer (some ⟨b, 0, none⟩) := by rw [← hA]; exact (by simp [v0])
  have q2 : a3.eval (.tmp 2) = .int .i64 (n : Int) := by rw [← hA]; exact (by simp [v2])
  have q4 : a3.eval (.tmp 4) = .pointer (some ⟨b4, 0, none⟩) := by rw [← hA]; exact (by simp [v4])
  have q6 : a3.eval (.tmp 6) = .pointer (some ⟨b6, 0, none⟩) := by rw [← hA]; exact (by simp [v6])
  have q8 : a3.eval (.tmp 8) = .pointer (some ⟨b8, 0, none⟩) := by rw [← hA]; exact (by simp [v8])
  have q27 : a3.eval (.tmp 27) = .bool (decide ((0 : Int) < ((k % h.width : Nat) : Int))) := by rw [← hA]; exact (by simp [hz_a2])
  have hd_a3 : a3.defers = [] := by rw [← hA]; simp only [defers_put, hd_a2]
  clear hA
  rw [← hq_b4] at hB
  by_cases hk0 : k % h.width = 0
  · have hd : (decide ((0 : Int) < ((k % h.width : Nat) : Int))) = false := by rw [hk0]; rfl
    rw [hd] at q27
    refine wpIn_cond (t := false) q27 (wpIn_skip ?_)
    exact af_b_any (s' := n) ar hh hk hn hn (by rw [if_pos hk0]) hz_a3 hd_a3 q0 q2 q6 q8 w6 w8 hn_b6_b8 (by rw [hq_b4]; omega) hB
  · have hd : (decide ((0 : Int) < ((k % h.width : Nat) : Int))) = true := by simp only [decide_eq_true_eq]; omega
    rw [hd] at q27
    refine wpIn_cond (t := true) q27 ?_
    refine region_p 7 ?_
    intro K hK
    refine ListK.field (i := 0) (u := .pointer (some ⟨b4, 0, none⟩)) (v := .pointer (some ⟨b4, 2, none⟩)) rfl (by simp [q4]) (fa140_2 _) ?_
    refine ListK.load (i := 1) (p := ⟨b4, 2, none⟩) (v := .int .i64 (s : Int)) rfl (by simp [hz_a3]) (ld3 (w4.cell 2)) ?_
    refine ListK.move (i := 2) (v := .int .i64 (n : Int)) rfl (by simp [q2]) ?_
    refine ListK.bin (i := 3) (u := .int .i64 (s : Int)) (u' := .int .i64 (n : Int)) (v := .int .i64 ((s : Int) + (n : Int))) rfl (by simp [hz_a3]) (by simp [hz_a3]) (add3 (by omega) (by omega) _) ?_
    refine ListK.bin (i := 4) (u := .int .i64 ((s : Int) + (n : Int))) (u' := .int .i64 100) (v := .int .i64 (((s + n) % 100 : Nat) : Int)) rfl (by simp [hz_a3]) (by simp) (rem3r (by omega) (by omega) rfl _) ?_
    refine ListK.field (i := 5) (u := .pointer (some ⟨b8, 0, none⟩)) (v := .pointer (some ⟨b8, 2, none⟩)) rfl (by simp [q8]) (fa140_2 _) ?_
    refine ListK.store (i := 6) (u := .pointer (some ⟨b8, 2, none⟩)) (u' := .int .i64 (((s + n) % 100 : Nat) : Int)) rfl (by simp [hz_a3]) (by simp [hz_a3]) (st3 (w8.cell 2) (w8.frozen 2)) ?_
    refine ListK.done (hK _ _ ?_)
    clear hK K
    generalize hA : Act.put _ _ _ = a4
    have hz_a4 : a4.tmps.size = 77 := by rw [← hA]; simp only [size_put, hz_a3]
    have p0 : a4.eval (.tmp 0) = .pointer (some ⟨b, 0, none⟩) := by rw [← hA]; exact (by simp [q0])
    have p2 : a4.eval (.tmp 2) = .int .i64 (n : Int) := by rw [← hA]; exact (by simp [q2])
    have p6 : a4.eval (.tmp 6) = .pointer (some ⟨b6, 0, none⟩) := by rw [← hA]; exact (by simp [q6])
    have p8 : a4.eval (.tmp 8) = .pointer (some ⟨b8, 0, none⟩) := by rw [← hA]; exact (by simp [q8])
    have hd_a4 : a4.defers = [] := by rw [← hA]; simp only [defers_put, hd_a3]
    clear hA
    have he8 : Else (fun k => k = b8) W5 (W5.setCell ⟨b8, 2, none⟩ (.int .i64 (((s + n) % 100 : Nat) : Int))) := (Else.refl (fun k => k = b8) W5).setCell (p := ⟨b8, 2, none⟩) (.inl rfl) _
    exact af_b_any (s' := (s + n) % 100) (ar.keep he8 (fun e => by have := hl_ar_b8; omega) (fun e => by have := hl_ar_b8; omega)) hh hk hn (by omega) (by rw [if_neg hk0]) hz_a4 hd_a4 p0 p2 p6 p8 (he8.whole hn_b6_b8 w6) (w8.set 2 _) hn_b6_b8 (by rw [hq_b4]; omega) (hB.setCell (p := ⟨b8, 2, none⟩) (by show W.heap.size ≤ b8; rw [hq_b4]; omega) _)
end
end Go.Proofs.YtmdlmmfbcnkanaaR
namespace Go.Proofs.YtmdlmmfbcnkanaaR
open Go.RowKit Go.Shelf
def hi64 (c : Nat) : Int := IntKind.u64.wrap
              (IntKind.u64.wrap
                  (IntKind.u64.wrap
                      (IntKind.u64.wrap
                          (bits BinOp.and IntKind.u64 1 4294967295 * bits BinOp.and IntKind.u64 (↑c) 4294967295) /
                        4294967296) /
                    4294967296) +
                IntKind.u64.wrap
                    (bits BinOp.and IntKind.u64
                        (IntKind.u64.wrap
                          (IntKind.u64.wrap
                              (bits BinOp.and IntKind.u64 1 4294967295 * bits BinOp.and IntKind.u64 (↑c) 4294967295) /
                            4294967296))
                        4294967295 +
                      IntKind.u64.wrap (bits BinOp.and IntKind.u64 1 4294967295 * (↑c / 4294967296))) /
                  4294967296)
theorem hi64_zero : ∀ c : Fin 101, hi64 c.1 = 0 := by decide +kernel
set_option maxHeartbeats 400000 in
theorem mul64_any (c : Nat) (hc : c ≤ 100) (w : World) : Calls Try.prog 123 #[.int .u64 1, .int .u64 (c : Int)] w fun e w' => e = .returned (.tuple #[.int .u64 0, .int .u64 (c : Int)]) ∧ w' = w := by
  have hz := hi64_zero ⟨c, by omega⟩
  simp only [hi64] at hz
  go_enter Try.func123, Try.ntmps123
  go_wp2
  refine bodyPost_ret (v := .tuple #[.int .u64 0, .int .u64 (c : Int)]) ?_ rfl ⟨rfl, rfl⟩
  simp only [results, Try.results123]
  simp
set_option maxHeartbeats 400000 in
theorem mul_any (c : Nat) (hc : c ≤ 100) (w : World) : Calls Try.prog 114 #[.int .u64 1, .int .u64 (c : Int)] w fun e w' => e = .returned (.tuple #[.int .u64 0, .int .u64 (c : Int)]) ∧ w' = w := by
  go_enter Try.func114, Try.ntmps114
  go_wp2_with fail
  refine (mul64_any c hc w).mono ?_
  rintro _ _ ⟨rfl, rfl⟩
  go_wp2
  refine bodyPost_ret (v := .tuple #[.int .u64 0, .int .u64 (c : Int)]) ?_ rfl ⟨rfl, rfl⟩
  simp only [results, Try.results114]
  simp
theorem mk40n {n : Nat} (h : n ≤ 40) (w : World) : (Instr.makeSlice 40 (.int .i64 n) (.int .i64 n)).run Try.prog w = .ok (.slice (some ⟨w.heap.size, 0, none⟩) n n) (w.alloc (.cells (Array.replicate (2 * n) (.int .i64 0)) 45)) := by
  iterate 41 (rcases n with _ | n; · kernel_rfl)
  omega
theorem sl40L {b o n c k : Nat} (h : k ≤ n) (h2 : n ≤ c) (hc : k < c) (w : World) : (Instr.sliceAt 40 (.slice (some ⟨b, o, none⟩) n c) (some (.int .i64 k)) none none).run Try.prog w = .ok (.slice (some ⟨b, o + k * 2, none⟩) (n - k) (c - k)) w := by
  go_simp
  omega
theorem sl40H {b o n c k : Nat} (h : k ≤ n) (h2 : n ≤ c) (w : World) : (Instr.sliceAt 40 (.slice (some ⟨b, o, none⟩) n c) none (some (.int .i64 k)) none).run Try.prog w = .ok (.slice (some ⟨b, o, none⟩) k c) w := by
  go_simp
  omega
theorem und40 : Try.prog.underlying 40 = some (.slice 45) := by kernel_rfl
theorem siz45 : (Try.prog.info? 45).map (·.size) = some 2 := by kernel_rfl
theorem run_copy40 (w : World) (ty : TypeId) (g o dLen dCap : Nat) (a : Addr) (sLen sCap : Nat) (cur : Array Value) (t : TypeId) (cs : List Value)
    (hg : w.heap[g]? = some (.cells cur t (0, 0))) (hn : cs.length = Nat.min sLen dLen * 2)
    (hsrc : ∀ j v, cs[j]? = some v → w.cell? (a.add j) = some v) (hfit : o + cs.length ≤ cur.size) (h1 : ∀ v ∈ cs, v.oneCell' = true) :
    (Builtin.copy_ #[40, 40] ty #[.slice (some ⟨g, o, none⟩) dLen dCap, .slice (some a) sLen sCap]).run Try.prog w =
      .ok (.int .i64 (Nat.min sLen dLen : Nat)) (w.setRow g (cur.toList.take o ++ cs ++ cur.toList.drop (o + cs.length)).toArray) := by
  have hl := run_loadCells_list (P := Try.prog) w a cs hsrc
  have hst := run_storeCells_at Try.prog g o t cs 0 cur w hg (by simpa using hfit) h1
  have hs := siz45
  cases hq : Try.prog.info? 45 with
  | none => rw [hq] at hs; cases hs
  | some i =>
    have hi : i.size = 2 := by rw [hq] at hs; simpa using hs
    simp [Builtin.copy_, run_underlying und40, Builtin.lenOf, Builtin.firstCells, sizeOf, typeInfo, hq, hi, ← hn, hl, hst, goInt]
/-- So many ranges from 100 to -1, in cells. -/
def rgL : Nat → List Value
  | 0 => []
  | n + 1 => .int .i64 100 :: .int .i64 (-1) :: rgL n
theorem rgL_len : ∀ n, (rgL n).length = n * 2
  | 0 => rfl
  | n + 1 => by simp [rgL, rgL_len n]; omega
theorem rgL_one : ∀ n, ∀ v, v ∈ rgL n → v.oneCell' = true
  | 0, v, h => by simp [rgL] at h
  | n + 1, v, h => by
    simp only [rgL, List.mem_cons] at h
    rcases h with rfl | rfl | h
    · rfl
    · rfl
    · exact rgL_one n v h
theorem rgL_add (k : Nat) : ∀ n, rgL (n + k) = rgL n ++ rgL k
  | 0 => by simp [rgL]
  | n + 1 => by
    rw [show n + 1 + k = (n + k) + 1 by omega]
    simp [rgL, rgL_add k n]
theorem rgL_pre {k n : Nat} (h : k ≤ n) {j : Nat} {v : Value} (hj : (rgL k)[j]? = some v) : (rgL n)[j]? = some v := by
  obtain ⟨d, rfl⟩ : ∃ d, n = k + d := ⟨n - k, by omega⟩
  rw [rgL_add, List.getElem?_append_left (List.getElem?_eq_some_iff.1 hj).1]
  exact hj
/-- The first n of c ranges are laid. -/
def rp (n c : Nat) : Array Value := (rgL n ++ List.replicate ((c - n) * 2) (Value.int .i64 0)).toArray
theorem rp_size {n c : Nat} (h : n ≤ c) : (rp n c).size = c * 2 := by simp [rp, rgL_len]; omega
theorem rp_step {n c k : Nat} (h : n + k ≤ c) : ((rp n c).toList.take (n * 2) ++ rgL k ++ (rp n c).toList.drop (n * 2 + (rgL k).length)).toArray = rp (n + k) c := by
  have h1 : (rp n c).toList.take (n * 2) = rgL n := by
    simp only [rp]
    rw [← rgL_len n, List.take_left]
  have h2 : (rp n c).toList.drop (n * 2 + (rgL k).length) = List.replicate ((c - (n + k)) * 2) (.int .i64 0) := by
    simp only [rp, rgL_len]
    rw [← List.drop_drop, ← rgL_len n, List.drop_left, List.drop_replicate]
    congr 1
    omega
  rw [h1, h2]
  simp [rp, rgL_add]
theorem rp_full (c : Nat) : rp c c = (rgL c).toArray := by simp [rp]
theorem addr_add (g o i : Nat) : (⟨g, o, none⟩ : Addr).add i = ⟨g, o + i, none⟩ := by unfold Addr.add; split <;> simp_all
theorem setRow_else {W : World} {g : Nat} {cs : Array Value} : Else (fun k => k = g) W (W.setRow g cs) :=
  ⟨⟨rfl, rfl, rfl, by simp [World.setRow], fun k hk => by omega⟩, fun k _ hx => by
    simp only [World.setRow, Array.getElem?_modify]
    rw [if_neg (fun e => hx e.symm)]⟩
theorem copy40 {W : World} {g n c k dL dC sL sC : Nat} {a : Addr} (ty : TypeId) (hg : Whole W g 45 (rp n c)) (hk : Nat.min sL dL = k) (hnk : n + k ≤ c) (hsrc : ∀ j v, (rgL k)[j]? = some v → W.cell? (a.add j) = some v) :
    ∃ W', (Builtin.copy_ #[40, 40] ty #[.slice (some ⟨g, n * 2, none⟩) dL dC, .slice (some a) sL sC]).run Try.prog W = .ok (.int .i64 (k : Int)) W' ∧ Whole W' g 45 (rp (n + k) c) ∧ Else (fun k => k = g) W W' := by
  have hr := run_copy40 W ty g (n * 2) dL dC a sL sC (rp n c) 45 (rgL k) hg (by rw [rgL_len, hk]) hsrc (by rw [rgL_len, rp_size (by omega)]; omega) (rgL_one k)
  rw [rp_step hnk, hk] at hr
  exact ⟨_, hr, setRow_heap W g (rp n c) _ 45 _ hg, setRow_else⟩
section
variable {P : Program} {ops : Array Oper} {k i d : Nat} {a : Act} {w w' : World} {ty : TypeId} {pos : String} {aft : Array Edge} {u u' v : Value}
theorem ListK.copy {K : Act → World → Prop} {x y : Operand} {s t : TypeId} (hi : ops[i]? = some ⟨some d, .call { callee := .builtin .copy, args := #[x, y], argTypes := #[s, t] }, ty, pos, aft, none⟩) (hx : a.eval x = u) (hy : a.eval y = u')
    (hr : (Builtin.copy_ #[s, t] ty #[u, u']).run P w = .ok v w') (h : ListK P ops K k (i + 1) (a.put (some d) v) w') : ListK P ops K (k + 1) i a w :=
  ListK.valW hi rfl (by simp [execOp, resolve, invoke, builtin, hx, hy, hr]) h
variable {K : Act → World → Prop} {Kp : Nat → World → World → Prop} {fuel : Nat} {listed : Array Bool}
theorem StepK.copy {x y : Operand} {s t : TypeId} (hi : ops[i]? = some ⟨some d, .call { callee := .builtin .copy, args := #[x, y], argTypes := #[s, t] }, ty, pos, aft, none⟩) (hx : a.eval x = u) (hy : a.eval y = u')
    (hr : (Builtin.copy_ #[s, t] ty #[u, u']).run P w = .ok v w') (hk : Kp i w w') (h : AnyK P ops K Kp fuel (listed.setIfInBounds i true) (a.put (some d) v) w') : StepK P ops K Kp fuel listed a w i := by
  unfold StepK opG
  simp only [hi]
  rw [if_pos (show Region.wanted _ _ = true from rfl)]
  simp [Oper.wp, execOp, resolve, invoke, builtin, hx, hy, hr, Oper.upon]
  exact ⟨hk, h⟩
end
theorem ln40 (A : Option Addr) (n c : Nat) (t : TypeId) (w : World) : (builtin .len #[40] t #[false] #[.slice A n c]).run Try.prog w = .ok (.value (.int .i64 (n : Int))) w := by go_simp
theorem cv3_132 {n : Nat} (h : n ≤ 100) (w : World) : (convert 3 132 (.int .i64 (n : Int))).run Try.prog w = .ok (.int .u64 (n : Int)) w := by
  have h1 : ∀ n : Fin 101, IntKind.u64.wrap (n.1 : Int) = n.1 := by decide +kernel
  have h2 := h1 ⟨n, by omega⟩
  simp only at h2
  go_simp
theorem cv132_3 {n : Nat} (h : n ≤ 100) (w : World) : (convert 132 3 (.int .u64 (n : Int))).run Try.prog w = .ok (.int .i64 (n : Int)) w := by
  have h2 := IntWalk.i64_in (n : Int) (by omega)
  go_simp
theorem gtr132F {x y : Operand} {m n : Int} (h : m ≤ n) (w : World) : (do eqGuard .gtr 132 x y (.int .u64 m) (.int .u64 n); binOp .gtr 132 (.int .u64 m) (.int .u64 n) : Sem Value).run Try.prog w = .ok (.bool false) w := by
  have : ¬ n < m := by omega
  go_simp
end Go.Proofs.YtmdlmmfbcnkanaaR
namespace Go.Proofs.YtmdlmmfbcnkanaaR
open Go.RowKit Go.Shelf
noncomputable def opsRe0 : Array Oper := (Try.f97.body.bind (regionOf 0)).getD #[]
noncomputable def opsRe1 : Array Oper := (Try.f97.body.bind (regionOf 1)).getD #[]
noncomputable def opsRe2 : Array Oper := (Try.f97.body.bind (regionOf 2)).getD #[]
noncomputable def opsRe3 : Array Oper := (Try.f97.body.bind (regionOf 3)).getD #[]
noncomputable def opsRe4 : Array Oper := (Try.f97.body.bind (regionOf 4)).getD #[]
noncomputable def opsRe5 : Array Oper := (Try.f97.body.bind (regionOf 5)).getD #[]
noncomputable def opsRe6 : Array Oper := (Try.f97.body.bind (regionOf 6)).getD #[]
noncomputable def opsRe7 : Array Oper := (Try.f97.body.bind (regionOf 7)).getD #[]
noncomputable def opsRe8 : Array Oper := (Try.f97.body.bind (regionOf 8)).getD #[]
noncomputable def opsRe9 : Array Oper := (Try.f97.body.bind (regionOf 9)).getD #[]
noncomputable def opsRe10 : Array Oper := (Try.f97.body.bind (regionOf 10)).getD #[]
noncomputable def code97 : Code := (.seq (.region 0 opsRe0 false) (.seq (.seq (.region 1 opsRe1 false) (.cond (.tmp 10) (.region 2 opsRe2 false) .skip)) (.seq (.region 3 opsRe3 false) (.seq (.seq (.region 4 opsRe4 false) (.cond (.tmp 26) (.region 5 opsRe5 false) .skip)) (.seq (.region 6 opsRe6 false) (.seq (.region 7 opsRe7 false) (.seq (.block 0 (.loop (.seq (.seq (.region 8 opsRe8 false) (.cond (.tmp 37) .skip (.exit 0))) (.block 1 (.region 9 opsRe9 true))))) (.seq (.region 10 opsRe10 false) .ret))))))))
theorem body97 : Try.f97.body = some code97 := by kernel_rfl
section
attribute [local irreducible] AnyK StepK
set_option maxHeartbeats 400000 in
theorem repeat_any (kx c : Nat) (hc : 1 ≤ c ∧ c ≤ 40) (W : World) (hx : Whole W kx 45 #[.int .i64 100, .int .i64 (-1)]) :
    Calls Try.prog 97 #[.slice (some ⟨kx, 0, none⟩) 1 1, .int .i64 (c : Int)] W fun e w' => ∃ g, e = .returned (.slice (some ⟨g, 0, none⟩) c c) ∧ W.heap.size ≤ g ∧ Whole w' g 45 (rgL c).toArray ∧ Below W.heap.size W w' := by
  refine (callsIn_wide (n := 5)).1 (callsIn_of_wp Try.func97 body97 trivial ?_ rfl)
  obtain ⟨a, ha⟩ : ∃ a : Act, a = { tmps := #[.slice (some ⟨kx, 0, none⟩) 1 1, .int .i64 (c : Int)] ++ Array.replicate (Try.f97.ntmps - (#[.slice (some ⟨kx, 0, none⟩) 1 1, .int .i64 (c : Int)] : Array Value).size) undef, defers := [] } := ⟨_, rfl⟩
  have hsz : a.tmps.size = 48 := by rw [ha]; simp [Try.ntmps97]
  have t0 : a.eval (.tmp 0) = .slice (some ⟨kx, 0, none⟩) 1 1 := by rw [ha]; simp [Act.eval]
  have t1 : a.eval (.tmp 1) = .int .i64 (c : Int) := by rw [ha]; simp [Act.eval]
  have hd_a : a.defers = [] := by rw [ha]
  rw [← ha]
  clear ha
  unfold code97
  have hd0 : decide ((c : Int) < 0) = false := by simp
  refine wpIn_seq (region_p 1 ?_)
  intro K hK
  refine ListK.assign (i := 0) (v := .slice none 0 0) rfl (by simp) ?_
  refine ListK.done (hK _ _ ?_)
  clear hK K
  refine wpIn_seq (wpIn_seq (region_p 2 ?_))
  intro K hK
  refine ListK.move (i := 0) (v := .int .i64 (c : Int)) rfl (by simp [t1]) ?_
  refine ListK.bin (i := 1) (u := .int .i64 (c : Int)) (u' := .int .i64 0) (v := .bool (decide ((c : Int) < 0))) rfl (by simp [hsz]) (by simp) (lss3 _) ?_
  refine ListK.done (hK _ _ ?_)
  clear hK K
  rw [hd0]
  refine wpIn_cond (t := false) (by simp [hsz]) (wpIn_skip ?_)
  generalize hA : Act.put _ _ _ = a1
  have hz_a1 : a1.tmps.size = 48 := by rw [← hA]; simp only [size_put, hsz]
  have u0 : a1.eval (.tmp 0) = .slice (some ⟨kx, 0, none⟩) 1 1 := by rw [← hA]; exact (by simp [t0])
  have u1 : a1.eval (.tmp 1) = .int .i64 (c : Int) := by rw [← hA]; exact (by simp [t1])
  have hd_a1 : a1.defers = [] := by rw [← hA]; simp only [defers_put, hd_a]
  clear hA
  refine wpIn_seq (region_p 11 ?_)
  intro K hK
  refine ListK.move (i := 0) (v := .slice (some ⟨kx, 0, none⟩) 1 1) rfl (by simp [u0]) ?_
  refine ListK.len (i := 1) (u := .slice (some ⟨kx, 0, none⟩) 1 1) (v := .int .i64 1) rfl (by simp [hz_a1]) (ln40 _ _ _ _ _) rfl ?_
  refine ListK.conv (i := 2) (u := .int .i64 1) (v := .int .u64 ((1 : Nat) : Int)) rfl (by simp [hz_a1]) (cv3_132 (n := 1) (by omega) _) ?_
  refine ListK.move (i := 3) (v := .int .i64 (c : Int)) rfl (by simp [u1]) ?_
  refine ListK.conv (i := 4) (u := .int .i64 (c : Int)) (v := .int .u64 (c : Int)) rfl (by simp [hz_a1]) (cv3_132 (by omega) _) ?_
  refine ListK.call (i := 5) (vs := #[.int .u64 ((1 : Nat) : Int), .int .u64 (c : Int)]) rfl (enters_of Try.func114 (by kernel_rfl) rfl) (by simp [hz_a1]) ((mul_any c (by omega) W).mono ?_)
  rintro _ W ⟨rfl, rfl⟩
  refine ⟨_, rfl, ?_⟩
  refine ListK.move (i := 6) (v := .tuple #[.int .u64 0, .int .u64 (c : Int)]) rfl (by simp [hz_a1]) ?_
  refine ListK.extract (i := 7) (u := .tuple #[.int .u64 0, .int .u64 (c : Int)]) (v := .int .u64 0) rfl (by simp [hz_a1]) (ex0 _ _ _) ?_
  refine ListK.extract (i := 8) (u := .tuple #[.int .u64 0, .int .u64 (c : Int)]) (v := .int .u64 (c : Int)) rfl (by simp [hz_a1]) (ex1 _ _ _) ?_
  refine ListK.assign (i := 9) (v := .int .u64 0) rfl (by simp [hz_a1]) ?_
  refine ListK.assign (i := 10) (v := .int .u64 (c : Int)) rfl (by simp [hz_a1]) ?_
  refine ListK.done (hK _ _ ?_)
  clear hK K
  generalize hA : Act.put _ _ _ = a2
  have hz_a2 : a2.tmps.size = 48 := by rw [← hA]; simp only [size_put, hz_a1]
  have v0 : a2.eval (.tmp 0) = .slice (some ⟨kx, 0, none⟩) 1 1 := by rw [← hA]; exact (by simp [u0])
  have v1 : a2.eval (.tmp 1) = .int .i64 (c : Int) := by rw [← hA]; exact (by simp [u1])
  have v5 : a2.eval (.tmp 5) = .int .u64 0 := by rw [← hA]; exact (by simp [hz_a1])
  have v6 : a2.eval (.tmp 6) = .int .u64 (c : Int) := by rw [← hA]; exact (by simp [hz_a1])
  have hd_a2 : a2.defers = [] := by rw [← hA]; simp only [defers_put, hd_a1]
  clear hA
  refine wpIn_seq (wpIn_seq (region_p 6 ?_))
  intro K hK
  refine ListK.move (i := 0) (v := .int .u64 0) rfl (by simp [v5]) ?_
  refine ListK.bin (i := 1) (u := .int .u64 0) (u' := .int .u64 0) (v := .bool false) rfl (by simp [hz_a2]) (by simp) (gtr132F (by omega) _) ?_
  refine ListK.move (i := 2) (v := .bool false) rfl (by simp [hz_a2]) ?_
  refine ListK.move (i := 3) (v := .int .u64 (c : Int)) rfl (by simp [v6]) ?_ (hw := wanted_g (e := 23) (b' := false) rfl (by simp [hz_a2]) rfl)
  refine ListK.bin (i := 4) (u := .int .u64 (c : Int)) (u' := .int .u64 9223372036854775807) (v := .bool false) rfl (by simp [hz_a2]) (by simp) (gtr132F (by omega) _) ?_ (hw := wanted_g (e := 23) (b' := false) rfl (by simp [hz_a2]) rfl)
  refine ListK.pick (i := 5) (b := false) (v := .bool false) rfl (by simp [hz_a2]) (by simp [hz_a2]) ?_
  refine ListK.done (hK _ _ ?_)
  clear hK K
  refine wpIn_cond (t := false) (by simp [hz_a2]) (wpIn_skip ?_)
  generalize hA : Act.put _ _ _ = a3
  have hz_a3 : a3.tmps.size = 48 := by rw [← hA]; simp only [size_put, hz_a2]
  have q0 : a3.eval (.tmp 0) = .slice (some ⟨kx, 0, none⟩) 1 1 := by rw [← hA]; exact (by simp [v0])
  have q1 : a3.eval (.tmp 1) = .int .i64 (c : Int) := by rw [← hA]; exact (by simp [v1])
  have q6 : a3.eval (.tmp 6) = .int .u64 (c : Int) := by rw [← hA]; exact (by simp [v6])
  have hd_a3 : a3.defers = [] := by rw [← hA]; simp only [defers_put, hd_a2]
  clear hA
  refine wpIn_seq (region_p 4 ?_)
  intro K hK
  refine ListK.move (i := 0) (v := .int .u64 (c : Int)) rfl (by simp [q6]) ?_
  refine ListK.conv (i := 1) (u := .int .u64 (c : Int)) (v := .int .i64 (c : Int)) rfl (by simp [hz_a3]) (cv132_3 (by omega) _) ?_
  refine ListK.mkS (i := 2) (u := .int .i64 (c : Int)) (u' := .int .i64 (c : Int)) rfl (by simp [hz_a3]) (by simp [hz_a3]) (mk40n (by omega) W) ?_
  refine ListK.assign (i := 3) (v := .slice (some ⟨W.heap.size, 0, none⟩) c c) rfl (by simp [hz_a3]) ?_
  refine ListK.done (hK _ _ ?_)
  clear hK K
  have wg := Whole.new W 45 (Array.replicate (2 * c) (.int .i64 0))
  have hb_g : Below W.heap.size W (W.alloc (.cells (Array.replicate (2 * c) (.int .i64 0)) 45)) := (Below.refl _ W).alloc (Nat.le_refl _) _
  have hB := hb_g
  have hl_kx_g : kx < W.heap.size := hx.lt
  replace hx := hx.below hb_g hx.lt
  generalize hq_g : W.heap.size = g at *
  generalize W.alloc (.cells (Array.replicate (2 * c) (.int .i64 0)) 45) = W1 at *
  have hn_kx_g : kx ≠ g := by omega
  have ez : (Array.replicate (2 * c) (Value.int .i64 0)) = rp 0 c := by simp [rp, rgL]; rw [Nat.mul_comm]
  rw [ez] at wg
  generalize hA : Act.put _ _ _ = a4
  have hz_a4 : a4.tmps.size = 48 := by rw [← hA]; simp only [size_put, hz_a3]
  have p0 : a4.eval (.tmp 0) = .slice (some ⟨kx, 0, none⟩) 1 1 := by rw [← hA]; exact (by simp [q0])
  have p1 : a4.eval (.tmp 1) = .int .i64 (c : Int) := by rw [← hA]; exact (by simp [q1])
  have p7 : a4.eval (.tmp 7) = .slice (some ⟨g, 0, none⟩) c c := by rw [← hA]; exact (by simp [hz_a3])
  have hd_a4 : a4.defers = [] := by rw [← hA]; simp only [defers_put, hd_a3]
  clear hA
  obtain ⟨W2, hcp, wg2, he2⟩ := copy40 (W := W1) (n := 0) (c := c) (k := 1) (dL := c) (dC := c) (sL := 1) (sC := 1) (a := ⟨kx, 0, none⟩) 3 wg (by show min 1 c = 1; omega) (by omega) (fun j v hj => by
    rw [addr_add, Nat.zero_add, hx.cell j]
    simpa [rgL] using hj)
  rw [Nat.zero_mul] at hcp
  refine wpIn_seq (region_p 4 ?_)
  intro K hK
  refine ListK.move (i := 0) (v := .slice (some ⟨g, 0, none⟩) c c) rfl (by simp [p7]) ?_
  refine ListK.move (i := 1) (v := .slice (some ⟨kx, 0, none⟩) 1 1) rfl (by simp [p0]) ?_
  refine ListK.copy (i := 2) rfl (by simp [hz_a4]) (by simp [hz_a4]) hcp ?_
  refine ListK.assign (i := 3) (v := .int .i64 ((1 : Nat) : Int)) rfl (by simp [hz_a4]) ?_
  refine ListK.done (hK _ _ ?_)
  clear hK K
  have hB2 : Below g W W2 := hB.trans (he2.below (by have := wg.lt; omega) (fun k hk e => by omega))
  generalize hA : Act.put _ _ _ = a5
  have hz_a5 : a5.tmps.size = 48 := by rw [← hA]; simp only [size_put, hz_a4]
  have r7 : a5.eval (.tmp 7) = .slice (some ⟨g, 0, none⟩) c c := by rw [← hA]; exact (by simp [p7])
  have r8 : a5.eval (.tmp 8) = .int .i64 ((1 : Nat) : Int) := by rw [← hA]; exact (by simp [hz_a4])
  have hd_a5 : a5.defers = [] := by rw [← hA]; simp only [defers_put, hd_a4]
  clear hA
  refine wpIn_seq ?_
  refine wpIn_block (wpIn_loop (fun a W' => ∃ n : Nat, 1 ≤ n ∧ n ≤ c ∧ a.tmps.size = 48 ∧ a.defers = [] ∧ a.eval (.tmp 7) = .slice (some ⟨g, 0, none⟩) c c ∧ a.eval (.tmp 8) = .int .i64 (n : Int) ∧ Whole W' g 45 (rp n c) ∧ Below g W W') (fun a _ => c - (intOf (a.eval (.tmp 8))).toNat)
    ⟨1, by omega, by omega, hz_a5, hd_a5, r7, r8, wg2, hB2⟩ ?_)
  rintro b1 W3 ⟨n, hn1, hnc, hz_b1, hd_b1, s7, s8, wg3, hB3⟩
  by_cases hlt : n < c
  · have hd : decide ((n : Int) < (c : Int)) = true := by simp; omega
    refine wpIn_seq (wpIn_seq (region_p 4 ?_))
    intro K hK
    refine ListK.move (i := 0) (v := .int .i64 (n : Int)) rfl (by simp [s8]) ?_
    refine ListK.move (i := 1) (v := .slice (some ⟨g, 0, none⟩) c c) rfl (by simp [s7]) ?_
    refine ListK.len (i := 2) (u := .slice (some ⟨g, 0, none⟩) c c) (v := .int .i64 c) rfl (by simp [hz_b1]) (ln40 _ _ _ _ _) rfl ?_
    refine ListK.bin (i := 3) (u := .int .i64 (n : Int)) (u' := .int .i64 c) (v := .bool (decide ((n : Int) < c))) rfl (by simp [hz_b1]) (by simp [hz_b1]) (lss3 _) ?_
    refine ListK.done (hK _ _ ?_)
    clear hK K
    rw [hd]
    refine wpIn_cond (t := true) (by simp [hz_b1]) (wpIn_skip ?_)
    generalize hA : Act.put _ _ _ = b2
    have hz_b2 : b2.tmps.size = 48 := by rw [← hA]; simp only [size_put, hz_b1]
    have v7 : b2.eval (.tmp 7) = .slice (some ⟨g, 0, none⟩) c c := by rw [← hA]; exact (by simp [s7])
    have v8 : b2.eval (.tmp 8) = .int .i64 (n : Int) := by rw [← hA]; exact (by simp [s8])
    have hd_b2 : b2.defers = [] := by rw [← hA]; simp only [defers_put, hd_b1]
    clear hA
    refine wpIn_block ?_
    have hk : Nat.min n (c - n) = min n (c - n) := rfl
    obtain ⟨W4, hcp4, wg4, he4⟩ := copy40 (W := W3.drew) (n := n) (c := c) (k := min n (c - n)) (dL := c - n) (dC := c - n) (sL := n) (sC := c) (a := ⟨g, 0, none⟩) 3 wg3 hk (by omega) (fun j v hj => by
      have h1 := rgL_pre (n := n) (by omega) hj
      have h2 : (rp n c)[j]? = some v := by
        simp only [rp, List.getElem?_toArray]
        rw [List.getElem?_append_left (List.getElem?_eq_some_iff.1 h1).1]
        exact h1
      rw [addr_add, Nat.zero_add]
      exact (Whole.cell (w := W3) wg3 j).trans h2)
    refine region_K (KpR (fun _ : World => True) (fun _ => false)) (wideF_plain _) (by kernel_rfl) Try.mixed ?_
    change AnyK _ _ _ _ 10 (Array.replicate 10 false) _ _
    have hR : (fun _ : World => True) W3.drew := trivial
    refine AnyK.move (i := 0) may_o (v := .int .i64 (n : Int)) (by simp [v8]) hR ?_
    refine AnyK.move (i := 1) may_o (v := .slice (some ⟨g, 0, none⟩) c c) (by simp [v7]) hR ?_
    refine AnyK.move (i := 2) may_o (v := .int .i64 (n : Int)) (by simp [v8]) hR ?_
    refine AnyK.sliceL (i := 3) may_o (u := .slice (some ⟨g, 0, none⟩) c c) (u' := .int .i64 (n : Int)) (v := .slice (some ⟨g, 0 + n * 2, none⟩) (c - n) (c - n)) (by simp [hz_b2]) (by simp [hz_b2]) (fun w => sl40L (by omega) (by omega) (by omega) w) hR ?_
    refine AnyK.move (i := 4) may_o (v := .slice (some ⟨g, 0, none⟩) c c) (by simp [v7]) hR ?_
    refine AnyK.move (i := 5) may_o (v := .int .i64 (n : Int)) (by simp [v8]) hR ?_
    refine AnyK.sliceH (i := 6) may_o (u := .slice (some ⟨g, 0, none⟩) c c) (u' := .int .i64 (n : Int)) (v := .slice (some ⟨g, 0, none⟩) n c) (by simp [hz_b2]) (by simp [hz_b2]) (fun w => sl40H (by omega) (by omega) w) hR ?_
    refine AnyK.pick1 (i := 7) (by kernel_rfl) ?_
    rw [show n * 2 = 0 + n * 2 by omega] at hcp4
    refine StepK.copy (i := 7) rfl (by simp [hz_b2]) (by simp [hz_b2]) hcp4 (fun _ _ => trivial) ?_
    refine AnyK.bin (i := 8) may_o (u := .int .i64 (n : Int)) (u' := .int .i64 ((min n (c - n) : Nat) : Int)) (v := .int .i64 ((n + min n (c - n) : Nat) : Int)) (by simp [hz_b2]) (by simp [hz_b2]) (fun w => add3e (by omega) (by omega) (by omega) w) hR ?_
    refine AnyK.assign (i := 9) may_o (v := .int .i64 ((n + min n (c - n) : Nat) : Int)) (by simp [hz_b2]) hR ?_
    refine AnyK.done (by kernel_rfl) ?_
    refine ⟨⟨n + min n (c - n), by omega, by omega, (by simp only [size_put, hz_b2]), (by simp only [defers_put, hd_b2]), (by simp [v7]), (by simp [hz_b2]), wg4, hB3.trans (((Below.refl W3.heap.size W3).drew.mono (Nat.le_of_lt wg3.lt)).trans (he4.below (Nat.le_of_lt wg3.lt) (fun k hk e => by omega)))⟩, ?_⟩
    rw [s8, show (Act.put _ _ _).eval (.tmp 8) = .int .i64 ((n + min n (c - n) : Nat) : Int) from (by simp [hz_b2])]
    simp only [intOf]
    omega
  · skip
    have hd : decide ((n : Int) < (c : Int)) = false := by simp; omega
    refine wpIn_seq (wpIn_seq (region_p 4 ?_))
    intro K hK
    refine ListK.move (i := 0) (v := .int .i64 (n : Int)) rfl (by simp [s8]) ?_
    refine ListK.move (i := 1) (v := .slice (some ⟨g, 0, none⟩) c c) rfl (by simp [s7]) ?_
    refine ListK.len (i := 2) (u := .slice (some ⟨g, 0, none⟩) c c) (v := .int .i64 c) rfl (by simp [hz_b1]) (ln40 _ _ _ _ _) rfl ?_
    refine ListK.bin (i := 3) (u := .int .i64 (n : Int)) (u' := .int .i64 c) (v := .bool (decide ((n : Int) < c))) rfl (by simp [hz_b1]) (by simp [hz_b1]) (lss3 _) ?_
    refine ListK.done (hK _ _ ?_)
    clear hK K
    rw [hd]
    refine wpIn_cond (t := false) (by simp [hz_b1]) (wpIn_exit ?_)
    generalize hA : Act.put _ _ _ = b2
    have hz_b2 : b2.tmps.size = 48 := by rw [← hA]; simp only [size_put, hz_b1]
    have v7 : b2.eval (.tmp 7) = .slice (some ⟨g, 0, none⟩) c c := by rw [← hA]; exact (by simp [s7])
    have v8 : b2.eval (.tmp 8) = .int .i64 (n : Int) := by rw [← hA]; exact (by simp [s8])
    have hd_b2 : b2.defers = [] := by rw [← hA]; simp only [defers_put, hd_b1]
    clear hA
    refine wpIn_seq (region_p 2 ?_)
    intro K hK
    refine ListK.move (i := 0) (v := .slice (some ⟨g, 0, none⟩) c c) rfl (by simp [v7]) ?_
    refine ListK.assign (i := 1) (v := .slice (some ⟨g, 0, none⟩) c c) rfl (by simp [hz_b2]) ?_
    refine ListK.done (hK _ _ (wpIn_ret ?_))
    have hnc' : n = c := by omega
    subst hnc'
    rw [rp_full] at wg3
    refine bodyPost_ret (v := .slice (some ⟨g, 0, none⟩) n n) (res1 Try.results97 (by simp [hz_b2])) (by simp only [defers_put, hd_b2]) ⟨g, rfl, by omega, wg3, ?_⟩
    exact hB3
end
end Go.Proofs.YtmdlmmfbcnkanaaR
namespace Go.Proofs.YtmdlmmfbcnkanaaR
open Go.RowKit Go.Shelf
abbrev capsG (ba bk bf bo : Nat) : Array Value := #[.pointer (some ⟨ba, 0, none⟩), .pointer (some ⟨bk, 0, none⟩), .pointer (some ⟨bf, 0, none⟩), .pointer (some ⟨bo, 0, none⟩)]
/-- What the search may write. -/
abbrev XG (Mk g : Nat) : Nat → Prop := fun k => k = Mk ∨ k = g
/-- The state of the search. -/
structure GS (ba bk bf bo b M Mk g : Nat) (h : Head) (m : List (List UInt8)) (W : World) (K : Int × Int × Int → Option Bool) (U : Nat → Nat → Prop) (f : Nat → Int) : Prop where
  ar : ArchAt W b M h m
  wa : Whole W ba 90 #[.pointer (some ⟨b, 0, none⟩)]
  wk : Whole W bk 137 #[.map (some Mk)]
  wf : Whole W bf 138 #[.func (.func 98) #[] (capsG ba bk bf bo)]
  wo : Whole W bo 40 #[.slice (some ⟨g, 0, none⟩) h.many h.many]
  map : ∃ l, MapAt stepV W Mk l ∧ ∀ x, getK l x = (K x).map Value.bool
  row : Row W g (h.many * 2) f
  lt : g < W.heap.size
  mi : MI h m K U
  rg : ∀ i, i < h.many → RgOk (U i) (f (i * 2)) (f (i * 2 + 1))
/-- Where the search's blocks lie: those that it writes are not those that it reads. -/
structure GD (ba bk bf bo b M Mk g : Nat) : Prop where
  nk : b ≠ Mk ∧ M ≠ Mk ∧ ba ≠ Mk ∧ bk ≠ Mk ∧ bf ≠ Mk ∧ bo ≠ Mk
  ng : b ≠ g ∧ M ≠ g ∧ ba ≠ g ∧ bk ≠ g ∧ bf ≠ g ∧ bo ≠ g
  kg : Mk ≠ g
section
variable {ba bk bf bo b M Mk g : Nat} {h : Head} {m : List (List UInt8)} {W W' : World} {K K' : Int × Int × Int → Option Bool} {U U' : Nat → Nat → Prop} {f f' : Nat → Int}
theorem GS.mk_lt (s : GS ba bk bf bo b M Mk g h m W K U f) : Mk < W.heap.size := by
  obtain ⟨l, h1, _⟩ := s.map
  exact h1.lt
theorem GS.below (s : GS ba bk bf bo b M Mk g h m W K U f) (hb : Below W.heap.size W W') : GS ba bk bf bo b M Mk g h m W' K U f :=
  ⟨s.ar.below hb, s.wa.below hb s.wa.lt, s.wk.below hb s.wk.lt, s.wf.below hb s.wf.lt, s.wo.below hb s.wo.lt, by
    obtain ⟨l, h1, h2⟩ := s.map
    exact ⟨l, h1.keep (hb.block Mk h1.lt), h2⟩, s.row.below hb, by have := s.lt; have := hb.size; omega, s.mi, s.rg⟩
theorem GS.put (s : GS ba bk bf bo b M Mk g h m W K U f) (d : GD ba bk bf bo b M Mk g) {k r s' : Nat} {v : Bool} (hk : k < h.many) (hb : v = goB h m (h.many - k) k r s')
    (hc : v = true → ∀ n s2, n ∈ readsR h k r → after h m k s' n = some s2 → goB h m (h.many - (k + 1)) (k + 1) n s2 = true → U k n ∧ (k + 1 < h.many → K (stK (k + 1) n s2) = some true)) :
    ∃ W', (Instr.mapUpdate 137 (.map (some Mk)) (stepV (stK k r s')) (.bool v)).run Try.prog W = .ok () W' ∧ GS ba bk bf bo b M Mk g h m W' (updK K (stK k r s') v) U f ∧ Else (XG Mk g) W W' := by
  obtain ⟨l, h1, h2⟩ := s.map
  obtain ⟨o, h3, h4⟩ := h1.put kl140 (stK k r s') (.bool v)
  have he : Else (fun k => k = Mk) W (W.putObj Mk o) := ⟨⟨rfl, rfl, rfl, by simp [World.putObj], fun k hk => by omega⟩, fun k _ hx => World.putObj_heap_other hx⟩
  refine ⟨_, h3, ⟨s.ar.keep he d.nk.1 d.nk.2.1, he.whole d.nk.2.2.1 s.wa, he.whole d.nk.2.2.2.1 s.wk, he.whole d.nk.2.2.2.2.1 s.wf, he.whole d.nk.2.2.2.2.2 s.wo, ⟨_, h4, fun x => ?_⟩, he.row (fun e => d.kg e.symm) s.row, by have := s.lt; have := he.size; omega, s.mi.put hk hb hc, s.rg⟩, he.mono (fun _ _ e => .inl e)⟩
  rw [getK_put, h2]
  unfold updK
  split <;> rfl
theorem GS.take (s : GS ba bk bf bo b M Mk g h m W K U f) (d : GD ba bk bf bo b M Mk g) {k n : Nat} (hk : k < h.many) (hn : n ∈ goesAt h m k) {lo hi : Int} (hlo : lo = min (f (k * 2)) n) (hhi : hi = max (f (k * 2 + 1)) n) :
    GS ba bk bf bo b M Mk g h m ((W.setCell ⟨g, k * 2, none⟩ (.int .i64 lo)).setCell ⟨g, k * 2 + 1, none⟩ (.int .i64 hi)) K (updU U k n) (upd (upd f (k * 2) lo) (k * 2 + 1) hi) := by
  have he : Else (fun k => k = g) W ((W.setCell ⟨g, k * 2, none⟩ (.int .i64 lo)).setCell ⟨g, k * 2 + 1, none⟩ (.int .i64 hi)) := ((Else.refl (fun k => k = g) W).setCell (p := ⟨g, k * 2, none⟩) (.inl rfl) _).setCell (p := ⟨g, k * 2 + 1, none⟩) (.inl rfl) _
  refine ⟨s.ar.keep he d.ng.1 d.ng.2.1, he.whole d.ng.2.2.1 s.wa, he.whole d.ng.2.2.2.1 s.wk, he.whole d.ng.2.2.2.2.1 s.wf, he.whole d.ng.2.2.2.2.2 s.wo, ?_, (s.row.set (by omega) lo).set (by omega) hi, by have := s.lt; have := he.size; omega, s.mi.take hn, fun i hi2 => ?_⟩
  · obtain ⟨l, h1, h2⟩ := s.map
    exact ⟨l, h1.keep (he.block Mk h1.lt d.kg), h2⟩
  · by_cases hik : i = k
    · subst hik
      have e1 : upd (upd f (i * 2) lo) (i * 2 + 1) hi (i * 2) = lo := by simp [upd]
      have e2 : upd (upd f (i * 2) lo) (i * 2 + 1) hi (i * 2 + 1) = hi := by simp [upd]
      rw [e1, e2, hlo, hhi]
      exact (s.rg i hi2).add n (goes_le hn) (fun x => by simp [updU])
    · have e1 : upd (upd f (k * 2) lo) (k * 2 + 1) hi (i * 2) = f (i * 2) := by
        simp only [upd]
        rw [if_neg (by omega), if_neg (by omega)]
      have e2 : upd (upd f (k * 2) lo) (k * 2 + 1) hi (i * 2 + 1) = f (i * 2 + 1) := by
        simp only [upd]
        rw [if_neg (by omega), if_neg (by omega)]
      rw [e1, e2]
      exact (s.rg i hi2).congr (fun x => by simp [updU, hik])
end
end Go.Proofs.YtmdlmmfbcnkanaaR
namespace Go.Proofs.YtmdlmmfbcnkanaaR
open Go.RowKit Go.Shelf
theorem low_high (h : Head) {k r : Nat} (hr : r ≤ 99) : lowR h k r ≤ highR h k r := by
  unfold lowR highR
  split <;> omega
noncomputable def opsGo0 : Array Oper := (Try.f98.body.bind (regionOf 0)).getD #[]
noncomputable def opsGo1 : Array Oper := (Try.f98.body.bind (regionOf 1)).getD #[]
noncomputable def opsGo2 : Array Oper := (Try.f98.body.bind (regionOf 2)).getD #[]
noncomputable def opsGo3 : Array Oper := (Try.f98.body.bind (regionOf 3)).getD #[]
noncomputable def opsGo4 : Array Oper := (Try.f98.body.bind (regionOf 4)).getD #[]
noncomputable def opsGo5 : Array Oper := (Try.f98.body.bind (regionOf 5)).getD #[]
noncomputable def opsGo6 : Array Oper := (Try.f98.body.bind (regionOf 6)).getD #[]
noncomputable def opsGo7 : Array Oper := (Try.f98.body.bind (regionOf 7)).getD #[]
noncomputable def opsGo8 : Array Oper := (Try.f98.body.bind (regionOf 8)).getD #[]
noncomputable def opsGo9 : Array Oper := (Try.f98.body.bind (regionOf 9)).getD #[]
noncomputable def opsGo10 : Array Oper := (Try.f98.body.bind (regionOf 10)).getD #[]
noncomputable def opsGo11 : Array Oper := (Try.f98.body.bind (regionOf 11)).getD #[]
noncomputable def opsGo12 : Array Oper := (Try.f98.body.bind (regionOf 12)).getD #[]
noncomputable def opsGo13 : Array Oper := (Try.f98.body.bind (regionOf 13)).getD #[]
noncomputable def opsGo14 : Array Oper := (Try.f98.body.bind (regionOf 14)).getD #[]
noncomputable def opsGo15 : Array Oper := (Try.f98.body.bind (regionOf 15)).getD #[]
noncomputable def opsGo16 : Array Oper := (Try.f98.body.bind (regionOf 16)).getD #[]
noncomputable def go_i : Code := (.seq (.region 11 opsGo11 false) (.cond (.tmp 56) (.seq (.region 12 opsGo12 false) (.seq (.region 13 opsGo13 true) (.region 14 opsGo14 false))) .skip))
noncomputable def go_l : Code := (.seq (.seq (.region 8 opsGo8 false) (.cond (.tmp 41) .skip (.exit 0))) (.seq (.block 1 (.seq (.region 10 opsGo10 false) go_i)) (.region 9 opsGo9 false)))
noncomputable def go_e : Code := (.seq (.region 15 opsGo15 false) (.seq (.region 16 opsGo16 false) .ret))
noncomputable def go_c : Code := (.seq (.region 6 opsGo6 false) (.seq (.seq (.region 7 opsGo7 false) (.block 0 (.loop go_l))) go_e))
noncomputable def go_b : Code := (.seq (.region 3 opsGo3 false) (.seq (.seq (.region 4 opsGo4 false) (.cond (.tmp 30) (.seq (.region 5 opsGo5 false) .ret) .skip)) go_c))
noncomputable def code98 : Code := (.seq (.region 0 opsGo0 false) (.seq (.seq (.region 1 opsGo1 true) (.cond (.tmp 23) (.seq (.region 2 opsGo2 false) .ret) .skip)) go_b))
theorem body98 : Try.f98.body = some code98 := by kernel_rfl
section
variable {ba bk bf bo b M Mk g : Nat} {h : Head} {m : List (List UInt8)}
/-- How the search from a step ends. -/
abbrev GoP (ba bk bf bo b M Mk g : Nat) (h : Head) (m : List (List UInt8)) (W : World) (k r s : Nat) (Kn : Int × Int × Int → Option Bool) (U : Nat → Nat → Prop) : Ending → World → Prop := fun e w' =>
  ∃ v Kn' U' f', e = .returned (.bool v) ∧ v = goB h m (h.many - k) k r s ∧ GS ba bk bf bo b M Mk g h m w' Kn' U' f' ∧ (∀ x y, Kn x = some y → Kn' x = some y) ∧ (∀ i n, U i n → U' i n) ∧ (k < h.many → Kn' (stK k r s) = some v) ∧ Else (XG Mk g) W w'
abbrev ptr (b : Nat) : Value := .pointer (some ⟨b, 0, none⟩)
attribute [local irreducible] AnyK StepK
set_option maxHeartbeats 400000 in
theorem go_top (d : GD ba bk bf bo b M Mk g) (hh : HeadB h) {k r s : Nat} (hk : k ≤ h.many) (hr : r ≤ 99) (hs : s ≤ 99) (W : World) {Kn : Int × Int × Int → Option Bool} {U : Nat → Nat → Prop} {f : Nat → Int} (gs : GS ba bk bf bo b M Mk g h m W Kn U f)
    (hgo : k < h.many → Kn (stK k r s) = none → ∀ (a1 : Act) (W1 : World) (b5 : Nat), GS ba bk bf bo b M Mk g h m W1 Kn U f → Whole W1 b5 140 #[.int .i64 ((k : Int) - 1), .int .i64 (r : Int), .int .i64 (s : Int)] → W.heap.size ≤ b5 → Mk < b5 → g < b5 → Else (XG Mk g) W W1 → a1.tmps.size = 84 → a1.defers = [] → a1.eval (.tmp 1) = ptr ba → a1.eval (.tmp 2) = ptr bk → a1.eval (.tmp 3) = ptr bf → a1.eval (.tmp 4) = ptr bo → a1.eval (.tmp 5) = ptr b5 → a1.eval (.tmp 7) = .bool false →
      go_c.wpIn Fence.wide 5 Try.prog (bodyPost Try.prog Try.f98 (GoP ba bk bf bo b M Mk g h m W k r s Kn U)) a1 W1) :
    Calls Try.prog 98 #[stepV (stK k r s), ptr ba, ptr bk, ptr bf, ptr bo] W (GoP ba bk bf bo b M Mk g h m W k r s Kn U) := by
  have hm := hh.many
  have hMk := gs.mk_lt
  have hg := gs.lt
  refine (callsIn_wide (n := 5)).1 (callsIn_of_wp Try.func98 body98 trivial ?_ rfl)
  obtain ⟨a, ha⟩ : ∃ a : Act, a = { tmps := #[stepV (stK k r s), ptr ba, ptr bk, ptr bf, ptr bo] ++ Array.replicate (Try.f98.ntmps - (#[stepV (stK k r s), ptr ba, ptr bk, ptr bf, ptr bo] : Array Value).size) undef, defers := [] } := ⟨_, rfl⟩
  have hsz : a.tmps.size = 84 := by rw [ha]; simp [Try.ntmps98]
  have t0 : a.eval (.tmp 0) = stepV (stK k r s) := by rw [ha]; simp [Act.eval]
  have t1 : a.eval (.tmp 1) = ptr ba := by rw [ha]; simp [Act.eval]
  have t2 : a.eval (.tmp 2) = ptr bk := by rw [ha]; simp [Act.eval]
  have t3 : a.eval (.tmp 3) = ptr bf := by rw [ha]; simp [Act.eval]
  have t4 : a.eval (.tmp 4) = ptr bo := by rw [ha]; simp [Act.eval]
  have hd_a : a.defers = [] := by rw [ha]
  rw [← ha]
  clear ha
  unfold code98
  simp only [stepV, stK] at t0
  refine wpIn_seq (region_p 2 ?_)
  intro K hK
  refine ListK.box (i := 0) (u := .agg #[.int .i64 ((k : Int) - 1), .int .i64 (r : Int), .int .i64 (s : Int)]) rfl (by simp [t0]) (bx140 W _ _ _) ?_
  refine ListK.assign (i := 1) (v := .bool false) rfl (by simp) ?_
  refine ListK.done (hK _ _ ?_)
  clear hK K
  have w5 := Whole.new W 140 #[.int .i64 ((k : Int) - 1), .int .i64 (r : Int), .int .i64 (s : Int)]
  have hb_b5 : Below W.heap.size W (W.alloc (.cells #[.int .i64 ((k : Int) - 1), .int .i64 (r : Int), .int .i64 (s : Int)] 140)) := (Below.refl _ W).alloc (Nat.le_refl _) _
  have hB := hb_b5
  replace gs := gs.below hb_b5
  generalize hq_b5 : W.heap.size = b5 at *
  generalize W.alloc (.cells #[.int .i64 ((k : Int) - 1), .int .i64 (r : Int), .int .i64 (s : Int)] 140) = W1 at *
  have he1 : Else (XG Mk g) W W1 := Else.of_below _ (by rw [hq_b5]; exact hB)
  generalize hA : Act.put _ _ _ = a1
  have hz_a1 : a1.tmps.size = 84 := by rw [← hA]; simp only [size_put, hsz]
  have u1 : a1.eval (.tmp 1) = .pointer (some ⟨ba, 0, none⟩) := by rw [← hA]; exact (by simp [t1])
  have u2 : a1.eval (.tmp 2) = .pointer (some ⟨bk, 0, none⟩) := by rw [← hA]; exact (by simp [t2])
  have u3 : a1.eval (.tmp 3) = .pointer (some ⟨bf, 0, none⟩) := by rw [← hA]; exact (by simp [t3])
  have u4 : a1.eval (.tmp 4) = .pointer (some ⟨bo, 0, none⟩) := by rw [← hA]; exact (by simp [t4])
  have u5 : a1.eval (.tmp 5) = .pointer (some ⟨b5, 0, none⟩) := by rw [← hA]; exact (by simp [hsz])
  have hd_a1 : a1.defers = [] := by rw [← hA]; simp only [defers_put, hd_a]
  clear hA
  refine wpIn_seq (wpIn_seq ?_)
  have hbd := (Below.refl W1.heap.size W1).drew
  replace gs := gs.below hbd
  replace w5 := w5.below hbd w5.lt
  refine region_K (KpR (fun w : World => Whole w b5 140 #[.int .i64 ((k : Int) - 1), .int .i64 (r : Int), .int .i64 (s : Int)] ∧ Whole w ba 90 #[.pointer (some ⟨b, 0, none⟩)] ∧ Whole w b 95 #[.int .i64 (h.many : Int), .int .i64 (h.width : Int), .int .i64 (h.step : Int), .map (some M)]) (fun _ => false)) (wideF_plain _) (by kernel_rfl) Try.mixed ?_
  change AnyK _ _ _ _ 9 (Array.replicate 9 false) _ _
  have hR : (fun w : World => Whole w b5 140 #[.int .i64 ((k : Int) - 1), .int .i64 (r : Int), .int .i64 (s : Int)] ∧ Whole w ba 90 #[.pointer (some ⟨b, 0, none⟩)] ∧ Whole w b 95 #[.int .i64 (h.many : Int), .int .i64 (h.width : Int), .int .i64 (h.step : Int), .map (some M)]) W1.drew := ⟨w5, gs.wa, gs.ar.whole⟩
  refine AnyK.field (i := 0) may_o (u := .pointer (some ⟨b5, 0, none⟩)) (v := .pointer (some ⟨b5, 0, none⟩)) (by simp [u5]) (fun w => fa140_0 w) hR ?_
  refine AnyK.load (i := 1) may_o (p := ⟨b5, 0, none⟩) (v := .int .i64 ((k : Int) - 1)) (by simp [hz_a1]) (fun w hw => ld3 (hw.1.cell 0)) hR ?_
  refine AnyK.load (i := 2) may_o (p := ⟨ba, 0, none⟩) (v := .pointer (some ⟨b, 0, none⟩)) (by simp [u1]) (fun w hw => ld90 (hw.2.1.cell 0)) hR ?_
  refine AnyK.nilCheck (i := 3) may_o (p := ⟨b, 0, none⟩) (by simp [hz_a1]) hR ?_
  refine AnyK.field (i := 4) may_o (u := .pointer (some ⟨b, 0, none⟩)) (v := .pointer (some ⟨b, 0, none⟩)) (by simp [hz_a1]) (fun w => fa95_0 w) hR ?_
  refine AnyK.field (i := 5) may_o (u := .pointer (some ⟨b, 0, none⟩)) (v := .pointer (some ⟨b, 0, none⟩)) (by simp [hz_a1]) (fun w => fa77_0 w) hR ?_
  refine AnyK.load (i := 6) may_o (p := ⟨b, 0, none⟩) (v := .int .i64 (h.many : Int)) (by simp [hz_a1]) (fun w hw => ld3 (hw.2.2.cell 0)) hR ?_
  refine AnyK.bin (i := 7) may_o (u := .int .i64 (h.many : Int)) (u' := .int .i64 (1)) (v := .int .i64 ((h.many : Int) - 1)) (by simp [hz_a1]) (by simp) (sub3 (by omega) (by omega)) hR ?_
  refine AnyK.bin (i := 8) may_o (u := .int .i64 ((k : Int) - 1)) (u' := .int .i64 ((h.many : Int) - 1)) (v := .bool (decide ((k : Int) - 1 = (h.many : Int) - 1))) (by simp [hz_a1]) (by simp [hz_a1]) (fun w => eq3d _ _ w) hR ?_
  refine AnyK.done (by kernel_rfl) ?_
  have he2 : Else (XG Mk g) W W1.drew := he1.drew
  generalize W1.drew = W2 at *
  generalize hA : Act.put _ _ _ = a2
  have hz_a2 : a2.tmps.size = 84 := by rw [← hA]; simp only [size_put, hz_a1]
  have v1 : a2.eval (.tmp 1) = .pointer (some ⟨ba, 0, none⟩) := by rw [← hA]; exact (by simp [u1])
  have v2 : a2.eval (.tmp 2) = .pointer (some ⟨bk, 0, none⟩) := by rw [← hA]; exact (by simp [u2])
  have v3 : a2.eval (.tmp 3) = .pointer (some ⟨bf, 0, none⟩) := by rw [← hA]; exact (by simp [u3])
  have v4 : a2.eval (.tmp 4) = .pointer (some ⟨bo, 0, none⟩) := by rw [← hA]; exact (by simp [u4])
  have v5 : a2.eval (.tmp 5) = .pointer (some ⟨b5, 0, none⟩) := by rw [← hA]; exact (by simp [u5])
  have v23 : a2.eval (.tmp 23) = .bool (decide ((k : Int) - 1 = (h.many : Int) - 1)) := by rw [← hA]; exact (by simp [hz_a1])
  have hd_a2 : a2.defers = [] := by rw [← hA]; simp only [defers_put, hd_a1]
  clear hA
  by_cases hkm : k = h.many
  · have hd : decide ((k : Int) - 1 = (h.many : Int) - 1) = true := by simp; omega
    rw [hd] at v23
    refine wpIn_cond (t := true) v23 ?_
    refine wpIn_seq (region_p 1 ?_)
    intro K hK
    refine ListK.assign (i := 0) (v := .bool true) rfl (by simp) ?_
    refine ListK.done (hK _ _ (wpIn_ret ?_))
    refine bodyPost_ret (v := .bool true) (res1 Try.results98 (by simp [hz_a2])) (by simp only [defers_put, hd_a2]) ⟨true, Kn, U, f, rfl, ?_, gs, fun _ _ h => h, fun _ _ h => h, fun h => absurd h (by omega), he2⟩
    rw [hkm, Nat.sub_self]
    rfl
  · have hd : decide ((k : Int) - 1 = (h.many : Int) - 1) = false := by simp; omega
    rw [hd] at v23
    refine wpIn_cond (t := false) v23 (wpIn_skip ?_)
    unfold go_b
    obtain ⟨l, hl1, hl2⟩ := gs.map
    have hlook := hl1.look2 kl140 (stK k r s) zv4
    rw [hl2] at hlook
    cases hKn : Kn (stK k r s) with
    | some y =>
      rw [hKn] at hlook
      refine wpIn_seq (region_p 8 ?_)
      intro K hK
      refine ListK.load (i := 0) (p := ⟨bk, 0, none⟩) (v := .map (some Mk)) rfl (by simp [v2]) (ld137 (gs.wk.cell 0)) ?_
      refine ListK.load (i := 1) (p := ⟨b5, 0, none⟩) (v := .agg #[.int .i64 ((k : Int) - 1), .int .i64 (r : Int), .int .i64 (s : Int)]) rfl (by simp [v5]) (ld140 ⟨w5.cell 0, w5.cell 1, w5.cell 2⟩) ?_
      refine ListK.look2 (i := 2) (u := .map (some Mk)) (u' := stepV (stK k r s)) rfl (by simp [hz_a2]) (by simp [stK, hz_a2]) hlook ?_
      refine ListK.move (i := 3) (v := .tuple #[.bool y, .bool true]) rfl (by simp [hz_a2]) ?_
      refine ListK.extract (i := 4) (u := .tuple #[.bool y, .bool true]) (v := .bool y) rfl (by simp [hz_a2]) (ex0 _ _ _) ?_
      refine ListK.extract (i := 5) (u := .tuple #[.bool y, .bool true]) (v := .bool true) rfl (by simp [hz_a2]) (ex1 _ _ _) ?_
      refine ListK.assign (i := 6) (v := .bool y) rfl (by simp [hz_a2]) ?_
      refine ListK.assign (i := 7) (v := .bool true) rfl (by simp [hz_a2]) ?_
      refine ListK.done (hK _ _ ?_)
      clear hK K
      generalize hA : Act.put _ _ _ = a3
      have hz_a3 : a3.tmps.size = 84 := by rw [← hA]; simp only [size_put, hz_a2]
      have q7 : a3.eval (.tmp 7) = .bool y := by rw [← hA]; exact (by simp [hz_a2])
      have q8 : a3.eval (.tmp 8) = .bool true := by rw [← hA]; exact (by simp [hz_a2])
      have hd_a3 : a3.defers = [] := by rw [← hA]; simp only [defers_put, hd_a2]
      clear hA
      refine wpIn_seq (wpIn_seq (region_p 1 ?_))
      intro K hK
      refine ListK.move (i := 0) (v := .bool true) rfl (by simp [q8]) ?_
      refine ListK.done (hK _ _ ?_)
      clear hK K
      refine wpIn_cond (t := true) (by simp [hz_a3]) ?_
      refine wpIn_seq (region_p 2 ?_)
      intro K hK
      refine ListK.move (i := 0) (v := .bool y) rfl (by simp [q7]) ?_
      refine ListK.assign (i := 1) (v := .bool y) rfl (by simp [hz_a3]) ?_
      refine ListK.done (hK _ _ (wpIn_ret ?_))
      exact bodyPost_ret (v := .bool y) (res1 Try.results98 (by simp [hz_a3])) (by simp only [defers_put, hd_a3]) ⟨y, Kn, U, f, rfl, (gs.mi.ok k r s y hKn).2, gs, fun _ _ h => h, fun _ _ h => h, fun _ => hKn, he2⟩
    | none =>
      rw [hKn] at hlook
      refine wpIn_seq (region_p 8 ?_)
      intro K hK
      refine ListK.load (i := 0) (p := ⟨bk, 0, none⟩) (v := .map (some Mk)) rfl (by simp [v2]) (ld137 (gs.wk.cell 0)) ?_
      refine ListK.load (i := 1) (p := ⟨b5, 0, none⟩) (v := .agg #[.int .i64 ((k : Int) - 1), .int .i64 (r : Int), .int .i64 (s : Int)]) rfl (by simp [v5]) (ld140 ⟨w5.cell 0, w5.cell 1, w5.cell 2⟩) ?_
      refine ListK.look2 (i := 2) (u := .map (some Mk)) (u' := stepV (stK k r s)) rfl (by simp [hz_a2]) (by simp [stK, hz_a2]) hlook ?_
      refine ListK.move (i := 3) (v := .tuple #[.bool false, .bool false]) rfl (by simp [hz_a2]) ?_
      refine ListK.extract (i := 4) (u := .tuple #[.bool false, .bool false]) (v := .bool false) rfl (by simp [hz_a2]) (ex0 _ _ _) ?_
      refine ListK.extract (i := 5) (u := .tuple #[.bool false, .bool false]) (v := .bool false) rfl (by simp [hz_a2]) (ex1 _ _ _) ?_
      refine ListK.assign (i := 6) (v := .bool false) rfl (by simp [hz_a2]) ?_
      refine ListK.assign (i := 7) (v := .bool false) rfl (by simp [hz_a2]) ?_
      refine ListK.done (hK _ _ ?_)
      clear hK K
      generalize hA : Act.put _ _ _ = a3
      have hz_a3 : a3.tmps.size = 84 := by rw [← hA]; simp only [size_put, hz_a2]
      have q1 : a3.eval (.tmp 1) = .pointer (some ⟨ba, 0, none⟩) := by rw [← hA]; exact (by simp [v1])
      have q2 : a3.eval (.tmp 2) = .pointer (some ⟨bk, 0, none⟩) := by rw [← hA]; exact (by simp [v2])
      have q3 : a3.eval (.tmp 3) = .pointer (some ⟨bf, 0, none⟩) := by rw [← hA]; exact (by simp [v3])
      have q4 : a3.eval (.tmp 4) = .pointer (some ⟨bo, 0, none⟩) := by rw [← hA]; exact (by simp [v4])
      have q5 : a3.eval (.tmp 5) = .pointer (some ⟨b5, 0, none⟩) := by rw [← hA]; exact (by simp [v5])
      have q7 : a3.eval (.tmp 7) = .bool false := by rw [← hA]; exact (by simp [hz_a2])
      have q8 : a3.eval (.tmp 8) = .bool false := by rw [← hA]; exact (by simp [hz_a2])
      have hd_a3 : a3.defers = [] := by rw [← hA]; simp only [defers_put, hd_a2]
      clear hA
      refine wpIn_seq (wpIn_seq (region_p 1 ?_))
      intro K hK
      refine ListK.move (i := 0) (v := .bool false) rfl (by simp [q8]) ?_
      refine ListK.done (hK _ _ ?_)
      clear hK K
      refine wpIn_cond (t := false) (by simp [hz_a3]) (wpIn_skip ?_)
      generalize hA : Act.put _ _ _ = a4
      have hz_a4 : a4.tmps.size = 84 := by rw [← hA]; simp only [size_put, hz_a3]
      have r1 : a4.eval (.tmp 1) = .pointer (some ⟨ba, 0, none⟩) := by rw [← hA]; exact (by simp [q1])
      have r2 : a4.eval (.tmp 2) = .pointer (some ⟨bk, 0, none⟩) := by rw [← hA]; exact (by simp [q2])
      have r3 : a4.eval (.tmp 3) = .pointer (some ⟨bf, 0, none⟩) := by rw [← hA]; exact (by simp [q3])
      have r4 : a4.eval (.tmp 4) = .pointer (some ⟨bo, 0, none⟩) := by rw [← hA]; exact (by simp [q4])
      have r5 : a4.eval (.tmp 5) = .pointer (some ⟨b5, 0, none⟩) := by rw [← hA]; exact (by simp [q5])
      have r7 : a4.eval (.tmp 7) = .bool false := by rw [← hA]; exact (by simp [q7])
      have hd_a4 : a4.defers = [] := by rw [← hA]; simp only [defers_put, hd_a3]
      clear hA
      exact hgo (by omega) hKn a4 W2 b5 gs w5 (by omega) (by omega) (by omega) he2 hz_a4 hd_a4 r1 r2 r3 r4 r5 r7
end
end Go.Proofs.YtmdlmmfbcnkanaaR
namespace Go.Proofs.YtmdlmmfbcnkanaaR
open Go.RowKit Go.Shelf
section
variable {ba bk bf bo b M Mk g : Nat} {h : Head} {m : List (List UInt8)}
/-- What holds between two readings. -/
structure GI (ba bk bf bo b M Mk g : Nat) (h : Head) (m : List (List UInt8)) (W : World) (k r s : Nat) (Kn : Int × Int × Int → Option Bool) (U : Nat → Nat → Prop) (b5 n : Nat) (v : Bool) (W1 : World) (K1 : Int × Int × Int → Option Bool) (U1 : Nat → Nat → Prop) (f1 : Nat → Int) : Prop where
  gs : GS ba bk bf bo b M Mk g h m W1 K1 U1 f1
  w5 : Whole W1 b5 140 #[.int .i64 ((k : Int) - 1), .int .i64 (r : Int), .int .i64 (s : Int)]
  ek : ∀ x y, Kn x = some y → K1 x = some y
  eu : ∀ i n, U i n → U1 i n
  el : Else (XG Mk g) W W1
  is : v = true ↔ ∃ n' s', lowR h k r ≤ n' ∧ n' < n ∧ after h m k s n' = some s' ∧ goB h m (h.many - (k + 1)) (k + 1) n' s' = true
  cv : ∀ n' s', lowR h k r ≤ n' → n' < n → after h m k s n' = some s' → goB h m (h.many - (k + 1)) (k + 1) n' s' = true → U1 k n' ∧ (k + 1 < h.many → K1 (stK (k + 1) n' s') = some true)
/-- The frame of a round. -/
structure GF (ba bk bf bo b5 hi n : Nat) (v : Bool) (a : Act) : Prop where
  sz : a.tmps.size = 84
  df : a.defers = []
  t1 : a.eval (.tmp 1) = ptr ba
  t2 : a.eval (.tmp 2) = ptr bk
  t3 : a.eval (.tmp 3) = ptr bf
  t4 : a.eval (.tmp 4) = ptr bo
  t5 : a.eval (.tmp 5) = ptr b5
  t7 : a.eval (.tmp 7) = .bool v
  t10 : a.eval (.tmp 10) = .int .i64 (hi : Int)
  t11 : a.eval (.tmp 11) = .int .i64 (n : Int)
theorem GI.below {W : World} {k r s : Nat} {Kn : Int × Int × Int → Option Bool} {U : Nat → Nat → Prop} {b5 n : Nat} {v : Bool} {W1 W2 : World} {K1 : Int × Int × Int → Option Bool} {U1 : Nat → Nat → Prop} {f1 : Nat → Int}
    (i : GI ba bk bf bo b M Mk g h m W k r s Kn U b5 n v W1 K1 U1 f1) (hb : Below W1.heap.size W1 W2) : GI ba bk bf bo b M Mk g h m W k r s Kn U b5 n v W2 K1 U1 f1 :=
  ⟨i.gs.below hb, i.w5.below hb i.w5.lt, i.ek, i.eu, i.el.trans (Else.of_below _ hb), i.is, i.cv⟩
/-- A reading from which no series goes on. -/
theorem GI.pass {W : World} {k r s : Nat} {Kn : Int × Int × Int → Option Bool} {U : Nat → Nat → Prop} {b5 n : Nat} {v : Bool} {W1 : World} {K1 : Int × Int × Int → Option Bool} {U1 : Nat → Nat → Prop} {f1 : Nat → Int}
    (i : GI ba bk bf bo b M Mk g h m W k r s Kn U b5 n v W1 K1 U1 f1) (hn : ∀ s', after h m k s n = some s' → ¬ goB h m (h.many - (k + 1)) (k + 1) n s' = true) : GI ba bk bf bo b M Mk g h m W k r s Kn U b5 (n + 1) v W1 K1 U1 f1 := by
  refine ⟨i.gs, i.w5, i.ek, i.eu, i.el, ⟨fun hv => ?_, fun ⟨n', s', h1, h2, h3, h4⟩ => ?_⟩, fun n' s' h1 h2 h3 h4 => ?_⟩
  · obtain ⟨n', s', h1, h2, h3⟩ := i.is.1 hv
    exact ⟨n', s', h1, by omega, h3⟩
  · by_cases e : n' = n
    · subst e
      exact (hn s' h3 h4).elim
    · exact i.is.2 ⟨n', s', h1, by omega, h3, h4⟩
  · by_cases e : n' = n
    · subst e
      exact (hn s' h3 h4).elim
    · exact i.cv n' s' h1 (by omega) h3 h4
/-- A reading from which one does. -/
theorem GI.take {W : World} {k r s s2 : Nat} {Kn : Int × Int × Int → Option Bool} {U : Nat → Nat → Prop} {b5 n : Nat} {v : Bool} {W1 W2 : World} {K1 K2 : Int × Int × Int → Option Bool} {U1 U2 : Nat → Nat → Prop} {f1 f2 : Nat → Int}
    (i : GI ba bk bf bo b M Mk g h m W k r s Kn U b5 n v W1 K1 U1 f1) (hk : k < h.many) (hl : lowR h k r ≤ n) (ha : after h m k s n = some s2) (hg : goB h m (h.many - (k + 1)) (k + 1) n s2 = true) (gs : GS ba bk bf bo b M Mk g h m W2 K2 (updU U2 k n) f2)
    (h1 : ∀ x y, K1 x = some y → K2 x = some y) (h2 : ∀ i n, U1 i n → U2 i n) (h3 : k + 1 < h.many → K2 (stK (k + 1) n s2) = some true) (he : Else (XG Mk g) W1 W2) (h5 : Mk ≠ b5 ∧ g ≠ b5) :
    GI ba bk bf bo b M Mk g h m W k r s Kn U b5 (n + 1) true W2 K2 (updU U2 k n) f2 := by
  refine ⟨gs, he.whole (by rintro (e | e); exact h5.1 e.symm; exact h5.2 e.symm) i.w5, fun x y hx => h1 x y (i.ek x y hx), fun i' n' hx => .inl (h2 i' n' (i.eu i' n' hx)), i.el.trans he, ⟨fun _ => ⟨n, s2, hl, by omega, ha, hg⟩, fun _ => rfl⟩, fun n' s' e1 e2 e3 e4 => ?_⟩
  by_cases e : n' = n
  · subst e
    rw [ha] at e3
    cases e3
    exact ⟨.inr ⟨rfl, rfl⟩, h3⟩
  · obtain ⟨e5, e6⟩ := i.cv n' s' e1 (by omega) e3 e4
    exact ⟨.inl (h2 k n' e5), fun hlt => h1 _ _ (e6 hlt)⟩
theorem GI.grow {W : World} {k r s : Nat} {Kn : Int × Int × Int → Option Bool} {U : Nat → Nat → Prop} {b5 n : Nat} {v : Bool} {W1 W2 : World} {K1 K2 : Int × Int × Int → Option Bool} {U1 U2 : Nat → Nat → Prop} {f1 f2 : Nat → Int}
    (i : GI ba bk bf bo b M Mk g h m W k r s Kn U b5 n v W1 K1 U1 f1) (gs : GS ba bk bf bo b M Mk g h m W2 K2 U2 f2)
    (h1 : ∀ x y, K1 x = some y → K2 x = some y) (h2 : ∀ i n, U1 i n → U2 i n) (he : Else (XG Mk g) W1 W2) (h5 : Mk ≠ b5 ∧ g ≠ b5) : GI ba bk bf bo b M Mk g h m W k r s Kn U b5 n v W2 K2 U2 f2 :=
  ⟨gs, he.whole (by rintro (e | e); exact h5.1 e.symm; exact h5.2 e.symm) i.w5, fun x y hx => h1 x y (i.ek x y hx), fun i' n' hx => h2 i' n' (i.eu i' n' hx), i.el.trans he, i.is, fun n' s' e1 e2 e3 e4 =>
    ⟨h2 k n' (i.cv n' s' e1 e2 e3 e4).1, fun hlt => h1 _ _ ((i.cv n' s' e1 e2 e3 e4).2 hlt)⟩⟩
attribute [local irreducible] AnyK StepK
set_option maxHeartbeats 400000 in
theorem go_i_any (d : GD ba bk bf bo b M Mk g) (hh : HeadB h) {W : World} {k r s n s2 b5 b12 hi : Nat} {v : Bool} {Kn K1 : Int × Int × Int → Option Bool} {U U1 : Nat → Nat → Prop} {f1 : Nat → Int} {a : Act} {W1 : World} {Q : Exit → Act → World → Prop}
    (hk : k < h.many) (hrc : (r, s) ∈ reach h m k) (hl : lowR h k r ≤ n) (hu : n ≤ highR h k r) (ha : after h m k s n = some s2)
    (IH : ∀ W' K' U' f', GS ba bk bf bo b M Mk g h m W' K' U' f' → Calls Try.prog 98 #[.agg #[.int .i64 (k : Int), .int .i64 (n : Int), .int .i64 (s2 : Int)], ptr ba, ptr bk, ptr bf, ptr bo] W' (GoP ba bk bf bo b M Mk g h m W' (k + 1) n s2 K' U'))
    (fr : GF ba bk bf bo b5 hi n v a) (t12 : a.eval (.tmp 12) = ptr b12) (t13 : a.eval (.tmp 13) = .bool true) (gi : GI ba bk bf bo b M Mk g h m W k r s Kn U b5 n v W1 K1 U1 f1) (w12 : Whole W1 b12 140 #[.int .i64 (k : Int), .int .i64 (n : Int), .int .i64 (s2 : Int)])
    (hb5 : Mk ≠ b5 ∧ g ≠ b5) (hb12 : b12 ≠ Mk ∧ b12 ≠ g) (hQ : ∀ a' W' v' K' U' f', GF ba bk bf bo b5 hi n v' a' → GI ba bk bf bo b M Mk g h m W k r s Kn U b5 (n + 1) v' W' K' U' f' → Q .normal a' W') :
    go_i.wpIn Fence.wide 5 Try.prog Q a W1 := by
  have hn99 := high_le h k r
  have hm := hh.many
  obtain ⟨hsz, hd_a, t1, t2, t3, t4, t5, t7, t10, t11⟩ := fr
  unfold go_i
  refine wpIn_seq (region_p 6 ?_)
  intro K hK
  refine ListK.move (i := 0) (v := .bool true) rfl (by simp [t13]) ?_
  refine ListK.move (i := 1) (v := .bool true) rfl (by simp [hsz]) ?_
  refine ListK.load (i := 2) (p := ⟨bf, 0, none⟩) (v := .func (.func 98) #[] (capsG ba bk bf bo)) rfl (by simp [t3]) (ld138 (gi.gs.wf.cell 0)) ?_ (hw := wanted_g (e := 52) (b' := true) rfl (by simp [hsz]) rfl)
  refine ListK.load (i := 3) (p := ⟨b12, 0, none⟩) (v := .agg #[.int .i64 (k : Int), .int .i64 (n : Int), .int .i64 (s2 : Int)]) rfl (by simp [t12]) (ld140 ⟨w12.cell 0, w12.cell 1, w12.cell 2⟩) ?_ (hw := wanted_g (e := 52) (b' := true) rfl (by simp [hsz]) rfl)
  refine ListK.callV (i := 4) (f := 98) (caps := (capsG ba bk bf bo)) (vs := #[.agg #[.int .i64 (k : Int), .int .i64 (n : Int), .int .i64 (s2 : Int)]]) rfl (enters_of Try.func98 (by kernel_rfl) rfl) (by simp [hsz]) (by simp [hsz]) (((show Calls Try.prog 98 (#[.agg #[.int .i64 (k : Int), .int .i64 (n : Int), .int .i64 (s2 : Int)]] ++ capsG ba bk bf bo) W1 _ from IH W1 K1 U1 f1 gi.gs)).mono ?_) (hw := wanted_g (e := 52) (b' := true) rfl (by simp [hsz]) rfl)
  rintro _ W2 ⟨v2, K2, U2, f2, rfl, hv2, gs2, ek2, eu2, hk2, he2⟩
  refine ⟨_, rfl, ?_⟩
  refine ListK.pick (i := 5) (b := true) (v := .bool v2) rfl (by simp [hsz]) (by simp [hsz]) ?_
  refine ListK.done (hK _ _ ?_)
  clear hK K
  have w122 := he2.whole (by rintro (e | e); exact hb12.1 e; exact hb12.2 e) w12
  have gi2 := gi.grow gs2 ek2 eu2 he2 hb5
  generalize hA : Act.put _ _ _ = a1
  have hz_a1 : a1.tmps.size = 84 := by rw [← hA]; simp only [size_put, hsz]
  have u1 : a1.eval (.tmp 1) = .pointer (some ⟨ba, 0, none⟩) := by rw [← hA]; exact (by simp [t1])
  have u2 : a1.eval (.tmp 2) = .pointer (some ⟨bk, 0, none⟩) := by rw [← hA]; exact (by simp [t2])
  have u3 : a1.eval (.tmp 3) = .pointer (some ⟨bf, 0, none⟩) := by rw [← hA]; exact (by simp [t3])
  have u4 : a1.eval (.tmp 4) = .pointer (some ⟨bo, 0, none⟩) := by rw [← hA]; exact (by simp [t4])
  have u5 : a1.eval (.tmp 5) = .pointer (some ⟨b5, 0, none⟩) := by rw [← hA]; exact (by simp [t5])
  have u7 : a1.eval (.tmp 7) = .bool v := by rw [← hA]; exact (by simp [t7])
  have u10 : a1.eval (.tmp 10) = .int .i64 (hi : Int) := by rw [← hA]; exact (by simp [t10])
  have u11 : a1.eval (.tmp 11) = .int .i64 (n : Int) := by rw [← hA]; exact (by simp [t11])
  have u12 : a1.eval (.tmp 12) = .pointer (some ⟨b12, 0, none⟩) := by rw [← hA]; exact (by simp [t12])
  have u56 : a1.eval (.tmp 56) = .bool v2 := by rw [← hA]; exact (by simp [hsz])
  have hd_a1 : a1.defers = [] := by rw [← hA]; simp only [defers_put, hd_a]
  clear hA
  cases v2 with
  | false =>
    refine wpIn_cond (t := false) u56 (wpIn_skip ?_)
    exact hQ a1 W2 v K2 U2 f2 ⟨hz_a1, hd_a1, u1, u2, u3, u4, u5, u7, u10, u11⟩ (gi2.pass (fun s' hs' hg => by
      rw [ha] at hs'
      cases hs'
      rw [← hv2] at hg
      cases hg))
  | true =>
    refine wpIn_cond (t := true) u56 ?_
    have hrow0 := gs2.row (k * 2) (by omega)
    have hrow1 := gs2.row (k * 2 + 1) (by omega)
    refine wpIn_seq (region_p 5 ?_)
    intro K hK
    refine ListK.load (i := 0) (p := ⟨bo, 0, none⟩) (v := .slice (some ⟨g, 0, none⟩) h.many h.many) rfl (by simp [u4]) (ld40 (gs2.wo.cell 0)) ?_
    refine ListK.field (i := 1) (u := .pointer (some ⟨b12, 0, none⟩)) (v := .pointer (some ⟨b12, 0, none⟩)) rfl (by simp [u12]) (fa140_0 _) ?_
    refine ListK.load (i := 2) (p := ⟨b12, 0, none⟩) (v := .int .i64 (k : Int)) rfl (by simp [hz_a1]) (ld3 (w122.cell 0)) ?_
    refine ListK.index (i := 3) (u := .slice (some ⟨g, 0, none⟩) h.many h.many) (u' := .int .i64 (k : Int)) (v := .pointer (some ⟨g, k * 2, none⟩)) rfl (by simp [hz_a1]) (by simp [hz_a1]) (by have := ix40 (b := g) (o := 0) (c := h.many) hk W2; rwa [Nat.zero_add] at this) ?_
    refine ListK.assign (i := 4) (v := .pointer (some ⟨g, k * 2, none⟩)) rfl (by simp [hz_a1]) ?_
    refine ListK.done (hK _ _ ?_)
    clear hK K
    generalize hA : Act.put _ _ _ = a2
    have hz_a2 : a2.tmps.size = 84 := by rw [← hA]; simp only [size_put, hz_a1]
    have q1 : a2.eval (.tmp 1) = .pointer (some ⟨ba, 0, none⟩) := by rw [← hA]; exact (by simp [u1])
    have q2 : a2.eval (.tmp 2) = .pointer (some ⟨bk, 0, none⟩) := by rw [← hA]; exact (by simp [u2])
    have q3 : a2.eval (.tmp 3) = .pointer (some ⟨bf, 0, none⟩) := by rw [← hA]; exact (by simp [u3])
    have q4 : a2.eval (.tmp 4) = .pointer (some ⟨bo, 0, none⟩) := by rw [← hA]; exact (by simp [u4])
    have q5 : a2.eval (.tmp 5) = .pointer (some ⟨b5, 0, none⟩) := by rw [← hA]; exact (by simp [u5])
    have q7 : a2.eval (.tmp 7) = .bool v := by rw [← hA]; exact (by simp [u7])
    have q10 : a2.eval (.tmp 10) = .int .i64 (hi : Int) := by rw [← hA]; exact (by simp [u10])
    have q11 : a2.eval (.tmp 11) = .int .i64 (n : Int) := by rw [← hA]; exact (by simp [u11])
    have q14 : a2.eval (.tmp 14) = .pointer (some ⟨g, k * 2, none⟩) := by rw [← hA]; exact (by simp [hz_a1])
    have hd_a2 : a2.defers = [] := by rw [← hA]; simp only [defers_put, hd_a1]
    clear hA
    have hgoes : n ∈ goesAt h m k := mem_goes.2 ⟨s2, mem_reach.2 ⟨r, s, hrc, mem_reads.2 ⟨hl, hu⟩, ha⟩, hv2.symm⟩
    have hb7 : Below W2.heap.size W2 (W2.drew.alloc (.cells #[.int .i64 (f2 (k * 2)), .int .i64 (n : Int)] 3)) := (Below.refl W2.heap.size W2).drew.alloc (Nat.le_refl _) _
    have gs3 := gs2.below hb7
    have hrow03 := gs3.row (k * 2) (by omega)
    have hrow13 := gs3.row (k * 2 + 1) (by omega)
    have gs4 := gs3.take d hk hgoes rfl rfl
    have hr20 := (gs3.row.set (d := k * 2) (by omega) (min (f2 (k * 2)) (n : Int))) (k * 2 + 1) (by omega)
    refine wpIn_seq ?_
    refine region_K (KpR (fun w : World => w.cell? ⟨g, k * 2, none⟩ = some (.int .i64 (f2 (k * 2))) ∧ w.cell? ⟨g, k * 2 + 1, none⟩ = some (.int .i64 (f2 (k * 2 + 1)))) (fun j => j == 17 || j == 20)) (wideF_plain _) (by kernel_rfl) Try.mixed ?_
    change AnyK _ _ _ _ 21 (Array.replicate 21 false) _ _
    have hR : (fun w : World => w.cell? ⟨g, k * 2, none⟩ = some (.int .i64 (f2 (k * 2))) ∧ w.cell? ⟨g, k * 2 + 1, none⟩ = some (.int .i64 (f2 (k * 2 + 1)))) W2.drew := ⟨hrow0.1, hrow1.1⟩
    refine AnyK.move (i := 0) (may_free rfl (by kernel_rfl) (by kernel_rfl) (by kernel_rfl)) (v := .pointer (some ⟨g, k * 2, none⟩)) (by simp [q14]) trivial ?_
    refine AnyK.move (i := 1) (may_free rfl (by kernel_rfl) (by kernel_rfl) (by kernel_rfl)) (v := .pointer (some ⟨g, k * 2, none⟩)) (by simp [q14]) trivial ?_
    refine AnyK.move (i := 2) (may_free rfl (by kernel_rfl) (by kernel_rfl) (by kernel_rfl)) (v := .pointer (some ⟨g, k * 2, none⟩)) (by simp [q14]) trivial ?_
    refine AnyK.nilCheck (i := 3) (may_free rfl (by kernel_rfl) (by kernel_rfl) (by kernel_rfl)) (p := ⟨g, k * 2, none⟩) (by simp [hz_a2]) trivial ?_
    refine AnyK.field (i := 4) (may_free rfl (by kernel_rfl) (by kernel_rfl) (by kernel_rfl)) (u := .pointer (some ⟨g, k * 2, none⟩)) (v := .pointer (some ⟨g, k * 2, none⟩)) (by simp [hz_a2]) (fun w => fa45_0 w) trivial ?_
    refine AnyK.load (i := 5) may_o (p := ⟨g, k * 2, none⟩) (v := .int .i64 (f2 (k * 2))) (by simp [hz_a2]) (fun w hw => ld3 hw.1) hR ?_
    refine AnyK.move (i := 6) (may_free rfl (by kernel_rfl) (by kernel_rfl) (by kernel_rfl)) (v := .int .i64 (n : Int)) (by simp [q11]) trivial ?_
    refine AnyK.move (i := 9) (may_free rfl (by kernel_rfl) (by kernel_rfl) (by kernel_rfl)) (v := .pointer (some ⟨g, k * 2, none⟩)) (by simp [q14]) trivial ?_
    refine AnyK.nilCheck (i := 10) (may_free rfl (by kernel_rfl) (by kernel_rfl) (by kernel_rfl)) (p := ⟨g, k * 2, none⟩) (by simp [hz_a2]) trivial ?_
    refine AnyK.field (i := 11) (may_free rfl (by kernel_rfl) (by kernel_rfl) (by kernel_rfl)) (u := .pointer (some ⟨g, k * 2, none⟩)) (v := .pointer (some ⟨g, k * 2 + 1, none⟩)) (by simp [hz_a2]) (fun w => fa45_1 w) trivial ?_
    refine AnyK.load (i := 12) may_o (p := ⟨g, k * 2 + 1, none⟩) (v := .int .i64 (f2 (k * 2 + 1))) (by simp [hz_a2]) (fun w hw => ld3 hw.2) hR ?_
    refine AnyK.move (i := 13) (may_free rfl (by kernel_rfl) (by kernel_rfl) (by kernel_rfl)) (v := .int .i64 (n : Int)) (by simp [q11]) trivial ?_
    refine AnyK.bi2t (i := 14) (may_free rfl (by kernel_rfl) (by kernel_rfl) (by kernel_rfl)) (u := .int .i64 (f2 (k * 2 + 1))) (u2 := .int .i64 (n : Int)) (v := .int .i64 (max (f2 (k * 2 + 1)) (n : Int))) (by simp [hz_a2]) (by simp [hz_a2]) (max3 _ _ _) trivial ?_
    refine AnyK.pick1 (i := 7) (by kernel_rfl) ?_
    replace hR : (fun w : World => w.cell? ⟨g, k * 2, none⟩ = some (.int .i64 (f2 (k * 2))) ∧ w.cell? ⟨g, k * 2 + 1, none⟩ = some (.int .i64 (f2 (k * 2 + 1)))) (W2.drew.alloc (.cells #[.int .i64 (f2 (k * 2)), .int .i64 (n : Int)] 3)) := ⟨hrow03.1, hrow13.1⟩
    refine StepK.buildG (i := 7) (ps := #[(0, .int .i64 (f2 (k * 2))), (1, .int .i64 (n : Int))]) (v := .slice (some ⟨W2.heap.size, 0, none⟩) 2 2) rfl (by simp [hz_a2]) (bs22_2 _ _ W2.drew) (fun _ _ => hR) ?_
    refine AnyK.pick1 (i := 8) (by kernel_rfl) ?_
    refine StepK.call (i := 8) (f := 80) (vs := #[.slice (some ⟨W2.heap.size, 0, none⟩) 2 2]) rfl (enters_of Try.func80 (by kernel_rfl) rfl) rfl (by simp [hz_a2]) ((least_two W2.heap.size 0 2 (f2 (k * 2)) (n : Int) _ (cell_new2 W2.drew _ _ 3).1 (cell_new2 W2.drew _ _ 3).2).mono ?_)
    rintro _ _ ⟨rfl, rfl⟩
    refine ⟨_, rfl, fun _ _ => hR, ?_⟩
    refine AnyK.nilCheck (i := 15) (may_free rfl (by kernel_rfl) (by kernel_rfl) (by kernel_rfl)) (p := ⟨g, k * 2, none⟩) (by simp [hz_a2]) trivial ?_
    refine AnyK.field (i := 16) (may_free rfl (by kernel_rfl) (by kernel_rfl) (by kernel_rfl)) (u := .pointer (some ⟨g, k * 2, none⟩)) (v := .pointer (some ⟨g, k * 2, none⟩)) (by simp [hz_a2]) (fun w => fa45_0 w) trivial ?_
    refine AnyK.pick1 (i := 17) (by kernel_rfl) ?_
    refine StepK.store (i := 17) (u := .pointer (some ⟨g, k * 2, none⟩)) (u' := .int .i64 (min (f2 (k * 2)) (n : Int))) rfl (by simp [hz_a2]) (by simp [hz_a2]) (st3 hrow03.1 hrow03.2) (fun h _ => absurd h (by decide)) ?_
    refine AnyK.nilCheck (i := 18) (may_free rfl (by kernel_rfl) (by kernel_rfl) (by kernel_rfl)) (p := ⟨g, k * 2, none⟩) (by simp [hz_a2]) trivial ?_
    refine AnyK.field (i := 19) (may_free rfl (by kernel_rfl) (by kernel_rfl) (by kernel_rfl)) (u := .pointer (some ⟨g, k * 2, none⟩)) (v := .pointer (some ⟨g, k * 2 + 1, none⟩)) (by simp [hz_a2]) (fun w => fa45_1 w) trivial ?_
    refine AnyK.pick1 (i := 20) (by kernel_rfl) ?_
    refine StepK.store (i := 20) (u := .pointer (some ⟨g, k * 2 + 1, none⟩)) (u' := .int .i64 (max (f2 (k * 2 + 1)) (n : Int))) rfl (by simp [hz_a2]) (by simp [hz_a2]) (st3 hr20.1 hr20.2) (fun h _ => absurd h (by decide)) ?_
    refine AnyK.done (by kernel_rfl) ?_
    generalize hA : Act.put _ _ _ = a3
    have hz_a3 : a3.tmps.size = 84 := by rw [← hA]; simp only [size_put, hz_a2]
    have r1 : a3.eval (.tmp 1) = .pointer (some ⟨ba, 0, none⟩) := by rw [← hA]; exact (by simp [q1])
    have r2 : a3.eval (.tmp 2) = .pointer (some ⟨bk, 0, none⟩) := by rw [← hA]; exact (by simp [q2])
    have r3 : a3.eval (.tmp 3) = .pointer (some ⟨bf, 0, none⟩) := by rw [← hA]; exact (by simp [q3])
    have r4 : a3.eval (.tmp 4) = .pointer (some ⟨bo, 0, none⟩) := by rw [← hA]; exact (by simp [q4])
    have r5 : a3.eval (.tmp 5) = .pointer (some ⟨b5, 0, none⟩) := by rw [← hA]; exact (by simp [q5])
    have r7 : a3.eval (.tmp 7) = .bool v := by rw [← hA]; exact (by simp [q7])
    have r10 : a3.eval (.tmp 10) = .int .i64 (hi : Int) := by rw [← hA]; exact (by simp [q10])
    have r11 : a3.eval (.tmp 11) = .int .i64 (n : Int) := by rw [← hA]; exact (by simp [q11])
    have hd_a3 : a3.defers = [] := by rw [← hA]; simp only [defers_put, hd_a2]
    clear hA
    refine region_p 1 ?_
    intro K hK
    refine ListK.assign (i := 0) (v := .bool true) rfl (by simp) ?_
    refine ListK.done (hK _ _ ?_)
    clear hK K
    generalize hA : Act.put _ _ _ = a4
    have hz_a4 : a4.tmps.size = 84 := by rw [← hA]; simp only [size_put, hz_a3]
    have p1 : a4.eval (.tmp 1) = .pointer (some ⟨ba, 0, none⟩) := by rw [← hA]; exact (by simp [r1])
    have p2 : a4.eval (.tmp 2) = .pointer (some ⟨bk, 0, none⟩) := by rw [← hA]; exact (by simp [r2])
    have p3 : a4.eval (.tmp 3) = .pointer (some ⟨bf, 0, none⟩) := by rw [← hA]; exact (by simp [r3])
    have p4 : a4.eval (.tmp 4) = .pointer (some ⟨bo, 0, none⟩) := by rw [← hA]; exact (by simp [r4])
    have p5 : a4.eval (.tmp 5) = .pointer (some ⟨b5, 0, none⟩) := by rw [← hA]; exact (by simp [r5])
    have p7 : a4.eval (.tmp 7) = .bool true := by rw [← hA]; exact (by simp [hz_a3])
    have p10 : a4.eval (.tmp 10) = .int .i64 (hi : Int) := by rw [← hA]; exact (by simp [r10])
    have p11 : a4.eval (.tmp 11) = .int .i64 (n : Int) := by rw [← hA]; exact (by simp [r11])
    have hd_a4 : a4.defers = [] := by rw [← hA]; simp only [defers_put, hd_a3]
    clear hA
    refine hQ a4 _ true K2 _ _ ⟨hz_a4, hd_a4, p1, p2, p3, p4, p5, p7, p10, p11⟩ (gi.take hk hl ha hv2.symm gs4 ek2 eu2 hk2 ?_ hb5)
    exact he2.trans (((Else.of_below (XG Mk g) hb7).setCell (p := ⟨g, k * 2, none⟩) (.inl (.inr rfl)) _).setCell (p := ⟨g, k * 2 + 1, none⟩) (.inl (.inr rfl)) _)
end
end Go.Proofs.YtmdlmmfbcnkanaaR
namespace Go.Proofs.YtmdlmmfbcnkanaaR
open Go.RowKit Go.Shelf
section
variable {ba bk bf bo b M Mk g : Nat} {h : Head} {m : List (List UInt8)}
attribute [local irreducible] AnyK StepK
theorem stepV_next (k n s2 : Nat) : stepV (stK (k + 1) n s2) = .agg #[.int .i64 (k : Int), .int .i64 (n : Int), .int .i64 (s2 : Int)] := by simp [stK]
set_option maxHeartbeats 400000 in
theorem go_l_any (d : GD ba bk bf bo b M Mk g) (hh : HeadB h) {W : World} {k r s n b5 : Nat} {v : Bool} {Kn K1 : Int × Int × Int → Option Bool} {U U1 : Nat → Nat → Prop} {f1 : Nat → Int} {a : Act} {W1 : World} {Q : Exit → Act → World → Prop}
    (hk : k < h.many) (hr : r ≤ 99) (hs : s ≤ 99) (hrc : (r, s) ∈ reach h m k) (hl : lowR h k r ≤ n)
    (IH : ∀ n s2 W' K' U' f', n ≤ 99 → s2 ≤ 99 → (n, s2) ∈ reach h m (k + 1) → GS ba bk bf bo b M Mk g h m W' K' U' f' → Calls Try.prog 98 #[stepV (stK (k + 1) n s2), ptr ba, ptr bk, ptr bf, ptr bo] W' (GoP ba bk bf bo b M Mk g h m W' (k + 1) n s2 K' U'))
    (fr : GF ba bk bf bo b5 (highR h k r) n v a) (gi : GI ba bk bf bo b M Mk g h m W k r s Kn U b5 n v W1 K1 U1 f1) (hb5 : Mk ≠ b5 ∧ g ≠ b5)
    (hQ : n ≤ highR h k r → ∀ a' W' v' K' U' f', GF ba bk bf bo b5 (highR h k r) (n + 1) v' a' → GI ba bk bf bo b M Mk g h m W k r s Kn U b5 (n + 1) v' W' K' U' f' → Q .normal a' W')
    (hX : highR h k r < n → ∀ a', GF ba bk bf bo b5 (highR h k r) n v a' → Q (.exit 0) a' W1) :
    go_l.wpIn Fence.wide 5 Try.prog Q a W1 := by
  have hn99 := high_le h k r
  have hm := hh.many
  have fr0 := fr
  obtain ⟨hsz, hd_a, t1, t2, t3, t4, t5, t7, t10, t11⟩ := fr
  unfold go_l
  by_cases hle : n ≤ highR h k r
  · have hd : decide ((n : Int) ≤ (highR h k r : Int)) = true := by simp; omega
    refine wpIn_seq (wpIn_seq (region_p 3 ?_))
    intro K hK
    refine ListK.move (i := 0) (v := .int .i64 (n : Int)) rfl (by simp [t11]) ?_
    refine ListK.move (i := 1) (v := .int .i64 (highR h k r : Int)) rfl (by simp [t10]) ?_
    refine ListK.bin (i := 2) (u := .int .i64 (n : Int)) (u' := .int .i64 (highR h k r : Int)) (v := .bool (decide ((n : Int) ≤ (highR h k r : Int)))) rfl (by simp [hsz]) (by simp [hsz]) (leq3 _) ?_
    refine ListK.done (hK _ _ ?_)
    clear hK K
    rw [hd]
    refine wpIn_cond (t := true) (by simp [hsz]) (wpIn_skip ?_)
    generalize hA : Act.put _ _ _ = a1
    have hz_a1 : a1.tmps.size = 84 := by rw [← hA]; simp only [size_put, hsz]
    have u1 : a1.eval (.tmp 1) = .pointer (some ⟨ba, 0, none⟩) := by rw [← hA]; exact (by simp [t1])
    have u2 : a1.eval (.tmp 2) = .pointer (some ⟨bk, 0, none⟩) := by rw [← hA]; exact (by simp [t2])
    have u3 : a1.eval (.tmp 3) = .pointer (some ⟨bf, 0, none⟩) := by rw [← hA]; exact (by simp [t3])
    have u4 : a1.eval (.tmp 4) = .pointer (some ⟨bo, 0, none⟩) := by rw [← hA]; exact (by simp [t4])
    have u5 : a1.eval (.tmp 5) = .pointer (some ⟨b5, 0, none⟩) := by rw [← hA]; exact (by simp [t5])
    have u7 : a1.eval (.tmp 7) = .bool v := by rw [← hA]; exact (by simp [t7])
    have u10 : a1.eval (.tmp 10) = .int .i64 (highR h k r : Int) := by rw [← hA]; exact (by simp [t10])
    have u11 : a1.eval (.tmp 11) = .int .i64 (n : Int) := by rw [← hA]; exact (by simp [t11])
    have hd_a1 : a1.defers = [] := by rw [← hA]; simp only [defers_put, hd_a]
    clear hA
    refine wpIn_seq (wpIn_block ?_)
    have hw5 := gi.w5
    have haf := after_any k r s n W1 gi.gs.ar hh hk (by omega) hs
    simp only [stepV, stK] at haf
    have hend : ∀ a' W' v' K' U' f', GF ba bk bf bo b5 (highR h k r) n v' a' → GI ba bk bf bo b M Mk g h m W k r s Kn U b5 (n + 1) v' W' K' U' f' → (Code.region 9 opsGo9 false).wpIn Fence.wide 5 Try.prog Q a' W' := by
      intro a' W' v' K' U' f' ⟨hsz, hd_a', t1, t2, t3, t4, t5, t7, t10, t11⟩ gi'
      refine region_p 3 ?_
      intro K hK
      refine ListK.move (i := 0) (v := .int .i64 (n : Int)) rfl (by simp [t11]) ?_
      refine ListK.bin (i := 1) (u := .int .i64 (n : Int)) (u' := .int .i64 1) (v := .int .i64 ((n + 1 : Nat) : Int)) rfl (by simp [hsz]) (by simp) (add3 (by omega) (by omega) _) ?_
      refine ListK.assign (i := 2) (v := .int .i64 ((n + 1 : Nat) : Int)) rfl (by simp [hsz]) ?_
      refine ListK.done (hK _ _ ?_)
      clear hK K
      exact hQ hle _ W' v' K' U' f' ⟨(by simp only [size_put, hsz]), (by simp only [defers_put, hd_a']), (by simp [t1]), (by simp [t2]), (by simp [t3]), (by simp [t4]), (by simp [t5]), (by simp [t7]), (by simp [t10]), (by simp [hsz])⟩ gi'
    cases ha : after h m k s n with
    | some s2 =>
      have hs2 := after_le ha (by omega)
      have hav : afterV h m k s n = .tuple #[.agg #[.int .i64 (k : Int), .int .i64 (n : Int), .int .i64 (s2 : Int)], .bool true] := by
        unfold afterV
        rw [ha]
        simp [stK]
      rw [hav] at haf
      refine wpIn_seq (region_p 10 ?_)
      intro K hK
      refine ListK.load (i := 0) (p := ⟨ba, 0, none⟩) (v := .pointer (some ⟨b, 0, none⟩)) rfl (by simp [u1]) (ld90 (gi.gs.wa.cell 0)) ?_
      refine ListK.load (i := 1) (p := ⟨b5, 0, none⟩) (v := .agg #[.int .i64 ((k : Int) - 1), .int .i64 (r : Int), .int .i64 (s : Int)]) rfl (by simp [u5]) (ld140 ⟨hw5.cell 0, hw5.cell 1, hw5.cell 2⟩) ?_
      refine ListK.move (i := 2) (v := .int .i64 (n : Int)) rfl (by simp [u11]) ?_
      refine ListK.call (i := 3) (vs := #[.pointer (some ⟨b, 0, none⟩), .agg #[.int .i64 ((k : Int) - 1), .int .i64 (r : Int), .int .i64 (s : Int)], .int .i64 (n : Int)]) rfl (enters_of Try.func100 (by kernel_rfl) rfl) (by simp [hz_a1]) ((haf).mono ?_)
      rintro _ W2 ⟨rfl, hb2⟩
      refine ⟨_, rfl, ?_⟩
      refine ListK.move (i := 4) (v := .tuple #[.agg #[.int .i64 (k : Int), .int .i64 (n : Int), .int .i64 (s2 : Int)], .bool true]) rfl (by simp [hz_a1]) ?_
      refine ListK.extract (i := 5) (u := .tuple #[.agg #[.int .i64 (k : Int), .int .i64 (n : Int), .int .i64 (s2 : Int)], .bool true]) (v := .agg #[.int .i64 (k : Int), .int .i64 (n : Int), .int .i64 (s2 : Int)]) rfl (by simp [hz_a1]) (ex0 _ _ _) ?_
      refine ListK.extract (i := 6) (u := .tuple #[.agg #[.int .i64 (k : Int), .int .i64 (n : Int), .int .i64 (s2 : Int)], .bool true]) (v := .bool true) rfl (by simp [hz_a1]) (ex1 _ _ _) ?_
      refine ListK.alloc (i := 7) rfl (al140 W2) ?_
      refine ListK.store (i := 8) (u := .pointer (some ⟨W2.heap.size, 0, none⟩)) (u' := .agg #[.int .i64 (k : Int), .int .i64 (n : Int), .int .i64 (s2 : Int)]) rfl (by simp [hz_a1]) (by simp [hz_a1]) (st140 (Whole.new W2 140 #[.int .i64 0, .int .i64 0, .int .i64 0])) ?_
      refine ListK.assign (i := 9) (v := .bool true) rfl (by simp [hz_a1]) ?_
      refine ListK.done (hK _ _ ?_)
      clear hK K
      have hb3 : Below W2.heap.size W2 (((((W2.alloc (.cells #[.int .i64 0, .int .i64 0, .int .i64 0] 140)).setCell ⟨W2.heap.size, 0, none⟩ (.int .i64 (k : Int))).setCell ⟨W2.heap.size, 1, none⟩ (.int .i64 (n : Int))).setCell ⟨W2.heap.size, 2, none⟩ (.int .i64 (s2 : Int)))) := ((((Below.refl _ W2).alloc (Nat.le_refl _) _).setCell (p := ⟨W2.heap.size, 0, none⟩) (Nat.le_refl _) _).setCell (p := ⟨W2.heap.size, 1, none⟩) (Nat.le_refl _) _).setCell (p := ⟨W2.heap.size, 2, none⟩) (Nat.le_refl _) _
      have w12 := (((Whole.new W2 140 #[.int .i64 0, .int .i64 0, .int .i64 0]).set 0 (.int .i64 (k : Int))).set 1 (.int .i64 (n : Int))).set 2 (.int .i64 (s2 : Int))
      have gi2 := gi.below hb2
      have hMk := gi2.gs.mk_lt
      have hg := gi2.gs.lt
      have gi3 := gi2.below hb3
      generalize hq12 : W2.heap.size = b12 at *
      generalize ((((W2.alloc (.cells #[.int .i64 0, .int .i64 0, .int .i64 0] 140)).setCell ⟨b12, 0, none⟩ (.int .i64 (k : Int))).setCell ⟨b12, 1, none⟩ (.int .i64 (n : Int))).setCell ⟨b12, 2, none⟩ (.int .i64 (s2 : Int))) = W3 at *
      generalize hA : Act.put _ _ _ = a2
      have hz_a2 : a2.tmps.size = 84 := by rw [← hA]; simp only [size_put, hz_a1]
      have q1 : a2.eval (.tmp 1) = .pointer (some ⟨ba, 0, none⟩) := by rw [← hA]; exact (by simp [u1])
      have q2 : a2.eval (.tmp 2) = .pointer (some ⟨bk, 0, none⟩) := by rw [← hA]; exact (by simp [u2])
      have q3 : a2.eval (.tmp 3) = .pointer (some ⟨bf, 0, none⟩) := by rw [← hA]; exact (by simp [u3])
      have q4 : a2.eval (.tmp 4) = .pointer (some ⟨bo, 0, none⟩) := by rw [← hA]; exact (by simp [u4])
      have q5 : a2.eval (.tmp 5) = .pointer (some ⟨b5, 0, none⟩) := by rw [← hA]; exact (by simp [u5])
      have q7 : a2.eval (.tmp 7) = .bool v := by rw [← hA]; exact (by simp [u7])
      have q10 : a2.eval (.tmp 10) = .int .i64 (highR h k r : Int) := by rw [← hA]; exact (by simp [u10])
      have q11 : a2.eval (.tmp 11) = .int .i64 (n : Int) := by rw [← hA]; exact (by simp [u11])
      have q12 : a2.eval (.tmp 12) = .pointer (some ⟨b12, 0, none⟩) := by rw [← hA]; exact (by simp [hz_a1])
      have q13 : a2.eval (.tmp 13) = .bool true := by rw [← hA]; exact (by simp [hz_a1])
      have hd_a2 : a2.defers = [] := by rw [← hA]; simp only [defers_put, hd_a1]
      clear hA
      refine go_i_any d hh hk hrc hl hle ha (fun W' K' U' f' gs' => ?_) ⟨hz_a2, hd_a2, q1, q2, q3, q4, q5, q7, q10, q11⟩ q12 q13 gi3 w12 hb5 ⟨by omega, by omega⟩ (fun a' W' v' K' U' f' fr' gi' => hend a' W' v' K' U' f' fr' gi')
      rw [← stepV_next]
      exact IH n s2 W' K' U' f' (by omega) hs2 (mem_reach.2 ⟨r, s, hrc, mem_reads.2 ⟨hl, hle⟩, ha⟩) gs'
    | none =>
      have hav : afterV h m k s n = .tuple #[.agg #[.int .i64 0, .int .i64 0, .int .i64 0], .bool false] := by
        unfold afterV
        rw [ha]
      rw [hav] at haf
      refine wpIn_seq (region_p 10 ?_)
      intro K hK
      refine ListK.load (i := 0) (p := ⟨ba, 0, none⟩) (v := .pointer (some ⟨b, 0, none⟩)) rfl (by simp [u1]) (ld90 (gi.gs.wa.cell 0)) ?_
      refine ListK.load (i := 1) (p := ⟨b5, 0, none⟩) (v := .agg #[.int .i64 ((k : Int) - 1), .int .i64 (r : Int), .int .i64 (s : Int)]) rfl (by simp [u5]) (ld140 ⟨hw5.cell 0, hw5.cell 1, hw5.cell 2⟩) ?_
      refine ListK.move (i := 2) (v := .int .i64 (n : Int)) rfl (by simp [u11]) ?_
      refine ListK.call (i := 3) (vs := #[.pointer (some ⟨b, 0, none⟩), .agg #[.int .i64 ((k : Int) - 1), .int .i64 (r : Int), .int .i64 (s : Int)], .int .i64 (n : Int)]) rfl (enters_of Try.func100 (by kernel_rfl) rfl) (by simp [hz_a1]) ((haf).mono ?_)
      rintro _ W2 ⟨rfl, hb2⟩
      refine ⟨_, rfl, ?_⟩
      refine ListK.move (i := 4) (v := .tuple #[.agg #[.int .i64 0, .int .i64 0, .int .i64 0], .bool false]) rfl (by simp [hz_a1]) ?_
      refine ListK.extract (i := 5) (u := .tuple #[.agg #[.int .i64 0, .int .i64 0, .int .i64 0], .bool false]) (v := .agg #[.int .i64 0, .int .i64 0, .int .i64 0]) rfl (by simp [hz_a1]) (ex0 _ _ _) ?_
      refine ListK.extract (i := 6) (u := .tuple #[.agg #[.int .i64 0, .int .i64 0, .int .i64 0], .bool false]) (v := .bool false) rfl (by simp [hz_a1]) (ex1 _ _ _) ?_
      refine ListK.alloc (i := 7) rfl (al140 W2) ?_
      refine ListK.store (i := 8) (u := .pointer (some ⟨W2.heap.size, 0, none⟩)) (u' := .agg #[.int .i64 0, .int .i64 0, .int .i64 0]) rfl (by simp [hz_a1]) (by simp [hz_a1]) (st140 (Whole.new W2 140 #[.int .i64 0, .int .i64 0, .int .i64 0])) ?_
      refine ListK.assign (i := 9) (v := .bool false) rfl (by simp [hz_a1]) ?_
      refine ListK.done (hK _ _ ?_)
      clear hK K
      have hb3 : Below W2.heap.size W2 (((((W2.alloc (.cells #[.int .i64 0, .int .i64 0, .int .i64 0] 140)).setCell ⟨W2.heap.size, 0, none⟩ (.int .i64 0)).setCell ⟨W2.heap.size, 1, none⟩ (.int .i64 0)).setCell ⟨W2.heap.size, 2, none⟩ (.int .i64 0))) := ((((Below.refl _ W2).alloc (Nat.le_refl _) _).setCell (p := ⟨W2.heap.size, 0, none⟩) (Nat.le_refl _) _).setCell (p := ⟨W2.heap.size, 1, none⟩) (Nat.le_refl _) _).setCell (p := ⟨W2.heap.size, 2, none⟩) (Nat.le_refl _) _
      have gi3 := (gi.below hb2).below hb3
      generalize ((((W2.alloc (.cells #[.int .i64 0, .int .i64 0, .int .i64 0] 140)).setCell ⟨W2.heap.size, 0, none⟩ (.int .i64 0)).setCell ⟨W2.heap.size, 1, none⟩ (.int .i64 0)).setCell ⟨W2.heap.size, 2, none⟩ (.int .i64 0)) = W3 at *
      generalize hA : Act.put _ _ _ = a2
      have hz_a2 : a2.tmps.size = 84 := by rw [← hA]; simp only [size_put, hz_a1]
      have q1 : a2.eval (.tmp 1) = .pointer (some ⟨ba, 0, none⟩) := by rw [← hA]; exact (by simp [u1])
      have q2 : a2.eval (.tmp 2) = .pointer (some ⟨bk, 0, none⟩) := by rw [← hA]; exact (by simp [u2])
      have q3 : a2.eval (.tmp 3) = .pointer (some ⟨bf, 0, none⟩) := by rw [← hA]; exact (by simp [u3])
      have q4 : a2.eval (.tmp 4) = .pointer (some ⟨bo, 0, none⟩) := by rw [← hA]; exact (by simp [u4])
      have q5 : a2.eval (.tmp 5) = .pointer (some ⟨b5, 0, none⟩) := by rw [← hA]; exact (by simp [u5])
      have q7 : a2.eval (.tmp 7) = .bool v := by rw [← hA]; exact (by simp [u7])
      have q10 : a2.eval (.tmp 10) = .int .i64 (highR h k r : Int) := by rw [← hA]; exact (by simp [u10])
      have q11 : a2.eval (.tmp 11) = .int .i64 (n : Int) := by rw [← hA]; exact (by simp [u11])
      have q13 : a2.eval (.tmp 13) = .bool false := by rw [← hA]; exact (by simp [hz_a1])
      have hd_a2 : a2.defers = [] := by rw [← hA]; simp only [defers_put, hd_a1]
      clear hA
      unfold go_i
      refine wpIn_seq (region_p 6 ?_)
      intro K hK
      refine ListK.move (i := 0) (v := .bool false) rfl (by simp [q13]) ?_
      refine ListK.move (i := 1) (v := .bool false) rfl (by simp [hz_a2]) ?_
      refine ListK.passG (i := 2) (e := 52) (b' := false) rfl rfl (by simp [hz_a2]) rfl ?_
      refine ListK.passG (i := 3) (e := 52) (b' := false) rfl rfl (by simp [hz_a2]) rfl ?_
      refine ListK.passG (i := 4) (e := 52) (b' := false) rfl rfl (by simp [hz_a2]) rfl ?_
      refine ListK.pick (i := 5) (b := false) (v := .bool false) rfl (by simp [hz_a2]) (by simp) ?_
      refine ListK.done (hK _ _ ?_)
      clear hK K
      refine wpIn_cond (t := false) (by simp [hz_a2]) (wpIn_skip ?_)
      generalize hA : Act.put _ _ _ = a3
      have hz_a3 : a3.tmps.size = 84 := by rw [← hA]; simp only [size_put, hz_a2]
      have p1 : a3.eval (.tmp 1) = .pointer (some ⟨ba, 0, none⟩) := by rw [← hA]; exact (by simp [q1])
      have p2 : a3.eval (.tmp 2) = .pointer (some ⟨bk, 0, none⟩) := by rw [← hA]; exact (by simp [q2])
      have p3 : a3.eval (.tmp 3) = .pointer (some ⟨bf, 0, none⟩) := by rw [← hA]; exact (by simp [q3])
      have p4 : a3.eval (.tmp 4) = .pointer (some ⟨bo, 0, none⟩) := by rw [← hA]; exact (by simp [q4])
      have p5 : a3.eval (.tmp 5) = .pointer (some ⟨b5, 0, none⟩) := by rw [← hA]; exact (by simp [q5])
      have p7 : a3.eval (.tmp 7) = .bool v := by rw [← hA]; exact (by simp [q7])
      have p10 : a3.eval (.tmp 10) = .int .i64 (highR h k r : Int) := by rw [← hA]; exact (by simp [q10])
      have p11 : a3.eval (.tmp 11) = .int .i64 (n : Int) := by rw [← hA]; exact (by simp [q11])
      have hd_a3 : a3.defers = [] := by rw [← hA]; simp only [defers_put, hd_a2]
      clear hA
      exact hend a3 W3 v K1 U1 f1 ⟨hz_a3, hd_a3, p1, p2, p3, p4, p5, p7, p10, p11⟩ (gi3.pass (fun s' hs' => by rw [ha] at hs'; cases hs'))
  · have hd : decide ((n : Int) ≤ (highR h k r : Int)) = false := by simp; omega
    refine wpIn_seq (wpIn_seq (region_p 3 ?_))
    intro K hK
    refine ListK.move (i := 0) (v := .int .i64 (n : Int)) rfl (by simp [t11]) ?_
    refine ListK.move (i := 1) (v := .int .i64 (highR h k r : Int)) rfl (by simp [t10]) ?_
    refine ListK.bin (i := 2) (u := .int .i64 (n : Int)) (u' := .int .i64 (highR h k r : Int)) (v := .bool (decide ((n : Int) ≤ (highR h k r : Int)))) rfl (by simp [hsz]) (by simp [hsz]) (leq3 _) ?_
    refine ListK.done (hK _ _ ?_)
    clear hK K
    rw [hd]
    refine wpIn_cond (t := false) (by simp [hsz]) (wpIn_exit ?_)
    exact hX (by omega) _ ⟨(by simp only [size_put, hsz]), (by simp only [defers_put, hd_a]), (by simp [t1]), (by simp [t2]), (by simp [t3]), (by simp [t4]), (by simp [t5]), (by simp [t7]), (by simp [t10]), (by simp [t11])⟩
end
end Go.Proofs.YtmdlmmfbcnkanaaR
namespace Go.Proofs.YtmdlmmfbcnkanaaR
open Go.RowKit Go.Shelf
section
variable {ba bk bf bo b M Mk g : Nat} {h : Head} {m : List (List UInt8)}
attribute [local irreducible] AnyK StepK
set_option maxHeartbeats 400000 in
theorem go_c_any (d : GD ba bk bf bo b M Mk g) (hh : HeadB h) {W : World} {k r s b5 : Nat} {Kn : Int × Int × Int → Option Bool} {U : Nat → Nat → Prop} {f : Nat → Int} {a1 : Act} {W1 : World}
    (hk : k < h.many) (hr : r ≤ 99) (hs : s ≤ 99) (hrc : (r, s) ∈ reach h m k)
    (IH : ∀ n s2 W' K' U' f', n ≤ 99 → s2 ≤ 99 → (n, s2) ∈ reach h m (k + 1) → GS ba bk bf bo b M Mk g h m W' K' U' f' → Calls Try.prog 98 #[stepV (stK (k + 1) n s2), ptr ba, ptr bk, ptr bf, ptr bo] W' (GoP ba bk bf bo b M Mk g h m W' (k + 1) n s2 K' U'))
    (gs : GS ba bk bf bo b M Mk g h m W1 Kn U f) (w5 : Whole W1 b5 140 #[.int .i64 ((k : Int) - 1), .int .i64 (r : Int), .int .i64 (s : Int)]) (hb5 : Mk ≠ b5 ∧ g ≠ b5) (he1 : Else (XG Mk g) W W1) (hz_a1 : a1.tmps.size = 84) (hd_a1 : a1.defers = [])
    (u1 : a1.eval (.tmp 1) = ptr ba) (u2 : a1.eval (.tmp 2) = ptr bk) (u3 : a1.eval (.tmp 3) = ptr bf) (u4 : a1.eval (.tmp 4) = ptr bo) (u5 : a1.eval (.tmp 5) = ptr b5) (u7 : a1.eval (.tmp 7) = .bool false) :
    go_c.wpIn Fence.wide 5 Try.prog (bodyPost Try.prog Try.f98 (GoP ba bk bf bo b M Mk g h m W k r s Kn U)) a1 W1 := by
  have hm := hh.many
  have hlh := low_high h (k := k) hr
  have hh99 := high_le h k r
  unfold go_c
  have hrd := readings_any k r s W1 gs.ar hh hr (by omega)
  simp only [stepV, stK] at hrd
  refine wpIn_seq (region_p 8 ?_)
  intro K hK
  refine ListK.load (i := 0) (p := ⟨ba, 0, none⟩) (v := .pointer (some ⟨b, 0, none⟩)) rfl (by simp [u1]) (ld90 (gs.wa.cell 0)) ?_
  refine ListK.load (i := 1) (p := ⟨b5, 0, none⟩) (v := .agg #[.int .i64 ((k : Int) - 1), .int .i64 (r : Int), .int .i64 (s : Int)]) rfl (by simp [u5]) (ld140 ⟨w5.cell 0, w5.cell 1, w5.cell 2⟩) ?_
  refine ListK.call (i := 2) (vs := #[.pointer (some ⟨b, 0, none⟩), .agg #[.int .i64 ((k : Int) - 1), .int .i64 (r : Int), .int .i64 (s : Int)]]) rfl (enters_of Try.func99 (by kernel_rfl) rfl) (by simp [hz_a1]) ((hrd).mono ?_)
  rintro _ W2 ⟨rfl, hb2⟩
  refine ⟨_, rfl, ?_⟩
  refine ListK.move (i := 3) (v := .tuple #[.int .i64 (lowR h k r : Int), .int .i64 (highR h k r : Int)]) rfl (by simp [hz_a1]) ?_
  refine ListK.extract (i := 4) (u := .tuple #[.int .i64 (lowR h k r : Int), .int .i64 (highR h k r : Int)]) (v := .int .i64 (lowR h k r : Int)) rfl (by simp [hz_a1]) (ex0 _ _ _) ?_
  refine ListK.extract (i := 5) (u := .tuple #[.int .i64 (lowR h k r : Int), .int .i64 (highR h k r : Int)]) (v := .int .i64 (highR h k r : Int)) rfl (by simp [hz_a1]) (ex1 _ _ _) ?_
  refine ListK.assign (i := 6) (v := .int .i64 (lowR h k r : Int)) rfl (by simp [hz_a1]) ?_
  refine ListK.assign (i := 7) (v := .int .i64 (highR h k r : Int)) rfl (by simp [hz_a1]) ?_
  refine ListK.done (hK _ _ ?_)
  clear hK K
  have gs2 := gs.below hb2
  have w52 := w5.below hb2 w5.lt
  have he2 := he1.trans (Else.of_below (XG Mk g) hb2)
  generalize hA : Act.put _ _ _ = a2
  have hz_a2 : a2.tmps.size = 84 := by rw [← hA]; simp only [size_put, hz_a1]
  have v1 : a2.eval (.tmp 1) = .pointer (some ⟨ba, 0, none⟩) := by rw [← hA]; exact (by simp [u1])
  have v2 : a2.eval (.tmp 2) = .pointer (some ⟨bk, 0, none⟩) := by rw [← hA]; exact (by simp [u2])
  have v3 : a2.eval (.tmp 3) = .pointer (some ⟨bf, 0, none⟩) := by rw [← hA]; exact (by simp [u3])
  have v4 : a2.eval (.tmp 4) = .pointer (some ⟨bo, 0, none⟩) := by rw [← hA]; exact (by simp [u4])
  have v5 : a2.eval (.tmp 5) = .pointer (some ⟨b5, 0, none⟩) := by rw [← hA]; exact (by simp [u5])
  have v7 : a2.eval (.tmp 7) = .bool false := by rw [← hA]; exact (by simp [u7])
  have v9 : a2.eval (.tmp 9) = .int .i64 (lowR h k r : Int) := by rw [← hA]; exact (by simp [hz_a1])
  have v10 : a2.eval (.tmp 10) = .int .i64 (highR h k r : Int) := by rw [← hA]; exact (by simp [hz_a1])
  have hd_a2 : a2.defers = [] := by rw [← hA]; simp only [defers_put, hd_a1]
  clear hA
  refine wpIn_seq (wpIn_seq (region_p 2 ?_))
  intro K hK
  refine ListK.move (i := 0) (v := .int .i64 (lowR h k r : Int)) rfl (by simp [v9]) ?_
  refine ListK.assign (i := 1) (v := .int .i64 (lowR h k r : Int)) rfl (by simp [hz_a2]) ?_
  refine ListK.done (hK _ _ ?_)
  clear hK K
  generalize hA : Act.put _ _ _ = a3
  have hz_a3 : a3.tmps.size = 84 := by rw [← hA]; simp only [size_put, hz_a2]
  have q1 : a3.eval (.tmp 1) = .pointer (some ⟨ba, 0, none⟩) := by rw [← hA]; exact (by simp [v1])
  have q2 : a3.eval (.tmp 2) = .pointer (some ⟨bk, 0, none⟩) := by rw [← hA]; exact (by simp [v2])
  have q3 : a3.eval (.tmp 3) = .pointer (some ⟨bf, 0, none⟩) := by rw [← hA]; exact (by simp [v3])
  have q4 : a3.eval (.tmp 4) = .pointer (some ⟨bo, 0, none⟩) := by rw [← hA]; exact (by simp [v4])
  have q5 : a3.eval (.tmp 5) = .pointer (some ⟨b5, 0, none⟩) := by rw [← hA]; exact (by simp [v5])
  have q7 : a3.eval (.tmp 7) = .bool false := by rw [← hA]; exact (by simp [v7])
  have q10 : a3.eval (.tmp 10) = .int .i64 (highR h k r : Int) := by rw [← hA]; exact (by simp [v10])
  have q11 : a3.eval (.tmp 11) = .int .i64 (lowR h k r : Int) := by rw [← hA]; exact (by simp [hz_a2])
  have hd_a3 : a3.defers = [] := by rw [← hA]; simp only [defers_put, hd_a2]
  clear hA
  refine wpIn_block (wpIn_loop (fun a W' => ∃ n v K1 U1 f1, lowR h k r ≤ n ∧ n ≤ highR h k r + 1 ∧ GF ba bk bf bo b5 (highR h k r) n v a ∧ GI ba bk bf bo b M Mk g h m W k r s Kn U b5 n v W' K1 U1 f1) (fun a _ => highR h k r + 1 - (intOf (a.eval (.tmp 11))).toNat)
    ⟨lowR h k r, false, Kn, U, f, Nat.le_refl _, by omega, ⟨hz_a3, hd_a3, q1, q2, q3, q4, q5, q7, q10, q11⟩, ⟨gs2, w52, fun _ _ h => h, fun _ _ h => h, he2, ⟨fun h => (by cases h), fun ⟨n', s', h1, h2, _⟩ => (by omega)⟩, fun n' s' h1 h2 => (by omega)⟩⟩ ?_)
  rintro b1 W3 ⟨n, v, K1, U1, f1, hl, hu, fr, gi⟩
  refine go_l_any d hh hk hr hs hrc hl IH fr gi hb5 (fun hle a' W' v' K' U' f' fr' gi' => ?_) (fun hlt a' fr' => ?_)
  · refine ⟨⟨n + 1, v', K', U', f', by omega, by omega, fr', gi'⟩, ?_⟩
    rw [fr.t11, fr'.t11]
    simp only [intOf]
    omega
  · show go_e.wpIn _ _ _ _ _ _
    unfold go_e
    obtain rfl : n = highR h k r + 1 := by omega
    obtain ⟨hsz, hd_a', t1, t2, t3, t4, t5, t7, t10, t11⟩ := fr'
    have w53 := gi.w5
    have hvg : v = goB h m (h.many - k) k r s := by
      rw [show h.many - k = (h.many - (k + 1)) + 1 by omega, Bool.eq_iff_iff, gi.is, goB_succ]
      constructor
      · rintro ⟨n', s', h1, h2, h3, h4⟩
        exact ⟨n', s', mem_reads.2 ⟨h1, by omega⟩, h3, h4⟩
      · rintro ⟨n', s', h1, h2, h3⟩
        have := mem_reads.1 h1
        exact ⟨n', s', this.1, by omega, h2, h3⟩
    obtain ⟨W4, hput, gs4, he4⟩ := gi.gs.put d (v := v) hk hvg (fun _ n' s2 h1 h2 h3 => gi.cv n' s2 (mem_reads.1 h1).1 (by have := (mem_reads.1 h1).2; omega) h2 h3)
    refine wpIn_seq (region_p 4 ?_)
    intro K hK
    refine ListK.load (i := 0) (p := ⟨bk, 0, none⟩) (v := .map (some Mk)) rfl (by simp [t2]) (ld137 (gi.gs.wk.cell 0)) ?_
    refine ListK.load (i := 1) (p := ⟨b5, 0, none⟩) (v := .agg #[.int .i64 ((k : Int) - 1), .int .i64 (r : Int), .int .i64 (s : Int)]) rfl (by simp [t5]) (ld140 ⟨w53.cell 0, w53.cell 1, w53.cell 2⟩) ?_
    refine ListK.move (i := 2) (v := .bool v) rfl (by simp [t7]) ?_
    refine ListK.mapUp (i := 3) (u := .map (some Mk)) (u' := stepV (stK k r s)) (u'' := .bool v) rfl (by simp [hsz]) (by simp [stK, hsz]) (by simp [hsz]) hput ?_
    refine ListK.done (hK _ _ ?_)
    clear hK K
    generalize hA : Act.put _ _ _ = a4
    have hz_a4 : a4.tmps.size = 84 := by rw [← hA]; simp only [size_put, hsz]
    have p7 : a4.eval (.tmp 7) = .bool v := by rw [← hA]; exact (by simp [t7])
    have hd_a4 : a4.defers = [] := by rw [← hA]; simp only [defers_put, hd_a']
    clear hA
    refine wpIn_seq (region_p 2 ?_)
    intro K hK
    refine ListK.move (i := 0) (v := .bool v) rfl (by simp [p7]) ?_
    refine ListK.assign (i := 1) (v := .bool v) rfl (by simp [hz_a4]) ?_
    refine ListK.done (hK _ _ (wpIn_ret ?_))
    refine bodyPost_ret (v := .bool v) (res1 Try.results98 (by simp [hz_a4])) (by simp only [defers_put, hd_a4]) ⟨v, _, U1, f1, rfl, hvg, gs4, fun x y hx => gi.gs.mi.ext hvg x y (gi.ek x y hx), gi.eu, fun _ => by simp [updK], gi.el.trans he4⟩
theorem goes_any (d : GD ba bk bf bo b M Mk g) (hh : HeadB h) : ∀ (f0 k r s : Nat) (W : World) (Kn : Int × Int × Int → Option Bool) (U : Nat → Nat → Prop) (f : Nat → Int), h.many - k = f0 → k ≤ h.many → r ≤ 99 → s ≤ 99 → (r, s) ∈ reach h m k → GS ba bk bf bo b M Mk g h m W Kn U f →
    Calls Try.prog 98 #[stepV (stK k r s), ptr ba, ptr bk, ptr bf, ptr bo] W (GoP ba bk bf bo b M Mk g h m W k r s Kn U)
  | 0, k, r, s, W, Kn, U, f, hf, hk, hr, hs, _, gs => go_top d hh hk hr hs W gs (fun hlt => absurd hlt (by omega))
  | f0 + 1, k, r, s, W, Kn, U, f, hf, hk, hr, hs, hrc, gs => go_top d hh hk hr hs W gs (fun hlt _ a1 W1 b5 gs1 w5 _ hm5 hg5 he hz hd u1 u2 u3 u4 u5 u7 =>
      go_c_any d hh hlt hr hs hrc (fun n s2 W' K' U' f' hn hs2 hrc2 gs2 => goes_any d hh f0 (k + 1) n s2 W' K' U' f' (by omega) (by omega) hn hs2 hrc2 gs2) gs1 w5 ⟨by omega, by omega⟩ he hz hd u1 u2 u3 u4 u5 u7)
end
end Go.Proofs.YtmdlmmfbcnkanaaR
namespace Go.Proofs.YtmdlmmfbcnkanaaR
open Go.RowKit Go.Shelf
theorem bd45 (x y : Int) (w : World) : (Instr.build 45 #[(0, .int .i64 x), (1, .int .i64 y)]).run Try.prog w = .ok (.agg #[.int .i64 x, .int .i64 y]) w := by go_simp
theorem bs40_1 (x y : Int) (w : World) : (Instr.buildSlice 40 1 #[(0, .agg #[.int .i64 x, .int .i64 y])]).run Try.prog w = .ok (.slice (some ⟨w.heap.size, 0, none⟩) 1 1) (w.alloc (.cells #[.int .i64 x, .int .i64 y] 45)) := by go_simp
theorem rgL_get : ∀ (n d : Nat), d < n * 2 → (rgL n)[d]? = some (.int .i64 (if d % 2 = 0 then 100 else -1))
  | 0, d, h => by omega
  | n + 1, 0, _ => rfl
  | n + 1, 1, _ => rfl
  | n + 1, d + 2, h => by
    have := rgL_get n d (by omega)
    simp only [rgL, List.getElem?_cons_succ, this]
    rw [show (d + 2) % 2 = d % 2 by omega]
theorem row_rgL {W : World} {g n : Nat} (h : Whole W g 45 (rgL n).toArray) : Row W g (n * 2) (fun d => if d % 2 = 0 then 100 else -1) := fun d hd =>
  ⟨by rw [h.cell d]; simpa using rgL_get n d hd, h.frozen d⟩
noncomputable def opsMe0 : Array Oper := (Try.f81.body.bind (regionOf 0)).getD #[]
noncomputable def opsMe1 : Array Oper := (Try.f81.body.bind (regionOf 1)).getD #[]
noncomputable def opsMe2 : Array Oper := (Try.f81.body.bind (regionOf 2)).getD #[]
noncomputable def opsMe3 : Array Oper := (Try.f81.body.bind (regionOf 3)).getD #[]
noncomputable def opsMe4 : Array Oper := (Try.f81.body.bind (regionOf 4)).getD #[]
noncomputable def opsMe5 : Array Oper := (Try.f81.body.bind (regionOf 5)).getD #[]
noncomputable def code81 : Code := (.seq (.region 0 opsMe0 false) (.seq (.region 1 opsMe1 false) (.seq (.region 2 opsMe2 false) (.seq (.region 3 opsMe3 false) (.seq (.region 4 opsMe4 false) (.seq (.region 5 opsMe5 true) .ret))))))
theorem body81 : Try.f81.body = some code81 := by kernel_rfl
section
attribute [local irreducible] AnyK StepK
set_option maxHeartbeats 400000 in
theorem mend_any {b M : Nat} {h : Head} {m : List (List UInt8)} (hh : HeadB h) (W : World) (ar : ArchAt W b M h m) :
    Calls Try.prog 81 #[ptr b] W fun e w' => ∃ g f, e = .returned (.tuple #[.slice (some ⟨g, 0, none⟩) h.many h.many, .bool (goB h m h.many 0 0 0)]) ∧ Row w' g (h.many * 2) f ∧ (goB h m h.many 0 0 0 = true → ∀ i, i < h.many → f (i * 2) = loAt h m i ∧ f (i * 2 + 1) = hiAt h m i) ∧ Below W.heap.size W w' := by
  have hm := hh.many
  refine (callsIn_wide (n := 5)).1 (callsIn_of_wp Try.func81 body81 trivial ?_ rfl)
  obtain ⟨a, ha⟩ : ∃ a : Act, a = { tmps := #[ptr b] ++ Array.replicate (Try.f81.ntmps - (#[ptr b] : Array Value).size) undef, defers := [] } := ⟨_, rfl⟩
  have hsz : a.tmps.size = 21 := by rw [ha]; simp [Try.ntmps81]
  have t0 : a.eval (.tmp 0) = ptr b := by rw [ha]; simp [Act.eval]
  have hd_a : a.defers = [] := by rw [ha]
  rw [← ha]
  clear ha
  unfold code81
  refine wpIn_seq (region_p 3 ?_)
  intro K hK
  refine ListK.box (i := 0) (u := .pointer (some ⟨b, 0, none⟩)) rfl (by simp [t0]) (bx90 W _) ?_
  refine ListK.assign (i := 1) (v := .slice none 0 0) rfl (by simp) ?_
  refine ListK.assign (i := 2) (v := .bool false) rfl (by simp) ?_
  refine ListK.done (hK _ _ ?_)
  clear hK K
  have hl0 := ar.lt
  have wa := Whole.new W 90 #[.pointer (some ⟨b, 0, none⟩)]
  have hb_ba : Below W.heap.size W (W.alloc (.cells #[.pointer (some ⟨b, 0, none⟩)] 90)) := (Below.refl _ W).alloc (Nat.le_refl _) _
  have hB := hb_ba
  have hl_ar_ba := ar.lt
  replace ar := ar.below hb_ba
  generalize hq_ba : W.heap.size = ba at *
  generalize W.alloc (.cells #[.pointer (some ⟨b, 0, none⟩)] 90) = W1 at *
  generalize hA : Act.put _ _ _ = a1
  have hz_a1 : a1.tmps.size = 21 := by rw [← hA]; simp only [size_put, hsz]
  have u1 : a1.eval (.tmp 1) = .pointer (some ⟨ba, 0, none⟩) := by rw [← hA]; exact (by simp [hsz])
  have hd_a1 : a1.defers = [] := by rw [← hA]; simp only [defers_put, hd_a]
  clear hA
  have hb2 : Below W1.heap.size W1 (W1.alloc (.cells #[.int .i64 100, .int .i64 (-1)] 45)) := (Below.refl _ W1).alloc (Nat.le_refl _) _
  have hwx := Whole.new W1 45 #[.int .i64 100, .int .i64 (-1)]
  have ar2 := ar.below hb2
  have wa2 := wa.below hb2 wa.lt
  refine wpIn_seq (region_p 10 ?_)
  intro K hK
  refine ListK.bld (i := 0) (ps := #[(0, .int .i64 100), (1, .int .i64 (-1))]) (v := .agg #[.int .i64 100, .int .i64 (-1)]) rfl (by simp) (bd45 _ _ _) ?_
  refine ListK.bsl (i := 1) (ps := #[(0, .agg #[.int .i64 100, .int .i64 (-1)])]) (v := .slice (some ⟨W1.heap.size, 0, none⟩) 1 1) rfl (by simp [hz_a1]) (bs40_1 100 (-1) W1) ?_
  refine ListK.load (i := 2) (p := ⟨ba, 0, none⟩) (v := .pointer (some ⟨b, 0, none⟩)) rfl (by simp [u1]) (ld90 (wa2.cell 0)) ?_
  refine ListK.nilCheck (i := 3) (p := ⟨b, 0, none⟩) rfl (by simp [hz_a1]) ?_
  refine ListK.field (i := 4) (u := .pointer (some ⟨b, 0, none⟩)) (v := .pointer (some ⟨b, 0, none⟩)) rfl (by simp [hz_a1]) (fa95_0 _) ?_
  refine ListK.field (i := 5) (u := .pointer (some ⟨b, 0, none⟩)) (v := .pointer (some ⟨b, 0, none⟩)) rfl (by simp [hz_a1]) (fa77_0 _) ?_
  refine ListK.load (i := 6) (p := ⟨b, 0, none⟩) (v := .int .i64 (h.many : Int)) rfl (by simp [hz_a1]) (ld3 (ar2.whole.cell 0)) ?_
  refine ListK.call (i := 7) (vs := #[.slice (some ⟨W1.heap.size, 0, none⟩) 1 1, .int .i64 (h.many : Int)]) rfl (enters_of Try.func97 (by kernel_rfl) rfl) (by simp [hz_a1]) ((repeat_any W1.heap.size h.many hm (W1.alloc (.cells #[.int .i64 100, .int .i64 (-1)] 45)) hwx).mono ?_)
  rintro _ W3 ⟨g, rfl, hg3, wg, hb3⟩
  refine ⟨_, rfl, ?_⟩
  refine ListK.alloc (i := 8) rfl (al40 W3) ?_
  refine ListK.store (i := 9) (u := .pointer (some ⟨W3.heap.size, 0, none⟩)) (u' := .slice (some ⟨g, 0, none⟩) h.many h.many) rfl (by simp [hz_a1]) (by simp [hz_a1]) (st40 ((Whole.new W3 40 #[.slice none 0 0]).cell 0) ((Whole.new W3 40 #[.slice none 0 0]).frozen 0)) ?_
  refine ListK.done (hK _ _ ?_)
  clear hK K
  have hs2 := hb2.size
  have hs3 := hb3.size
  have hs1 := hB.size
  rw [World.size_alloc] at hg3
  replace ar := ar2.below hb3
  have hlba := wa.lt
  replace wa := wa2.below hb3 wa2.lt
  replace hB := (hB.trans (hb2.mono (by omega))).trans (hb3.mono (by omega))
  have hgt : ba < g := by omega
  have wo := Whole.new W3 40 #[.slice none 0 0]
  have hb_bo : Below W3.heap.size W3 (W3.alloc (.cells #[.slice none 0 0] 40)) := (Below.refl _ W3).alloc (Nat.le_refl _) _
  replace hB := hB.trans (hb_bo.mono (by have := hB.size; omega))
  have hl_ba_bo : ba < W3.heap.size := wa.lt
  replace wa := wa.below hb_bo wa.lt
  have hl_g_bo : g < W3.heap.size := wg.lt
  replace wg := wg.below hb_bo wg.lt
  have hl_ar_bo := ar.lt
  replace ar := ar.below hb_bo
  generalize hq_bo : W3.heap.size = bo at *
  generalize W3.alloc (.cells #[.slice none 0 0] 40) = W4 at *
  have hn_ba_bo : ba ≠ bo := by omega
  have hn_g_bo : g ≠ bo := by omega
  have he_W5 : Else (fun k => k = bo) W4 (W4.setCell ⟨bo, 0, none⟩ (.slice (some ⟨g, 0, none⟩) h.many h.many)) := (Else.refl (fun k => k = bo) W4).setCell (p := ⟨bo, 0, none⟩) (.inl rfl) _
  replace wo := wo.set 0 (.slice (some ⟨g, 0, none⟩) h.many h.many)
  replace wa := he_W5.whole hn_ba_bo wa
  replace wg := he_W5.whole hn_g_bo wg
  replace ar := ar.keep he_W5 (fun e => by have := hl_ar_bo; omega) (fun e => by have := hl_ar_bo; omega)
  replace hB := hB.setCell (p := ⟨bo, 0, none⟩) ((by show ba ≤ bo; omega)) (.slice (some ⟨g, 0, none⟩) h.many h.many)
  generalize (W4.setCell ⟨bo, 0, none⟩ (.slice (some ⟨g, 0, none⟩) h.many h.many)) = W5 at *
  generalize hA : Act.put _ _ _ = a2
  have hz_a2 : a2.tmps.size = 21 := by rw [← hA]; simp only [size_put, hz_a1]
  have v1 : a2.eval (.tmp 1) = .pointer (some ⟨ba, 0, none⟩) := by rw [← hA]; exact (by simp [u1])
  have v4 : a2.eval (.tmp 4) = .pointer (some ⟨bo, 0, none⟩) := by rw [← hA]; exact (by simp [hz_a1])
  have hd_a2 : a2.defers = [] := by rw [← hA]; simp only [defers_put, hd_a1]
  clear hA
  refine wpIn_seq (region_p 3 ?_)
  intro K hK
  refine ListK.mkM (i := 0) rfl (mm137 W5) ?_
  refine ListK.alloc (i := 1) rfl (al137 _) ?_
  refine ListK.store (i := 2) (u := .pointer (some ⟨(W5.alloc (.map #[] 0)).heap.size, 0, none⟩)) (u' := .map (some W5.heap.size)) rfl (by simp [hz_a2]) (by simp [hz_a2]) (st137 ((Whole.new _ 137 #[.map none]).cell 0) ((Whole.new _ 137 #[.map none]).frozen 0)) ?_
  refine ListK.done (hK _ _ ?_)
  clear hK K
  have hmp := MapAt.new (kv := stepV) W5
  have hbm : Below W5.heap.size W5 (W5.alloc (.map #[] 0)) := (Below.refl _ W5).alloc (Nat.le_refl _) _
  have hsB := hB.size
  replace hB := hB.trans (hbm.mono (by omega))
  have hl_ba_Mk := wa.lt
  have hl_g_Mk := wg.lt
  have hl_bo_Mk := wo.lt
  have hl_ar_Mk := ar.lt
  replace wa := wa.below hbm wa.lt
  replace wg := wg.below hbm wg.lt
  replace wo := wo.below hbm wo.lt
  replace ar := ar.below hbm
  generalize hq_Mk : W5.heap.size = Mk at *
  generalize W5.alloc (.map #[] 0) = W6 at *
  have hmlt := hmp.lt
  have wk := Whole.new W6 137 #[.map none]
  have hb_bk : Below W6.heap.size W6 (W6.alloc (.cells #[.map none] 137)) := (Below.refl _ W6).alloc (Nat.le_refl _) _
  replace hB := hB.trans (hb_bk.mono (by have := hB.size; omega))
  have hl_ba_bk : ba < W6.heap.size := wa.lt
  replace wa := wa.below hb_bk wa.lt
  have hl_g_bk : g < W6.heap.size := wg.lt
  replace wg := wg.below hb_bk wg.lt
  have hl_bo_bk : bo < W6.heap.size := wo.lt
  replace wo := wo.below hb_bk wo.lt
  have hl_ar_bk := ar.lt
  replace ar := ar.below hb_bk
  replace hmp := hmp.keep (hb_bk.block Mk hmp.lt)
  generalize hq_bk : W6.heap.size = bk at *
  generalize W6.alloc (.cells #[.map none] 137) = W7 at *
  have hn_ba_bk : ba ≠ bk := by omega
  have hn_g_bk : g ≠ bk := by omega
  have hn_bo_bk : bo ≠ bk := by omega
  have he_W8 : Else (fun k => k = bk) W7 (W7.setCell ⟨bk, 0, none⟩ (.map (some Mk))) := (Else.refl (fun k => k = bk) W7).setCell (p := ⟨bk, 0, none⟩) (.inl rfl) _
  replace wk := wk.set 0 (.map (some Mk))
  replace wa := he_W8.whole hn_ba_bk wa
  replace wg := he_W8.whole hn_g_bk wg
  replace wo := he_W8.whole hn_bo_bk wo
  replace ar := ar.keep he_W8 (fun e => by have := hl_ar_bk; omega) (fun e => by have := hl_ar_bk; omega)
  replace hmp := hmp.keep (he_W8.block Mk hmp.lt (by omega))
  replace hB := hB.setCell (p := ⟨bk, 0, none⟩) ((by show ba ≤ bk; omega)) (.map (some Mk))
  generalize (W7.setCell ⟨bk, 0, none⟩ (.map (some Mk))) = W8 at *
  generalize hA : Act.put _ _ _ = a3
  have hz_a3 : a3.tmps.size = 21 := by rw [← hA]; simp only [size_put, hz_a2]
  have q1 : a3.eval (.tmp 1) = .pointer (some ⟨ba, 0, none⟩) := by rw [← hA]; exact (by simp [v1])
  have q4 : a3.eval (.tmp 4) = .pointer (some ⟨bo, 0, none⟩) := by rw [← hA]; exact (by simp [v4])
  have q5 : a3.eval (.tmp 5) = .pointer (some ⟨bk, 0, none⟩) := by rw [← hA]; exact (by simp [hz_a2])
  have hd_a3 : a3.defers = [] := by rw [← hA]; simp only [defers_put, hd_a2]
  clear hA
  refine wpIn_seq (region_p 1 ?_)
  intro K hK
  refine ListK.alloc (i := 0) rfl (al138 W8) ?_
  refine ListK.done (hK _ _ ?_)
  clear hK K
  have hmlt2 := hmp.lt
  have wf := Whole.new W8 138 #[.nilFunc]
  have hb_bf : Below W8.heap.size W8 (W8.alloc (.cells #[.nilFunc] 138)) := (Below.refl _ W8).alloc (Nat.le_refl _) _
  replace hB := hB.trans (hb_bf.mono (by have := hB.size; omega))
  have hl_ba_bf : ba < W8.heap.size := wa.lt
  replace wa := wa.below hb_bf wa.lt
  have hl_g_bf : g < W8.heap.size := wg.lt
  replace wg := wg.below hb_bf wg.lt
  have hl_bo_bf : bo < W8.heap.size := wo.lt
  replace wo := wo.below hb_bf wo.lt
  have hl_bk_bf : bk < W8.heap.size := wk.lt
  replace wk := wk.below hb_bf wk.lt
  have hl_ar_bf := ar.lt
  replace ar := ar.below hb_bf
  replace hmp := hmp.keep (hb_bf.block Mk hmp.lt)
  generalize hq_bf : W8.heap.size = bf at *
  generalize W8.alloc (.cells #[.nilFunc] 138) = W9 at *
  have hn_ba_bf : ba ≠ bf := by omega
  have hn_g_bf : g ≠ bf := by omega
  have hn_bo_bf : bo ≠ bf := by omega
  have hn_bk_bf : bk ≠ bf := by omega
  generalize hA : Act.put _ _ _ = a4
  have hz_a4 : a4.tmps.size = 21 := by rw [← hA]; simp only [size_put, hz_a3]
  have r1 : a4.eval (.tmp 1) = .pointer (some ⟨ba, 0, none⟩) := by rw [← hA]; exact (by simp [q1])
  have r4 : a4.eval (.tmp 4) = .pointer (some ⟨bo, 0, none⟩) := by rw [← hA]; exact (by simp [q4])
  have r5 : a4.eval (.tmp 5) = .pointer (some ⟨bk, 0, none⟩) := by rw [← hA]; exact (by simp [q5])
  have r6 : a4.eval (.tmp 6) = .pointer (some ⟨bf, 0, none⟩) := by rw [← hA]; exact (by simp [hz_a3])
  have hd_a4 : a4.defers = [] := by rw [← hA]; simp only [defers_put, hd_a3]
  clear hA
  refine wpIn_seq (region_p 2 ?_)
  intro K hK
  refine ListK.mkF (i := 0) (vs := capsG ba bk bf bo) rfl (by simp [r1, r4, r5, r6]) ?_
  refine ListK.store (i := 1) (u := .pointer (some ⟨bf, 0, none⟩)) (u' := .func (.func 98) #[] (capsG ba bk bf bo)) rfl (by simp [r6]) (by simp [hz_a4]) (st138 (wf.cell 0) (wf.frozen 0)) ?_
  refine ListK.done (hK _ _ ?_)
  clear hK K
  have he_W10 : Else (fun k => k = bf) W9 (W9.setCell ⟨bf, 0, none⟩ (.func (.func 98) #[] (capsG ba bk bf bo))) := (Else.refl (fun k => k = bf) W9).setCell (p := ⟨bf, 0, none⟩) (.inl rfl) _
  replace wf := wf.set 0 (.func (.func 98) #[] (capsG ba bk bf bo))
  replace wa := he_W10.whole hn_ba_bf wa
  replace wg := he_W10.whole hn_g_bf wg
  replace wo := he_W10.whole hn_bo_bf wo
  replace wk := he_W10.whole hn_bk_bf wk
  replace ar := ar.keep he_W10 (fun e => by have := hl_ar_bf; omega) (fun e => by have := hl_ar_bf; omega)
  replace hmp := hmp.keep (he_W10.block Mk hmp.lt (by omega))
  replace hB := hB.setCell (p := ⟨bf, 0, none⟩) ((by show ba ≤ bf; omega)) (.func (.func 98) #[] (capsG ba bk bf bo))
  generalize (W9.setCell ⟨bf, 0, none⟩ (.func (.func 98) #[] (capsG ba bk bf bo))) = W10 at *
  generalize hA : Act.put _ _ _ = a5
  have hz_a5 : a5.tmps.size = 21 := by rw [← hA]; simp only [size_put, hz_a4]
  have p1 : a5.eval (.tmp 1) = .pointer (some ⟨ba, 0, none⟩) := by rw [← hA]; exact (by simp [r1])
  have p4 : a5.eval (.tmp 4) = .pointer (some ⟨bo, 0, none⟩) := by rw [← hA]; exact (by simp [r4])
  have p5 : a5.eval (.tmp 5) = .pointer (some ⟨bk, 0, none⟩) := by rw [← hA]; exact (by simp [r5])
  have p6 : a5.eval (.tmp 6) = .pointer (some ⟨bf, 0, none⟩) := by rw [← hA]; exact (by simp [r6])
  have hd_a5 : a5.defers = [] := by rw [← hA]; simp only [defers_put, hd_a4]
  clear hA
  have gs : GS ba bk bf bo b M Mk g h m W10 (fun _ => none) (fun _ _ => False) (fun d => if d % 2 = 0 then 100 else -1) :=
    ⟨ar, wa, wk, wf, wo, ⟨[], hmp, fun x => rfl⟩, row_rgL wg, wg.lt, MI.start h m, fun i hi => by
      rw [if_pos (by omega), if_neg (by omega)]
      exact RgOk.start (fun _ h => h)⟩
  have hgd : GD ba bk bf bo b M Mk g := ⟨⟨by omega, by omega, by omega, by omega, by omega, by omega⟩, ⟨by omega, by omega, by omega, by omega, by omega, by omega⟩, by omega⟩
  have hgo := goes_any hgd hh h.many 0 0 0 W10.drew (fun _ => none) (fun _ _ => False) _ rfl (by omega) (by omega) (by omega) (by simp [reach]) (gs.below (Below.refl W10.heap.size W10).drew)
  have e0 : stepV (stK 0 0 0) = .agg #[.int .i64 (-1), .int .i64 0, .int .i64 0] := by simp [stK]
  rw [e0] at hgo
  refine wpIn_seq (region_K (KpR (fun w : World => Whole w bo 40 #[.slice (some ⟨g, 0, none⟩) h.many h.many] ∧ Whole w bf 138 #[.func (.func 98) #[] (capsG ba bk bf bo)]) (fun _ => false)) (wideF_plain _) (by kernel_rfl) Try.mixed ?_)
  change AnyK _ _ _ _ 6 (Array.replicate 6 false) _ _
  have hR : (fun w : World => Whole w bo 40 #[.slice (some ⟨g, 0, none⟩) h.many h.many] ∧ Whole w bf 138 #[.func (.func 98) #[] (capsG ba bk bf bo)]) W10.drew := ⟨wo, wf⟩
  refine AnyK.load (i := 0) may_o (p := ⟨bo, 0, none⟩) (v := .slice (some ⟨g, 0, none⟩) h.many h.many) (by simp [p4]) (fun w hw => ld40 (hw.1.cell 0)) hR ?_
  refine AnyK.load (i := 1) may_o (p := ⟨bf, 0, none⟩) (v := .func (.func 98) #[] (capsG ba bk bf bo)) (by simp [p6]) (fun w hw => ld138 (hw.2.cell 0)) hR ?_
  refine AnyK.bld (i := 2) may_o (ps := #[(0, .int .i64 (-1))]) (v := .agg #[.int .i64 (-1), .int .i64 0, .int .i64 0]) (by simp) (bd140_1 _) hR ?_
  refine AnyK.pick1 (i := 3) (by kernel_rfl) ?_
  refine StepK.callC (i := 3) (f := 98) (caps := capsG ba bk bf bo) (vs := #[.agg #[.int .i64 (-1), .int .i64 0, .int .i64 0]]) rfl (enters_of Try.func98 (by kernel_rfl) rfl) (by simp [hz_a5]) (by simp [hz_a5]) ((show Calls Try.prog 98 (#[.agg #[.int .i64 (-1), .int .i64 0, .int .i64 0]] ++ capsG ba bk bf bo) W10.drew _ from hgo).mono ?_)
  rintro _ W11 ⟨v, K1, U1, f1, rfl, hv, gs1, _, _, hk1, he1⟩
  replace hR : (fun w : World => Whole w bo 40 #[.slice (some ⟨g, 0, none⟩) h.many h.many] ∧ Whole w bf 138 #[.func (.func 98) #[] (capsG ba bk bf bo)]) W11 := ⟨gs1.wo, gs1.wf⟩
  refine ⟨_, rfl, fun _ _ => hR, ?_⟩
  refine AnyK.assign (i := 4) may_o (v := .slice (some ⟨g, 0, none⟩) h.many h.many) (by simp [hz_a5]) hR ?_
  refine AnyK.assign (i := 5) may_o (v := .bool v) (by simp [hz_a5]) hR ?_
  refine AnyK.done (by kernel_rfl) ?_
  refine wpIn_ret ?_
  rw [Nat.sub_zero] at hv
  refine bodyPost_ret (v := .tuple #[.slice (some ⟨g, 0, none⟩) h.many h.many, .bool v]) (res2n Try.results81 (by simp [hz_a5]) (by simp [hz_a5])) (by simp only [defers_put, hd_a5]) ⟨g, f1, by rw [hv], gs1.row, fun hg => ?_, ?_⟩
  · intro i hi
    rw [hv, hg] at hk1
    exact (gs1.rg i hi).uniq ((rg_goes h m i).congr (fun x => gs1.mi.end_ (hk1 (by omega)) hi))
  · have hgl := gs.lt
    have hd := (Below.refl W10.heap.size W10).drew.mono (show ba ≤ W10.heap.size by omega)
    refine (hB.trans hd).trans (he1.below (by show ba ≤ W10.heap.size; omega) (fun k hk e => by rcases e with e | e <;> omega))
end
end Go.Proofs.YtmdlmmfbcnkanaaR
