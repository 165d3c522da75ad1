/- Texts for a law of package file, behind the shared ones, part 2: the law's own contracts and plain words. -/
import Derived.Test.YtmdlmmfbcnkanaaRI1

set_option linter.unusedVariables false
set_option maxRecDepth 10000

namespace Go.Proofs.YtmdlmmfbcnkanaaR
open Go.RowKit Go.Shelf
theorem told_zero {L : List (List UInt8)} (h : toldG L = 0) : (headG L).many ≠ 0 ∧ ∀ p, p ∈ L → outOf (headG L) p = false := by
  have hc : contraB L = false := by
    cases hcb : contraB L
    · rfl
    · unfold toldG at h
      rw [if_pos hcb] at h
      cases h
  have hm : (headG L).many ≠ 0 := by
    intro hm
    unfold toldG at h
    rw [hc, if_neg (by decide), if_pos hm] at h
    cases h
  refine ⟨hm, fun p hp => ?_⟩
  obtain ⟨i, hi⟩ := List.getElem?_of_mem hp
  have hn : ¬ contraP L := of_decide_eq_false hc
  have h2 : pastG (headG L) p = false := Bool.eq_false_iff.2 fun hp => hn ⟨i, p, hi, .inr hp⟩
  unfold pastG at h2
  rw [decide_eq_true (show 0 < (headG L).many by omega)] at h2
  simpa using h2
theorem okRec_of {s : Ser} {r : List UInt8} {nm : UInt8 × Nat} {vl : Nat} (hn : nameOf r = nm) (hv : valOf r = vl) : okRec s r = !((nm.1 == 82 && decide (s.rd[nm.2]? ≠ some (vl : Int))) || (nm.1 == 80 && decide (sumB s nm.2 ≠ (vl : Int)))) := by
  subst hn
  subst hv
  rfl
noncomputable def opsRf0 : Array Oper := (Try.f36.body.bind (regionOf 0)).getD #[]
noncomputable def opsRf1 : Array Oper := (Try.f36.body.bind (regionOf 1)).getD #[]
noncomputable def opsRf2 : Array Oper := (Try.f36.body.bind (regionOf 2)).getD #[]
noncomputable def opsRf3 : Array Oper := (Try.f36.body.bind (regionOf 3)).getD #[]
noncomputable def opsRf4 : Array Oper := (Try.f36.body.bind (regionOf 4)).getD #[]
noncomputable def opsRf5 : Array Oper := (Try.f36.body.bind (regionOf 5)).getD #[]
noncomputable def opsRf6 : Array Oper := (Try.f36.body.bind (regionOf 6)).getD #[]
noncomputable def opsRf7 : Array Oper := (Try.f36.body.bind (regionOf 7)).getD #[]
noncomputable def opsRf8 : Array Oper := (Try.f36.body.bind (regionOf 8)).getD #[]
noncomputable def opsRf9 : Array Oper := (Try.f36.body.bind (regionOf 9)).getD #[]
noncomputable def opsRf10 : Array Oper := (Try.f36.body.bind (regionOf 10)).getD #[]
noncomputable def rf_l : Code := (.seq (.seq (.region 5 opsRf5 false) (.cond (.tmp 36) .skip (.exit 0))) (.seq (.block 1 (.seq (.region 7 opsRf7 false) (.seq (.region 8 opsRf8 true) (.cond (.tmp 70) (.seq (.region 9 opsRf9 false) .ret) .skip)))) (.region 6 opsRf6 false)))
noncomputable def rf_b : Code := (.seq (.seq (.region 4 opsRf4 false) (.block 0 (.loop rf_l))) (.seq (.region 10 opsRf10 false) .ret))
noncomputable def code36 : Code := (.seq (.region 0 opsRf0 false) (.seq (.region 1 opsRf1 false) (.seq (.seq (.region 2 opsRf2 false) (.cond (.tmp 32) (.seq (.region 3 opsRf3 false) .ret) .skip)) rf_b)))
theorem body36 : Try.f36.body = some code36 := by kernel_rfl
section
attribute [local irreducible] AnyK StepK
variable {s : Ser} {A As : Option Addr} {n c cs i b3 : Nat} {p0 p1 p2 p3 p4 p5 p6 : UInt8}
set_option maxHeartbeats 400000 in
theorem rf_8_any {a : Act} {W : World} {Q : Exit → Act → World → Prop} (hf : faultS s = 0) (h0 : p0 = 72 ∨ p0 = 82 ∨ p0 = 80) (h82 : p0 = 82 → num2 p1 p2 < s.rd.length) (h80 : p0 = 80 → num2 p1 p2 ≤ 100) (w3 : Whole W b3 24 #[.int .i64 s.width, .int .i64 s.step, .slice As s.rd.length cs]) (hs : IntsAt W W.heap.size As s.rd)
    (hz : a.tmps.size = 71) (hd_a : a.defers = []) (t0 : a.eval (.tmp 0) = .slice A n c) (t3 : a.eval (.tmp 3) = ptr b3) (t8 : a.eval (.tmp 8) = .int .i64 (i : Int)) (t9 : a.eval (.tmp 9) = strV [p0, p1, p2, p3, p4, p5, p6])
    (hQ : ∀ (b : Act) (W' : World), Below W.heap.size W W' → b.tmps.size = 71 → b.defers = [] → b.eval (.tmp 0) = .slice A n c → b.eval (.tmp 3) = ptr b3 → b.eval (.tmp 8) = .int .i64 (i : Int) → b.eval (.tmp 70) = .bool (!okRec s [p0, p1, p2, p3, p4, p5, p6]) → Q .normal b W') :
    (Code.region 8 opsRf8 true).wpIn Fence.wide 5 Try.prog Q a W := by
  obtain ⟨hlen, hwd, hsp, hin, _⟩ := ser_valid hf
  have hbd := (Below.refl W.heap.size W).drew
  have hgr : ∀ w w', (fun w : World => (Whole w b3 24 #[.int .i64 s.width, .int .i64 s.step, .slice As s.rd.length cs] ∧ IntsAt w W.heap.size As s.rd) ∧ Below W.heap.size W w) w → Below w.heap.size w w' → (fun w : World => (Whole w b3 24 #[.int .i64 s.width, .int .i64 s.step, .slice As s.rd.length cs] ∧ IntsAt w W.heap.size As s.rd) ∧ Below W.heap.size W w) w' := fun w w' h hb => ⟨⟨h.1.1.below hb h.1.1.lt, h.1.2.below hb h.2.size⟩, h.2.trans (hb.mono h.2.size)⟩
  have hR0 : (fun w : World => (Whole w b3 24 #[.int .i64 s.width, .int .i64 s.step, .slice As s.rd.length cs] ∧ IntsAt w W.heap.size As s.rd) ∧ Below W.heap.size W w) W.drew := hgr W _ ⟨⟨w3, hs⟩, Below.refl _ _⟩ hbd
  obtain ⟨k, hk⟩ : ∃ k, num2 p1 p2 = k := ⟨_, rfl⟩
  obtain ⟨vl, hvl⟩ : ∃ vl, num2 p3 p4 = vl := ⟨_, rfl⟩
  have hval : valOf [p0, p1, p2, p3, p4, p5, p6] = vl := hvl
  rw [hk] at h82 h80
  rcases h0 with h0 | h0 | h0
  · have e1 : decide (p0 = 82) = false := by rw [h0]; rfl
    have e2 : decide (p0 = 80) = false := by rw [h0]; rfl
    have hv : okRec s [p0, p1, p2, p3, p4, p5, p6] = true := by rw [okRec_of (nm := (72, 0)) (by simp [nameOf, h0]) hval]; rfl
    refine region_K (KpR (fun w : World => (Whole w b3 24 #[.int .i64 s.width, .int .i64 s.step, .slice As s.rd.length cs] ∧ IntsAt w W.heap.size As s.rd) ∧ Below W.heap.size W w) (fun _ => false)) (wideF_plain _) (by kernel_rfl) Try.mixed ?_
    change AnyK _ _ _ _ 28 (Array.replicate 28 false) _ _
    have hR : (fun w : World => (Whole w b3 24 #[.int .i64 s.width, .int .i64 s.step, .slice As s.rd.length cs] ∧ IntsAt w W.heap.size As s.rd) ∧ Below W.heap.size W w) W.drew := hR0
    refine AnyK.move (i := 0) may_o (v := strV [p0, p1, p2, p3, p4, p5, p6]) (by simp [t9]) hR ?_
    refine AnyK.indexV (i := 1) may_o (u := strV [p0, p1, p2, p3, p4, p5, p6]) (u' := .int .i64 (0)) (v := u8V p0) (by simp [hz]) (by simp) (fun w => ix9 (k := 0) rfl w) hR ?_
    refine AnyK.bin (i := 2) may_o (u := u8V p0) (u' := .int .u8 82) (v := .bool false) (by simp [hz]) (by simp) (fun w => by rw [← e1]; exact eql5n p0 82 w) hR ?_
    refine AnyK.move (i := 3) may_o (v := .bool false) (by simp [hz]) hR ?_
    refine AnyK.passG (i := 4) may_o (e := 46) (b' := false) rfl (by simp [hz]) rfl hR ?_
    refine AnyK.passG (i := 5) may_o (e := 46) (b' := false) rfl (by simp [hz]) rfl hR ?_
    refine AnyK.passG (i := 6) may_o (e := 46) (b' := false) rfl (by simp [hz]) rfl hR ?_
    refine AnyK.passG (i := 7) may_o (e := 46) (b' := false) rfl (by simp [hz]) rfl hR ?_
    refine AnyK.passG (i := 8) may_o (e := 46) (b' := false) rfl (by simp [hz]) rfl hR ?_
    refine AnyK.passG (i := 9) may_o (e := 46) (b' := false) rfl (by simp [hz]) rfl hR ?_
    refine AnyK.passG (i := 10) may_o (e := 46) (b' := false) rfl (by simp [hz]) rfl hR ?_
    refine AnyK.passG (i := 11) may_o (e := 46) (b' := false) rfl (by simp [hz]) rfl hR ?_
    refine AnyK.passG (i := 12) may_o (e := 46) (b' := false) rfl (by simp [hz]) rfl hR ?_
    refine AnyK.pick (i := 13) may_o (b := false) (v := .bool false) (by simp [hz]) (by simp) hR ?_
    refine AnyK.move (i := 14) may_o (v := .bool false) (by simp [hz]) hR ?_
    refine AnyK.move (i := 15) may_o (v := strV [p0, p1, p2, p3, p4, p5, p6]) (by simp [t9]) hR (hw := (by exact wanted_g (e := 57) (b' := false) rfl (by simp [hz]) rfl)) ?_
    refine AnyK.indexV (i := 16) may_o (u := strV [p0, p1, p2, p3, p4, p5, p6]) (u' := .int .i64 (0)) (v := u8V p0) (by simp [hz]) (by simp) (fun w => ix9 (k := 0) rfl w) hR (hw := (by exact wanted_g (e := 57) (b' := false) rfl (by simp [hz]) rfl)) ?_
    refine AnyK.bin (i := 17) may_o (u := u8V p0) (u' := .int .u8 80) (v := .bool false) (by simp [hz]) (by simp) (fun w => by rw [← e2]; exact eql5n p0 80 w) hR (hw := (by exact wanted_g (e := 57) (b' := false) rfl (by simp [hz]) rfl)) ?_
    refine AnyK.move (i := 18) may_o (v := .bool false) (by simp [hz]) hR (hw := (by exact wanted_g (e := 57) (b' := false) rfl (by simp [hz]) rfl)) ?_
    refine AnyK.passG (i := 19) may_o (e := 61) (b' := false) rfl (by simp [hz]) rfl hR ?_
    refine AnyK.passG (i := 20) may_o (e := 61) (b' := false) rfl (by simp [hz]) rfl hR ?_
    refine AnyK.passG (i := 21) may_o (e := 61) (b' := false) rfl (by simp [hz]) rfl hR ?_
    refine AnyK.passG (i := 22) may_o (e := 61) (b' := false) rfl (by simp [hz]) rfl hR ?_
    refine AnyK.passG (i := 23) may_o (e := 61) (b' := false) rfl (by simp [hz]) rfl hR ?_
    refine AnyK.passG (i := 24) may_o (e := 61) (b' := false) rfl (by simp [hz]) rfl hR ?_
    refine AnyK.passG (i := 25) may_o (e := 61) (b' := false) rfl (by simp [hz]) rfl hR ?_
    refine AnyK.pick (i := 26) may_o (b := false) (v := .bool false) (by simp [hz]) (by simp) hR (hw := (by exact wanted_g (e := 57) (b' := false) rfl (by simp [hz]) rfl)) ?_
    refine AnyK.pick (i := 27) may_o (b := false) (v := .bool false) (by simp [hz]) (by simp [hz]) hR ?_
    refine AnyK.done (by kernel_rfl) ?_
    exact hQ _ _ hR.2 (by simp only [size_put, hz]) (by simp only [defers_put, hd_a]) (by simp [t0]) (by simp [t3]) (by simp [t8]) (by rw [hv]; exact (by simp [hz]))
  · have e1 : decide (p0 = 82) = true := by rw [h0]; rfl
    have e2 : decide (p0 = 80) = false := by rw [h0]; rfl
    have hkl := h82 h0
    have hx := List.getElem?_eq_getElem hkl
    obtain ⟨gb, off, hA, _, _⟩ := hs k _ hx
    have hcA : ∀ w, IntsAt w W.heap.size As s.rd → w.cell? ⟨gb, off + k, none⟩ = some (.int .i64 s.rd[k]) := fun w h => by rw [hA] at h; exact h.cell3 hx
    have hok := okRec_of (s := s) (nm := (82, k)) (show nameOf [p0, p1, p2, p3, p4, p5, p6] = (82, k) by simp [nameOf, h0, hk]) hval
    by_cases hxv : s.rd[k] = (vl : Int)
    · have hv : okRec s [p0, p1, p2, p3, p4, p5, p6] = true := by rw [hok, hx, hxv]; simp
      refine region_K (KpR (fun w : World => (Whole w b3 24 #[.int .i64 s.width, .int .i64 s.step, .slice As s.rd.length cs] ∧ IntsAt w W.heap.size As s.rd) ∧ Below W.heap.size W w) (fun _ => false)) (wideF_plain _) (by kernel_rfl) Try.mixed ?_
      change AnyK _ _ _ _ 28 (Array.replicate 28 false) _ _
      have hR : (fun w : World => (Whole w b3 24 #[.int .i64 s.width, .int .i64 s.step, .slice As s.rd.length cs] ∧ IntsAt w W.heap.size As s.rd) ∧ Below W.heap.size W w) W.drew := hR0
      refine AnyK.move (i := 0) may_o (v := strV [p0, p1, p2, p3, p4, p5, p6]) (by simp [t9]) hR ?_
      refine AnyK.indexV (i := 1) may_o (u := strV [p0, p1, p2, p3, p4, p5, p6]) (u' := .int .i64 (0)) (v := u8V p0) (by simp [hz]) (by simp) (fun w => ix9 (k := 0) rfl w) hR ?_
      refine AnyK.bin (i := 2) may_o (u := u8V p0) (u' := .int .u8 82) (v := .bool true) (by simp [hz]) (by simp) (fun w => by rw [← e1]; exact eql5n p0 82 w) hR ?_
      refine AnyK.move (i := 3) may_o (v := .bool true) (by simp [hz]) hR ?_
      refine AnyK.field (i := 4) may_o (u := .pointer (some ⟨b3, 0, none⟩)) (v := .pointer (some ⟨b3, 2, none⟩)) (by simp [t3]) (fun w => fa24_2 w) hR (hw := (by exact wanted_g (e := 46) (b' := true) rfl (by simp [hz]) rfl)) ?_
      refine AnyK.load (i := 5) may_o (p := ⟨b3, 2, none⟩) (v := .slice (some ⟨gb, off, none⟩) s.rd.length cs) (by simp [hz]) (fun w hw => ld22 ((hw.1.1.cell 2).trans (by rw [hA]; rfl))) hR (hw := (by exact wanted_g (e := 46) (b' := true) rfl (by simp [hz]) rfl)) ?_
      refine AnyK.move (i := 6) may_o (v := strV [p0, p1, p2, p3, p4, p5, p6]) (by simp [t9]) hR (hw := (by exact wanted_g (e := 46) (b' := true) rfl (by simp [hz]) rfl)) ?_
      refine AnyK.move (i := 10) may_o (v := strV [p0, p1, p2, p3, p4, p5, p6]) (by simp [t9]) hR (hw := (by exact wanted_g (e := 46) (b' := true) rfl (by simp [hz]) rfl)) ?_
      refine AnyK.pick1 (i := 7) (by kernel_rfl) ?_
      refine StepK.call (i := 7) (f := 65) (vs := #[strV [p0, p1, p2, p3, p4, p5, p6], .int .i64 (1)]) rfl (enters_of Try.func65 (by kernel_rfl) rfl) rfl (by simp [hz]) ((num_any [p0, p1, p2, p3, p4, p5, p6] 1 p1 p2 rfl rfl (by omega) _).mono ?_) (hw := (by exact wanted_g (e := 46) (b' := true) rfl (by simp [hz]) rfl))
      rintro _ V7 ⟨rfl, hb7⟩
      rw [hk]
      replace hR : (fun w : World => (Whole w b3 24 #[.int .i64 s.width, .int .i64 s.step, .slice As s.rd.length cs] ∧ IntsAt w W.heap.size As s.rd) ∧ Below W.heap.size W w) V7 := hgr _ _ hR hb7
      refine ⟨_, rfl, fun _ _ => hR, ?_⟩
      refine AnyK.index (i := 8) may_o (u := .slice (some ⟨gb, off, none⟩) s.rd.length cs) (u' := .int .i64 (k : Int)) (v := .pointer (some ⟨gb, off + k, none⟩)) (by simp [hz]) (by simp [hz]) (fun w => ix22 hkl w) hR (hw := (by exact wanted_g (e := 46) (b' := true) rfl (by simp [hz]) rfl)) ?_
      refine AnyK.load (i := 9) may_o (p := ⟨gb, off + k, none⟩) (v := .int .i64 s.rd[k]) (by simp [hz]) (fun w hw => ld3 (hcA _ hw.1.2)) hR (hw := (by exact wanted_g (e := 46) (b' := true) rfl (by simp [hz]) rfl)) ?_
      refine AnyK.pick1 (i := 11) (by kernel_rfl) ?_
      refine StepK.call (i := 11) (f := 65) (vs := #[strV [p0, p1, p2, p3, p4, p5, p6], .int .i64 (3)]) rfl (enters_of Try.func65 (by kernel_rfl) rfl) rfl (by simp [hz]) ((num_any [p0, p1, p2, p3, p4, p5, p6] 3 p3 p4 rfl rfl (by omega) _).mono ?_) (hw := (by exact wanted_g (e := 46) (b' := true) rfl (by simp [hz]) rfl))
      rintro _ V11 ⟨rfl, hb11⟩
      rw [hvl]
      replace hR : (fun w : World => (Whole w b3 24 #[.int .i64 s.width, .int .i64 s.step, .slice As s.rd.length cs] ∧ IntsAt w W.heap.size As s.rd) ∧ Below W.heap.size W w) V11 := hgr _ _ hR hb11
      refine ⟨_, rfl, fun _ _ => hR, ?_⟩
      refine AnyK.bin (i := 12) may_o (u := .int .i64 s.rd[k]) (u' := .int .i64 (vl : Int)) (v := .bool false) (by simp [hz]) (by simp [hz]) (fun w => by exact neqF hxv w) hR (hw := (by exact wanted_g (e := 46) (b' := true) rfl (by simp [hz]) rfl)) ?_
      refine AnyK.pick (i := 13) may_o (b := true) (v := .bool false) (by simp [hz]) (by simp [hz]) hR ?_
      refine AnyK.move (i := 14) may_o (v := .bool false) (by simp [hz]) hR ?_
      refine AnyK.move (i := 15) may_o (v := strV [p0, p1, p2, p3, p4, p5, p6]) (by simp [t9]) hR (hw := (by exact wanted_g (e := 57) (b' := false) rfl (by simp [hz]) rfl)) ?_
      refine AnyK.indexV (i := 16) may_o (u := strV [p0, p1, p2, p3, p4, p5, p6]) (u' := .int .i64 (0)) (v := u8V p0) (by simp [hz]) (by simp) (fun w => ix9 (k := 0) rfl w) hR (hw := (by exact wanted_g (e := 57) (b' := false) rfl (by simp [hz]) rfl)) ?_
      refine AnyK.bin (i := 17) may_o (u := u8V p0) (u' := .int .u8 80) (v := .bool false) (by simp [hz]) (by simp) (fun w => by rw [← e2]; exact eql5n p0 80 w) hR (hw := (by exact wanted_g (e := 57) (b' := false) rfl (by simp [hz]) rfl)) ?_
      refine AnyK.move (i := 18) may_o (v := .bool false) (by simp [hz]) hR (hw := (by exact wanted_g (e := 57) (b' := false) rfl (by simp [hz]) rfl)) ?_
      refine AnyK.passG (i := 19) may_o (e := 61) (b' := false) rfl (by simp [hz]) rfl hR ?_
      refine AnyK.passG (i := 20) may_o (e := 61) (b' := false) rfl (by simp [hz]) rfl hR ?_
      refine AnyK.passG (i := 21) may_o (e := 61) (b' := false) rfl (by simp [hz]) rfl hR ?_
      refine AnyK.passG (i := 22) may_o (e := 61) (b' := false) rfl (by simp [hz]) rfl hR ?_
      refine AnyK.passG (i := 23) may_o (e := 61) (b' := false) rfl (by simp [hz]) rfl hR ?_
      refine AnyK.passG (i := 24) may_o (e := 61) (b' := false) rfl (by simp [hz]) rfl hR ?_
      refine AnyK.passG (i := 25) may_o (e := 61) (b' := false) rfl (by simp [hz]) rfl hR ?_
      refine AnyK.pick (i := 26) may_o (b := false) (v := .bool false) (by simp [hz]) (by simp) hR (hw := (by exact wanted_g (e := 57) (b' := false) rfl (by simp [hz]) rfl)) ?_
      refine AnyK.pick (i := 27) may_o (b := false) (v := .bool false) (by simp [hz]) (by simp [hz]) hR ?_
      refine AnyK.done (by kernel_rfl) ?_
      exact hQ _ _ hR.2 (by simp only [size_put, hz]) (by simp only [defers_put, hd_a]) (by simp [t0]) (by simp [t3]) (by simp [t8]) (by rw [hv]; exact (by simp [hz]))
    · have hv : okRec s [p0, p1, p2, p3, p4, p5, p6] = false := by
        rw [hok, hx]
        have : decide (some s.rd[k] ≠ some (vl : Int)) = true := decide_eq_true (fun e => hxv (Option.some.inj e))
        rw [this]
        rfl
      refine region_K (KpR (fun w : World => (Whole w b3 24 #[.int .i64 s.width, .int .i64 s.step, .slice As s.rd.length cs] ∧ IntsAt w W.heap.size As s.rd) ∧ Below W.heap.size W w) (fun _ => false)) (wideF_plain _) (by kernel_rfl) Try.mixed ?_
      change AnyK _ _ _ _ 28 (Array.replicate 28 false) _ _
      have hR : (fun w : World => (Whole w b3 24 #[.int .i64 s.width, .int .i64 s.step, .slice As s.rd.length cs] ∧ IntsAt w W.heap.size As s.rd) ∧ Below W.heap.size W w) W.drew := hR0
      refine AnyK.move (i := 0) may_o (v := strV [p0, p1, p2, p3, p4, p5, p6]) (by simp [t9]) hR ?_
      refine AnyK.indexV (i := 1) may_o (u := strV [p0, p1, p2, p3, p4, p5, p6]) (u' := .int .i64 (0)) (v := u8V p0) (by simp [hz]) (by simp) (fun w => ix9 (k := 0) rfl w) hR ?_
      refine AnyK.bin (i := 2) may_o (u := u8V p0) (u' := .int .u8 82) (v := .bool true) (by simp [hz]) (by simp) (fun w => by rw [← e1]; exact eql5n p0 82 w) hR ?_
      refine AnyK.move (i := 3) may_o (v := .bool true) (by simp [hz]) hR ?_
      refine AnyK.field (i := 4) may_o (u := .pointer (some ⟨b3, 0, none⟩)) (v := .pointer (some ⟨b3, 2, none⟩)) (by simp [t3]) (fun w => fa24_2 w) hR (hw := (by exact wanted_g (e := 46) (b' := true) rfl (by simp [hz]) rfl)) ?_
      refine AnyK.load (i := 5) may_o (p := ⟨b3, 2, none⟩) (v := .slice (some ⟨gb, off, none⟩) s.rd.length cs) (by simp [hz]) (fun w hw => ld22 ((hw.1.1.cell 2).trans (by rw [hA]; rfl))) hR (hw := (by exact wanted_g (e := 46) (b' := true) rfl (by simp [hz]) rfl)) ?_
      refine AnyK.move (i := 6) may_o (v := strV [p0, p1, p2, p3, p4, p5, p6]) (by simp [t9]) hR (hw := (by exact wanted_g (e := 46) (b' := true) rfl (by simp [hz]) rfl)) ?_
      refine AnyK.move (i := 10) may_o (v := strV [p0, p1, p2, p3, p4, p5, p6]) (by simp [t9]) hR (hw := (by exact wanted_g (e := 46) (b' := true) rfl (by simp [hz]) rfl)) ?_
      refine AnyK.pick1 (i := 7) (by kernel_rfl) ?_
      refine StepK.call (i := 7) (f := 65) (vs := #[strV [p0, p1, p2, p3, p4, p5, p6], .int .i64 (1)]) rfl (enters_of Try.func65 (by kernel_rfl) rfl) rfl (by simp [hz]) ((num_any [p0, p1, p2, p3, p4, p5, p6] 1 p1 p2 rfl rfl (by omega) _).mono ?_) (hw := (by exact wanted_g (e := 46) (b' := true) rfl (by simp [hz]) rfl))
      rintro _ V7 ⟨rfl, hb7⟩
      rw [hk]
      replace hR : (fun w : World => (Whole w b3 24 #[.int .i64 s.width, .int .i64 s.step, .slice As s.rd.length cs] ∧ IntsAt w W.heap.size As s.rd) ∧ Below W.heap.size W w) V7 := hgr _ _ hR hb7
      refine ⟨_, rfl, fun _ _ => hR, ?_⟩
      refine AnyK.index (i := 8) may_o (u := .slice (some ⟨gb, off, none⟩) s.rd.length cs) (u' := .int .i64 (k : Int)) (v := .pointer (some ⟨gb, off + k, none⟩)) (by simp [hz]) (by simp [hz]) (fun w => ix22 hkl w) hR (hw := (by exact wanted_g (e := 46) (b' := true) rfl (by simp [hz]) rfl)) ?_
      refine AnyK.load (i := 9) may_o (p := ⟨gb, off + k, none⟩) (v := .int .i64 s.rd[k]) (by simp [hz]) (fun w hw => ld3 (hcA _ hw.1.2)) hR (hw := (by exact wanted_g (e := 46) (b' := true) rfl (by simp [hz]) rfl)) ?_
      refine AnyK.pick1 (i := 11) (by kernel_rfl) ?_
      refine StepK.call (i := 11) (f := 65) (vs := #[strV [p0, p1, p2, p3, p4, p5, p6], .int .i64 (3)]) rfl (enters_of Try.func65 (by kernel_rfl) rfl) rfl (by simp [hz]) ((num_any [p0, p1, p2, p3, p4, p5, p6] 3 p3 p4 rfl rfl (by omega) _).mono ?_) (hw := (by exact wanted_g (e := 46) (b' := true) rfl (by simp [hz]) rfl))
      rintro _ V11 ⟨rfl, hb11⟩
      rw [hvl]
      replace hR : (fun w : World => (Whole w b3 24 #[.int .i64 s.width, .int .i64 s.step, .slice As s.rd.length cs] ∧ IntsAt w W.heap.size As s.rd) ∧ Below W.heap.size W w) V11 := hgr _ _ hR hb11
      refine ⟨_, rfl, fun _ _ => hR, ?_⟩
      refine AnyK.bin (i := 12) may_o (u := .int .i64 s.rd[k]) (u' := .int .i64 (vl : Int)) (v := .bool true) (by simp [hz]) (by simp [hz]) (fun w => by exact neqT hxv w) hR (hw := (by exact wanted_g (e := 46) (b' := true) rfl (by simp [hz]) rfl)) ?_
      refine AnyK.pick (i := 13) may_o (b := true) (v := .bool true) (by simp [hz]) (by simp [hz]) hR ?_
      refine AnyK.move (i := 14) may_o (v := .bool true) (by simp [hz]) hR ?_
      refine AnyK.passG (i := 15) may_o (e := 57) (b' := true) rfl (by simp [hz]) rfl hR ?_
      refine AnyK.passG (i := 16) may_o (e := 57) (b' := true) rfl (by simp [hz]) rfl hR ?_
      refine AnyK.passG (i := 17) may_o (e := 57) (b' := true) rfl (by simp [hz]) rfl hR ?_
      refine AnyK.passG (i := 18) may_o (e := 57) (b' := true) rfl (by simp [hz]) rfl hR ?_
      refine AnyK.passU (i := 19) may_o (e := 61) rfl (by simp [hz]) hR ?_
      refine AnyK.passU (i := 20) may_o (e := 61) rfl (by simp [hz]) hR ?_
      refine AnyK.passU (i := 21) may_o (e := 61) rfl (by simp [hz]) hR ?_
      refine AnyK.passU (i := 22) may_o (e := 61) rfl (by simp [hz]) hR ?_
      refine AnyK.passU (i := 23) may_o (e := 61) rfl (by simp [hz]) hR ?_
      refine AnyK.passU (i := 24) may_o (e := 61) rfl (by simp [hz]) hR ?_
      refine AnyK.passU (i := 25) may_o (e := 61) rfl (by simp [hz]) hR ?_
      refine AnyK.passG (i := 26) may_o (e := 57) (b' := true) rfl (by simp [hz]) rfl hR ?_
      refine AnyK.pick (i := 27) may_o (b := true) (v := .bool true) (by simp [hz]) (by simp) hR ?_
      refine AnyK.done (by kernel_rfl) ?_
      exact hQ _ _ hR.2 (by simp only [size_put, hz]) (by simp only [defers_put, hd_a]) (by simp [t0]) (by simp [t3]) (by simp [t8]) (by rw [hv]; exact (by simp [hz]))
  · have e1 : decide (p0 = 82) = false := by rw [h0]; rfl
    have e2 : decide (p0 = 80) = true := by rw [h0]; rfl
    have hkl := h80 h0
    have hok := okRec_of (s := s) (nm := (80, k)) (show nameOf [p0, p1, p2, p3, p4, p5, p6] = (80, k) by simp [nameOf, h0, hk]) hval
    have hv : okRec s [p0, p1, p2, p3, p4, p5, p6] = !(sumB s k != (vl : Int)) := by
      rw [hok]
      by_cases h : sumB s k = (vl : Int) <;> simp [h]
    refine region_K (KpR (fun w : World => (Whole w b3 24 #[.int .i64 s.width, .int .i64 s.step, .slice As s.rd.length cs] ∧ IntsAt w W.heap.size As s.rd) ∧ Below W.heap.size W w) (fun _ => false)) (wideF_plain _) (by kernel_rfl) Try.mixed ?_
    change AnyK _ _ _ _ 28 (Array.replicate 28 false) _ _
    have hR : (fun w : World => (Whole w b3 24 #[.int .i64 s.width, .int .i64 s.step, .slice As s.rd.length cs] ∧ IntsAt w W.heap.size As s.rd) ∧ Below W.heap.size W w) W.drew := hR0
    refine AnyK.move (i := 0) may_o (v := strV [p0, p1, p2, p3, p4, p5, p6]) (by simp [t9]) hR ?_
    refine AnyK.indexV (i := 1) may_o (u := strV [p0, p1, p2, p3, p4, p5, p6]) (u' := .int .i64 (0)) (v := u8V p0) (by simp [hz]) (by simp) (fun w => ix9 (k := 0) rfl w) hR ?_
    refine AnyK.bin (i := 2) may_o (u := u8V p0) (u' := .int .u8 82) (v := .bool false) (by simp [hz]) (by simp) (fun w => by rw [← e1]; exact eql5n p0 82 w) hR ?_
    refine AnyK.move (i := 3) may_o (v := .bool false) (by simp [hz]) hR ?_
    refine AnyK.passG (i := 4) may_o (e := 46) (b' := false) rfl (by simp [hz]) rfl hR ?_
    refine AnyK.passG (i := 5) may_o (e := 46) (b' := false) rfl (by simp [hz]) rfl hR ?_
    refine AnyK.passG (i := 6) may_o (e := 46) (b' := false) rfl (by simp [hz]) rfl hR ?_
    refine AnyK.passG (i := 7) may_o (e := 46) (b' := false) rfl (by simp [hz]) rfl hR ?_
    refine AnyK.passG (i := 8) may_o (e := 46) (b' := false) rfl (by simp [hz]) rfl hR ?_
    refine AnyK.passG (i := 9) may_o (e := 46) (b' := false) rfl (by simp [hz]) rfl hR ?_
    refine AnyK.passG (i := 10) may_o (e := 46) (b' := false) rfl (by simp [hz]) rfl hR ?_
    refine AnyK.passG (i := 11) may_o (e := 46) (b' := false) rfl (by simp [hz]) rfl hR ?_
    refine AnyK.passG (i := 12) may_o (e := 46) (b' := false) rfl (by simp [hz]) rfl hR ?_
    refine AnyK.pick (i := 13) may_o (b := false) (v := .bool false) (by simp [hz]) (by simp) hR ?_
    refine AnyK.move (i := 14) may_o (v := .bool false) (by simp [hz]) hR ?_
    refine AnyK.move (i := 15) may_o (v := strV [p0, p1, p2, p3, p4, p5, p6]) (by simp [t9]) hR (hw := (by exact wanted_g (e := 57) (b' := false) rfl (by simp [hz]) rfl)) ?_
    refine AnyK.indexV (i := 16) may_o (u := strV [p0, p1, p2, p3, p4, p5, p6]) (u' := .int .i64 (0)) (v := u8V p0) (by simp [hz]) (by simp) (fun w => ix9 (k := 0) rfl w) hR (hw := (by exact wanted_g (e := 57) (b' := false) rfl (by simp [hz]) rfl)) ?_
    refine AnyK.bin (i := 17) may_o (u := u8V p0) (u' := .int .u8 80) (v := .bool true) (by simp [hz]) (by simp) (fun w => by rw [← e2]; exact eql5n p0 80 w) hR (hw := (by exact wanted_g (e := 57) (b' := false) rfl (by simp [hz]) rfl)) ?_
    refine AnyK.move (i := 18) may_o (v := .bool true) (by simp [hz]) hR (hw := (by exact wanted_g (e := 57) (b' := false) rfl (by simp [hz]) rfl)) ?_
    refine AnyK.load (i := 19) may_o (p := ⟨b3, 0, none⟩) (v := serV s As cs) (by simp [t3]) (fun w hw => ld24 ⟨hw.1.1.cell 0, hw.1.1.cell 1, hw.1.1.cell 2⟩) hR (hw := (by exact wanted_g (e := 61) (b' := true) rfl (by simp [hz]) rfl)) ?_
    refine AnyK.move (i := 20) may_o (v := strV [p0, p1, p2, p3, p4, p5, p6]) (by simp [t9]) hR (hw := (by exact wanted_g (e := 61) (b' := true) rfl (by simp [hz]) rfl)) ?_
    refine AnyK.move (i := 23) may_o (v := strV [p0, p1, p2, p3, p4, p5, p6]) (by simp [t9]) hR (hw := (by exact wanted_g (e := 61) (b' := true) rfl (by simp [hz]) rfl)) ?_
    refine AnyK.pick1 (i := 21) (by kernel_rfl) ?_
    refine StepK.call (i := 21) (f := 65) (vs := #[strV [p0, p1, p2, p3, p4, p5, p6], .int .i64 (1)]) rfl (enters_of Try.func65 (by kernel_rfl) rfl) rfl (by simp [hz]) ((num_any [p0, p1, p2, p3, p4, p5, p6] 1 p1 p2 rfl rfl (by omega) _).mono ?_) (hw := (by exact wanted_g (e := 61) (b' := true) rfl (by simp [hz]) rfl))
    rintro _ V21 ⟨rfl, hb21⟩
    rw [hk]
    replace hR : (fun w : World => (Whole w b3 24 #[.int .i64 s.width, .int .i64 s.step, .slice As s.rd.length cs] ∧ IntsAt w W.heap.size As s.rd) ∧ Below W.heap.size W w) V21 := hgr _ _ hR hb21
    refine ⟨_, rfl, fun _ _ => hR, ?_⟩
    refine AnyK.pick1 (i := 22) (by kernel_rfl) ?_
    refine StepK.call (i := 22) (f := 54) (vs := #[serV s As cs, .int .i64 (k : Int)]) rfl (enters_of Try.func54 (by kernel_rfl) rfl) rfl (by simp [hz]) ((refSum_any s As cs k _ (by omega) (by omega) (by omega) (by omega) hin (hR.1.2.more hR.2.size)).mono ?_) (hw := (by exact wanted_g (e := 61) (b' := true) rfl (by simp [hz]) rfl))
    rintro _ V22 ⟨rfl, hb22⟩
    replace hR : (fun w : World => (Whole w b3 24 #[.int .i64 s.width, .int .i64 s.step, .slice As s.rd.length cs] ∧ IntsAt w W.heap.size As s.rd) ∧ Below W.heap.size W w) V22 := hgr _ _ hR hb22
    refine ⟨_, rfl, fun _ _ => hR, ?_⟩
    refine AnyK.pick1 (i := 24) (by kernel_rfl) ?_
    refine StepK.call (i := 24) (f := 65) (vs := #[strV [p0, p1, p2, p3, p4, p5, p6], .int .i64 (3)]) rfl (enters_of Try.func65 (by kernel_rfl) rfl) rfl (by simp [hz]) ((num_any [p0, p1, p2, p3, p4, p5, p6] 3 p3 p4 rfl rfl (by omega) _).mono ?_) (hw := (by exact wanted_g (e := 61) (b' := true) rfl (by simp [hz]) rfl))
    rintro _ V24 ⟨rfl, hb24⟩
    rw [hvl]
    replace hR : (fun w : World => (Whole w b3 24 #[.int .i64 s.width, .int .i64 s.step, .slice As s.rd.length cs] ∧ IntsAt w W.heap.size As s.rd) ∧ Below W.heap.size W w) V24 := hgr _ _ hR hb24
    refine ⟨_, rfl, fun _ _ => hR, ?_⟩
    refine AnyK.bin (i := 25) may_o (u := .int .i64 (sumB s k)) (u' := .int .i64 (vl : Int)) (v := .bool (sumB s k != (vl : Int))) (by simp [hz]) (by simp [hz]) (fun w => neq3 w) hR (hw := (by exact wanted_g (e := 61) (b' := true) rfl (by simp [hz]) rfl)) ?_
    refine AnyK.pick (i := 26) may_o (b := true) (v := .bool (sumB s k != (vl : Int))) (by simp [hz]) (by simp [hz]) hR (hw := (by exact wanted_g (e := 57) (b' := false) rfl (by simp [hz]) rfl)) ?_
    refine AnyK.pick (i := 27) may_o (b := false) (v := .bool (sumB s k != (vl : Int))) (by simp [hz]) (by simp [hz]) hR ?_
    refine AnyK.done (by kernel_rfl) ?_
    exact hQ _ _ hR.2 (by simp only [size_put, hz]) (by simp only [defers_put, hd_a]) (by simp [t0]) (by simp [t3]) (by simp [t8]) (by rw [hv]; simp only [Bool.not_not]; exact (by simp [hz]))
end
end Go.Proofs.YtmdlmmfbcnkanaaR
namespace Go.Proofs.YtmdlmmfbcnkanaaR

end Go.Proofs.YtmdlmmfbcnkanaaR
namespace Go.Proofs.YtmdlmmfbcnkanaaR
open Go.RowKit Go.Shelf
section
attribute [local irreducible] AnyK StepK
variable {s : Ser} {T : List (List UInt8)} {r : List UInt8} {W : World}
end
end Go.Proofs.YtmdlmmfbcnkanaaR
namespace Go.Proofs.YtmdlmmfbcnkanaaR
open Go.RowKit Go.Shelf
section
attribute [local irreducible] AnyK StepK
variable {s : Ser} {T : List (List UInt8)} {W : World}
end
end Go.Proofs.YtmdlmmfbcnkanaaR
namespace Go.Proofs.YtmdlmmfbcnkanaaR
open Go.RowKit Go.Shelf
section
attribute [local irreducible] AnyK StepK
variable {s : Ser} {T : List (List UInt8)} {W : World}
end
end Go.Proofs.YtmdlmmfbcnkanaaR
namespace Go.Proofs.YtmdlmmfbcnkanaaR
open Go.RowKit Go.Shelf
section
attribute [local irreducible] AnyK StepK
variable {s : Ser} {T : List (List UInt8)} {W : World}
end
end Go.Proofs.YtmdlmmfbcnkanaaR
namespace Go.Proofs.YtmdlmmfbcnkanaaR
open Go.RowKit Go.Shelf
theorem pieces_mem : ∀ (l acc p : List UInt8), p ∈ pieces acc l → p.length ≤ acc.length + l.length
  | [], acc, p, h => by simp [pieces] at h
  | b :: l, acc, p, h => by
    rw [pieces] at h
    split at h
    · rcases List.mem_cons.1 h with rfl | h
      · simp only [List.length_cons]; omega
      · have := pieces_mem l [] p h
        simp only [List.length_cons, List.length_nil] at this ⊢
        omega
    · have := pieces_mem l _ p h
      simp only [List.length_append, List.length_cons, List.length_nil] at this ⊢
      omega
section
attribute [local irreducible] AnyK StepK
end
end Go.Proofs.YtmdlmmfbcnkanaaR
namespace Go.Proofs.YtmdlmmfbcnkanaaR
open Go.RowKit Go.Shelf
theorem leqF3 {x y : Operand} {m n : Int} (h : ¬m ≤ n) (w : World) : (do eqGuard .leq 3 x y (.int .i64 m) (.int .i64 n); binOp .leq 3 (.int .i64 m) (.int .i64 n) : Sem Value).run Try.prog w = .ok (.bool false) w := by
  rw [leq3, decide_eq_false h]
section
attribute [local irreducible] AnyK StepK
set_option maxHeartbeats 400000 in
theorem rf_b_any {s : Ser} {A As : Option Addr} {L : List (List UInt8)} {c cs b3 : Nat} {a : Act} {W W1 : World} (hf : faultS s = 0) (hL : L.length ≤ 90000) (hgd : ∀ x, x ∈ L → isGood x = true) (hbd : ∀ p, p ∈ L → (p.head? = some 82 → (nameOf p).2 < s.rd.length) ∧ (p.head? = some 80 → (nameOf p).2 ≤ 100)) (hv : fitsG L s = L.all (okRec s))
    (w3 : Whole W1 b3 24 #[.int .i64 s.width, .int .i64 s.step, .slice As s.rd.length cs]) (hs : IntsAt W1 W1.heap.size As s.rd) (hst : StrsAt W1 W1.heap.size A L)
    (hz : a.tmps.size = 71) (hd_a : a.defers = []) (t0 : a.eval (.tmp 0) = .slice A L.length c) (t3 : a.eval (.tmp 3) = ptr b3) (hB : Below W.heap.size W W1) :
    rf_b.wpIn Fence.wide 5 Try.prog (bodyPost Try.prog Try.f36 (EvP W (.bool (fitsG L s)))) a W1 := by
  unfold rf_b
  refine wpIn_seq (wpIn_seq (region_p 1 ?_))
  intro K hK
  refine ListK.assign (i := 0) (v := .int .i64 0) rfl (by simp) ?_
  refine ListK.done (hK _ _ ?_)
  clear hK K
  generalize hA : Act.put _ _ _ = a3
  have hz_a3 : a3.tmps.size = 71 := by rw [← hA]; simp only [size_put, hz]
  have x0 : a3.eval (.tmp 0) = .slice A L.length c := by rw [← hA]; exact (by simp [t0])
  have x3 : a3.eval (.tmp 3) = .pointer (some ⟨b3, 0, none⟩) := by rw [← hA]; exact (by simp [t3])
  have x8 : a3.eval (.tmp 8) = .int .i64 0 := by rw [← hA]; exact (by simp [hz])
  have hd_a3 : a3.defers = [] := by rw [← hA]; simp only [defers_put, hd_a]
  clear hA
  refine wpIn_block (wpIn_loop (fun a W' => ∃ i : Nat, Below W1.heap.size W1 W' ∧ i ≤ L.length ∧ (∀ (j : Nat) (p : List UInt8), j < i → L[j]? = some p → okRec s p = true) ∧ a.tmps.size = 71 ∧ a.defers = [] ∧ a.eval (.tmp 0) = .slice A L.length c ∧ a.eval (.tmp 3) = ptr b3 ∧ a.eval (.tmp 8) = .int .i64 (i : Int)) (fun a _ => L.length - (intOf (a.eval (.tmp 8))).toNat)
    ⟨0, Below.refl _ _, Nat.zero_le _, fun j p h => by omega, hz_a3, hd_a3, x0, x3, x8⟩ ?_)
  rintro b1 W2 ⟨i, hb2, hi, hno, hz_b1, hd_b1, s0, s3, s8⟩
  unfold rf_l
  by_cases hlt : i < L.length
  · have hx := List.getElem?_eq_getElem hlt
    obtain ⟨gb, off, hA, hgb, hc⟩ := hst i _ hx
    obtain ⟨p, hpe⟩ : ∃ p, L[i] = p := ⟨_, rfl⟩
    rw [hpe] at hx hc
    have hc2 := (hb2.cell (p := ⟨gb, off + i, none⟩) hgb).trans hc
    have hpm := List.mem_of_getElem? hx
    have hpb := hbd p hpm
    obtain ⟨p0, p1, p2, p3, p4, p5, p6, rfl, h0, _, _⟩ := good_parts (hgd p hpm)
    have h82 : p0 = 82 → num2 p1 p2 < s.rd.length := fun h => by have := hpb.1 (by rw [h]; rfl); simpa [nameOf, h] using this
    have h80 : p0 = 80 → num2 p1 p2 ≤ 100 := fun h => by have := hpb.2 (by rw [h]; rfl); simpa [nameOf, h] using this
    subst hA
    refine wpIn_seq (wpIn_seq (region_p 4 ?_))
    intro K hK
    refine ListK.move (i := 0) (v := .int .i64 (i : Int)) rfl (by simp [s8]) ?_
    refine ListK.move (i := 1) (v := .slice (some ⟨gb, off, none⟩) L.length c) rfl (by simp [s0]) ?_
    refine ListK.len (i := 2) (u := .slice (some ⟨gb, off, none⟩) L.length c) (v := .int .i64 L.length) rfl (by simp [hz_b1]) (ln36 _ _ _ _ _) rfl ?_
    refine ListK.bin (i := 3) (u := .int .i64 (i : Int)) (u' := .int .i64 L.length) (v := .bool true) rfl (by simp [hz_b1]) (by simp [hz_b1]) (lssT3 (by omega) _) ?_
    refine ListK.done (hK _ _ ?_)
    clear hK K
    refine wpIn_cond (t := true) (by simp [hz_b1]) (wpIn_skip ?_)
    generalize hA : Act.put _ _ _ = b2
    have hz_b2 : b2.tmps.size = 71 := by rw [← hA]; simp only [size_put, hz_b1]
    have o0 : b2.eval (.tmp 0) = .slice (some ⟨gb, off, none⟩) L.length c := by rw [← hA]; exact (by simp [s0])
    have o3 : b2.eval (.tmp 3) = .pointer (some ⟨b3, 0, none⟩) := by rw [← hA]; exact (by simp [s3])
    have o8 : b2.eval (.tmp 8) = .int .i64 (i : Int) := by rw [← hA]; exact (by simp [s8])
    have hd_b2 : b2.defers = [] := by rw [← hA]; simp only [defers_put, hd_b1]
    clear hA
    refine wpIn_seq (wpIn_block ?_)
    refine wpIn_seq (region_p 5 ?_)
    intro K hK
    refine ListK.move (i := 0) (v := .slice (some ⟨gb, off, none⟩) L.length c) rfl (by simp [o0]) ?_
    refine ListK.move (i := 1) (v := .int .i64 (i : Int)) rfl (by simp [o8]) ?_
    refine ListK.index (i := 2) (u := .slice (some ⟨gb, off, none⟩) L.length c) (u' := .int .i64 (i : Int)) (v := .pointer (some ⟨gb, off + i, none⟩)) rfl (by simp [hz_b2]) (by simp [hz_b2]) (ix36 hlt _) ?_
    refine ListK.load (i := 3) (p := ⟨gb, off + i, none⟩) (v := strV [p0, p1, p2, p3, p4, p5, p6]) rfl (by simp [hz_b2]) (ld9 (hc2)) ?_
    refine ListK.assign (i := 4) (v := strV [p0, p1, p2, p3, p4, p5, p6]) rfl (by simp [hz_b2]) ?_
    refine ListK.done (hK _ _ ?_)
    clear hK K
    refine wpIn_seq (rf_8_any (i := i) (n := L.length) (c := c) (A := some ⟨gb, off, none⟩) (p0 := p0) (p1 := p1) (p2 := p2) (p3 := p3) (p4 := p4) (p5 := p5) (p6 := p6) hf h0 h82 h80 (w3.below hb2 w3.lt) ((hs.below hb2 (Nat.le_refl _)).more hb2.size) (by simp only [size_put, hz_b2]) (by simp only [defers_put, hd_b2]) (by simp [o0]) (by simp [o3]) (by simp [o8]) (by simp [hz_b2]) ?_)
    intro b W' hb' hz_b hd_b y0 y3 y8 y70
    have hb3 := hb2.trans (hb'.mono hb2.size)
    cases hok : okRec s [p0, p1, p2, p3, p4, p5, p6]
    · rw [hok] at y70
      refine wpIn_cond (t := true) y70 ?_
      refine wpIn_seq (region_p 1 ?_)
      intro K hK
      refine ListK.assign (i := 0) (v := .bool false) rfl (by simp) ?_
      refine ListK.done (hK _ _ (wpIn_ret ?_))
      have hfl : fitsG L s = false := by
        rw [hv]
        exact List.all_eq_false.2 ⟨_, hpm, by rw [hok]; decide⟩
      exact bodyPost_ret (v := .bool (fitsG L s)) (res1 Try.results36 (by rw [hfl]; exact (by simp [hz_b]))) (by simp only [defers_put, hd_b]) ⟨rfl, hB.trans (hb3.mono hB.size)⟩
    · rw [hok] at y70
      refine wpIn_cond (t := false) y70 (wpIn_skip ?_)
      show (Code.wpIn _ _ _ (Code.region _ _ _) _ _ _)
      refine region_p 3 ?_
      intro K hK
      refine ListK.move (i := 0) (v := .int .i64 (i : Int)) rfl (by simp [y8]) ?_
      refine ListK.bin (i := 1) (u := .int .i64 (i : Int)) (u' := .int .i64 1) (v := .int .i64 ((i + 1 : Nat) : Int)) rfl (by simp [hz_b]) (by simp) (add3 (by omega) (by omega) _) ?_
      refine ListK.assign (i := 2) (v := .int .i64 ((i + 1 : Nat) : Int)) rfl (by simp [hz_b]) ?_
      refine ListK.done (hK _ _ ?_)
      clear hK K
      refine ⟨⟨i + 1, hb3, by omega, fun j q h hq => ?_, (by simp only [size_put, hz_b]), (by simp only [defers_put, hd_b]), (by simp [y0]), (by simp [y3]), (by simp [hz_b])⟩, ?_⟩
      · by_cases hji : j = i
        · subst hji
          rw [hx] at hq
          cases hq
          exact hok
        · exact hno j q (by omega) hq
      · rw [s8, show (Act.put _ _ _).eval (.tmp 8) = .int .i64 ((i + 1 : Nat) : Int) from (by simp [hz_b])]
        simp only [intOf]
        omega
  · have hie : i = L.length := by omega
    refine wpIn_seq (wpIn_seq (region_p 4 ?_))
    intro K hK
    refine ListK.move (i := 0) (v := .int .i64 (i : Int)) rfl (by simp [s8]) ?_
    refine ListK.move (i := 1) (v := .slice A L.length c) rfl (by simp [s0]) ?_
    refine ListK.len (i := 2) (u := .slice A L.length c) (v := .int .i64 L.length) rfl (by simp [hz_b1]) (ln36 _ _ _ _ _) rfl ?_
    refine ListK.bin (i := 3) (u := .int .i64 (i : Int)) (u' := .int .i64 L.length) (v := .bool false) rfl (by simp [hz_b1]) (by simp [hz_b1]) (lssF3 (by omega) _) ?_
    refine ListK.done (hK _ _ ?_)
    clear hK K
    refine wpIn_cond (t := false) (by simp [hz_b1]) (wpIn_exit ?_)
    show (Code.wpIn _ _ _ (Code.seq _ _) _ _ _)
    have hfl : fitsG L s = true := by
      rw [hv]
      refine List.all_eq_true.2 fun p hp => ?_
      obtain ⟨j, hj⟩ := List.getElem?_of_mem hp
      exact hno j p (by have := (List.getElem?_eq_some_iff.1 hj).1; omega) hj
    refine wpIn_seq (region_p 1 ?_)
    intro K hK
    refine ListK.assign (i := 0) (v := .bool true) rfl (by simp) ?_
    refine ListK.done (hK _ _ (wpIn_ret ?_))
    exact bodyPost_ret (v := .bool (fitsG L s)) (res1 Try.results36 (by rw [hfl]; exact (by simp [hz_b1]))) (by simp only [defers_put, hd_b1]) ⟨rfl, hB.trans (hb2.mono hB.size)⟩
end
set_option maxHeartbeats 400000 in
theorem refFits_any (s : Ser) (A As : Option Addr) (c cs : Nat) (L : List (List UInt8)) (hL : L.length ≤ 90000) (hgd : ∀ x, x ∈ L → isGood x = true) (ht : toldG L = 0) (hf : faultS s = 0) (W : World) (hst : StrsAt W W.heap.size A L) (hs : IntsAt W W.heap.size As s.rd) : Calls Try.prog 36 #[.slice A L.length c, serV s As cs] W (EvP W (.bool (fitsG L s))) := by
  obtain ⟨hm0, hout⟩ := told_zero ht
  have hHb := headG_b hgd (by omega)
  obtain ⟨H, hHe⟩ : ∃ H, headG L = H := ⟨_, rfl⟩
  rw [hHe] at hm0 hout hHb
  obtain ⟨hlen, hwd, hsp, hin, _⟩ := ser_valid hf
  have hfg : fitsG L s = (headEqB s H && L.all (okRec s)) := by unfold fitsG; rw [hHe]
  refine (callsIn_wide (n := 5)).1 (callsIn_of_wp Try.func36 body36 trivial ?_ rfl)
  obtain ⟨a, ha⟩ : ∃ a : Act, a = { tmps := #[.slice A L.length c, serV s As cs] ++ Array.replicate (Try.f36.ntmps - (#[.slice A L.length c, serV s As cs] : Array Value).size) undef, defers := [] } := ⟨_, rfl⟩
  have hsz : a.tmps.size = 71 := by rw [ha]; simp [Try.ntmps36]
  have t0 : a.eval (.tmp 0) = .slice A L.length c := by rw [ha]; simp [Act.eval]
  have t1 : a.eval (.tmp 1) = serV s As cs := by rw [ha]; simp [Act.eval]
  have hd_a : a.defers = [] := by rw [ha]
  rw [← ha]
  clear ha
  unfold code36
  refine wpIn_seq (region_p 2 ?_)
  intro K hK
  refine ListK.box (i := 0) (u := serV s As cs) rfl (by simp [t1]) (bx24 W _ _ _ _ _) ?_
  refine ListK.assign (i := 1) (v := .bool false) rfl (by simp) ?_
  refine ListK.done (hK _ _ ?_)
  clear hK K
  replace hs : IntsAt (W.alloc (.cells #[.int .i64 s.width, .int .i64 s.step, .slice As s.rd.length cs] 24)) W.heap.size As s.rd := hs.below ((Below.refl W.heap.size W).alloc (Nat.le_refl _) _) (Nat.le_refl _)
  replace hst : StrsAt (W.alloc (.cells #[.int .i64 s.width, .int .i64 s.step, .slice As s.rd.length cs] 24)) W.heap.size A L := hst.below ((Below.refl W.heap.size W).alloc (Nat.le_refl _) _) (Nat.le_refl _)
  have w3 := Whole.new W 24 #[.int .i64 s.width, .int .i64 s.step, .slice As s.rd.length cs]
  have hb_b3 : Below W.heap.size W (W.alloc (.cells #[.int .i64 s.width, .int .i64 s.step, .slice As s.rd.length cs] 24)) := (Below.refl _ W).alloc (Nat.le_refl _) _
  have hB := hb_b3
  generalize hq_b3 : W.heap.size = b3 at *
  generalize W.alloc (.cells #[.int .i64 s.width, .int .i64 s.step, .slice As s.rd.length cs] 24) = W1 at *
  have hsz1 := hB.size
  replace hs := hs.more (show b3 ≤ W1.heap.size by omega)
  replace hst := hst.wide (show b3 ≤ W1.heap.size by omega)
  rw [← hq_b3] at hB
  generalize hA : Act.put _ _ _ = a1
  have hz_a1 : a1.tmps.size = 71 := by rw [← hA]; simp only [size_put, hsz]
  have u0 : a1.eval (.tmp 0) = .slice A L.length c := by rw [← hA]; exact (by simp [t0])
  have u3 : a1.eval (.tmp 3) = .pointer (some ⟨b3, 0, none⟩) := by rw [← hA]; exact (by simp [hsz])
  have hd_a1 : a1.defers = [] := by rw [← hA]; simp only [defers_put, hd_a]
  clear hA
  refine wpIn_seq (region_p 9 ?_)
  intro K hK
  refine ListK.move (i := 0) (v := .slice A L.length c) rfl (by simp [u0]) ?_
  refine ListK.call (i := 1) (vs := #[.slice A L.length c]) rfl (enters_of Try.func62 (by kernel_rfl) rfl) (by simp [hz_a1]) ((refHead_any A c L hL hgd W1 hst).mono ?_)
  rintro _ W2 ⟨rfl, hb2⟩
  rw [hHe]
  refine ⟨_, rfl, ?_⟩
  refine ListK.move (i := 2) (v := hdT H) rfl (by simp [hz_a1]) ?_
  refine ListK.extract (i := 3) (u := hdT H) (v := .int .i64 (H.many : Int)) rfl (by simp [hz_a1]) (ex30 _ _ _ _) ?_
  refine ListK.extract (i := 4) (u := hdT H) (v := .int .i64 (H.width : Int)) rfl (by simp [hz_a1]) (ex31 _ _ _ _) ?_
  refine ListK.extract (i := 5) (u := hdT H) (v := .int .i64 (H.step : Int)) rfl (by simp [hz_a1]) (ex32 _ _ _ _) ?_
  refine ListK.assign (i := 6) (v := .int .i64 (H.many : Int)) rfl (by simp [hz_a1]) ?_
  refine ListK.assign (i := 7) (v := .int .i64 (H.width : Int)) rfl (by simp [hz_a1]) ?_
  refine ListK.assign (i := 8) (v := .int .i64 (H.step : Int)) rfl (by simp [hz_a1]) ?_
  refine ListK.done (hK _ _ ?_)
  clear hK K
  have w2 := w3.below hb2 w3.lt
  have hs2 := (hs.below hb2 (Nat.le_refl _)).more hb2.size
  have hst2 := (hst.below hb2 (Nat.le_refl _)).wide hb2.size
  have hB2 := hB.trans (hb2.mono hB.size)
  generalize hA : Act.put _ _ _ = a2
  have hz_a2 : a2.tmps.size = 71 := by rw [← hA]; simp only [size_put, hz_a1]
  have v0 : a2.eval (.tmp 0) = .slice A L.length c := by rw [← hA]; exact (by simp [u0])
  have v3 : a2.eval (.tmp 3) = .pointer (some ⟨b3, 0, none⟩) := by rw [← hA]; exact (by simp [u3])
  have v5 : a2.eval (.tmp 5) = .int .i64 (H.many : Int) := by rw [← hA]; exact (by simp [hz_a1])
  have v6 : a2.eval (.tmp 6) = .int .i64 (H.width : Int) := by rw [← hA]; exact (by simp [hz_a1])
  have v7 : a2.eval (.tmp 7) = .int .i64 (H.step : Int) := by rw [← hA]; exact (by simp [hz_a1])
  have hd_a2 : a2.defers = [] := by rw [← hA]; simp only [defers_put, hd_a1]
  clear hA
  by_cases h1 : (s.rd.length : Int) = (H.many : Int)
  · by_cases h2 : s.width = (H.width : Int)
    · by_cases h3 : s.step = (H.step : Int)
      · have hv : fitsG L s = L.all (okRec s) := by rw [hfg]; unfold headEqB; rw [decide_eq_true h1, decide_eq_true h2, decide_eq_true h3]; simp
        have hbd : ∀ p, p ∈ L → (p.head? = some 82 → (nameOf p).2 < s.rd.length) ∧ (p.head? = some 80 → (nameOf p).2 ≤ 100) := by
          intro p hp
          have ho := hout p hp
          obtain ⟨p0, p1, p2, p3, p4, p5, p6, rfl, _, _, _⟩ := good_parts (hgd p hp)
          refine ⟨fun h => ?_, fun h => ?_⟩
          · simp only [List.head?_cons, Option.some.injEq] at h
            subst h
            rw [outOf_of (nm := (82, num2 p1 p2)) (by simp [nameOf])] at ho
            simp at ho
            simp [nameOf]
            omega
          · simp only [List.head?_cons, Option.some.injEq] at h
            subst h
            rw [outOf_of (nm := (80, num2 p1 p2)) (by simp [nameOf])] at ho
            have hbl : H.blocks ≤ 100 := by
              have h4 := hHb.many
              have h5 := hHb.width
              unfold Head.blocks
              exact Nat.le_trans (Nat.div_le_self _ _) (by omega)
            simp at ho
            simp [nameOf]
            omega
        refine wpIn_seq (wpIn_seq (region_p 17 ?_))
        intro K hK
        refine ListK.field (i := 0) (u := .pointer (some ⟨b3, 0, none⟩)) (v := .pointer (some ⟨b3, 2, none⟩)) rfl (by simp [v3]) (fa24_2 _) ?_
        refine ListK.load (i := 1) (p := ⟨b3, 2, none⟩) (v := .slice As s.rd.length cs) rfl (by simp [hz_a2]) (ld22 ((w2.cell 2))) ?_
        refine ListK.len (i := 2) (u := .slice As s.rd.length cs) (v := .int .i64 s.rd.length) rfl (by simp [hz_a2]) (ln22 _ _ _ _ _) rfl ?_
        refine ListK.move (i := 3) (v := .int .i64 (H.many : Int)) rfl (by simp [v5]) ?_
        refine ListK.bin (i := 4) (u := .int .i64 s.rd.length) (u' := .int .i64 (H.many : Int)) (v := .bool false) rfl (by simp [hz_a2]) (by simp [hz_a2]) (neqF h1 _) ?_
        refine ListK.move (i := 5) (v := .bool false) rfl (by simp [hz_a2]) ?_
        refine ListK.field (i := 6) (u := .pointer (some ⟨b3, 0, none⟩)) (v := .pointer (some ⟨b3, 0, none⟩)) rfl (by simp [v3]) (fa24_0 _) ?_ (hw := wanted_g (e := 21) (b' := false) rfl (by simp [hz_a2]) rfl)
        refine ListK.load (i := 7) (p := ⟨b3, 0, none⟩) (v := .int .i64 s.width) rfl (by simp [hz_a2]) (ld3 ((w2.cell 0))) ?_ (hw := wanted_g (e := 21) (b' := false) rfl (by simp [hz_a2]) rfl)
        refine ListK.move (i := 8) (v := .int .i64 (H.width : Int)) rfl (by simp [v6]) ?_ (hw := wanted_g (e := 21) (b' := false) rfl (by simp [hz_a2]) rfl)
        refine ListK.bin (i := 9) (u := .int .i64 s.width) (u' := .int .i64 (H.width : Int)) (v := .bool false) rfl (by simp [hz_a2]) (by simp [hz_a2]) (neqF h2 _) ?_ (hw := wanted_g (e := 21) (b' := false) rfl (by simp [hz_a2]) rfl)
        refine ListK.pick (i := 10) (b := false) (v := .bool false) rfl (by simp [hz_a2]) (by simp [hz_a2]) ?_
        refine ListK.move (i := 11) (v := .bool false) rfl (by simp [hz_a2]) ?_
        refine ListK.field (i := 12) (u := .pointer (some ⟨b3, 0, none⟩)) (v := .pointer (some ⟨b3, 1, none⟩)) rfl (by simp [v3]) (fa24_1 _) ?_ (hw := wanted_g (e := 27) (b' := false) rfl (by simp [hz_a2]) rfl)
        refine ListK.load (i := 13) (p := ⟨b3, 1, none⟩) (v := .int .i64 s.step) rfl (by simp [hz_a2]) (ld3 ((w2.cell 1))) ?_ (hw := wanted_g (e := 27) (b' := false) rfl (by simp [hz_a2]) rfl)
        refine ListK.move (i := 14) (v := .int .i64 (H.step : Int)) rfl (by simp [v7]) ?_ (hw := wanted_g (e := 27) (b' := false) rfl (by simp [hz_a2]) rfl)
        refine ListK.bin (i := 15) (u := .int .i64 s.step) (u' := .int .i64 (H.step : Int)) (v := .bool false) rfl (by simp [hz_a2]) (by simp [hz_a2]) (neqF h3 _) ?_ (hw := wanted_g (e := 27) (b' := false) rfl (by simp [hz_a2]) rfl)
        refine ListK.pick (i := 16) (b := false) (v := .bool false) rfl (by simp [hz_a2]) (by simp [hz_a2]) ?_
        refine ListK.done (hK _ _ ?_)
        clear hK K
        refine wpIn_cond (t := false) (by simp [hz_a2]) (wpIn_skip ?_)
        show rf_b.wpIn _ _ _ _ _ _
        exact rf_b_any (c := c) hf hL hgd hbd hv w2 hs2 hst2 (by simp only [size_put, hz_a2]) (by simp only [defers_put, hd_a2]) (by simp [v0]) (by simp [v3]) hB2
      · have hv : fitsG L s = false := by rw [hfg]; unfold headEqB; rw [decide_eq_false h3]; simp
        refine wpIn_seq (wpIn_seq (region_p 17 ?_))
        intro K hK
        refine ListK.field (i := 0) (u := .pointer (some ⟨b3, 0, none⟩)) (v := .pointer (some ⟨b3, 2, none⟩)) rfl (by simp [v3]) (fa24_2 _) ?_
        refine ListK.load (i := 1) (p := ⟨b3, 2, none⟩) (v := .slice As s.rd.length cs) rfl (by simp [hz_a2]) (ld22 ((w2.cell 2))) ?_
        refine ListK.len (i := 2) (u := .slice As s.rd.length cs) (v := .int .i64 s.rd.length) rfl (by simp [hz_a2]) (ln22 _ _ _ _ _) rfl ?_
        refine ListK.move (i := 3) (v := .int .i64 (H.many : Int)) rfl (by simp [v5]) ?_
        refine ListK.bin (i := 4) (u := .int .i64 s.rd.length) (u' := .int .i64 (H.many : Int)) (v := .bool false) rfl (by simp [hz_a2]) (by simp [hz_a2]) (neqF h1 _) ?_
        refine ListK.move (i := 5) (v := .bool false) rfl (by simp [hz_a2]) ?_
        refine ListK.field (i := 6) (u := .pointer (some ⟨b3, 0, none⟩)) (v := .pointer (some ⟨b3, 0, none⟩)) rfl (by simp [v3]) (fa24_0 _) ?_ (hw := wanted_g (e := 21) (b' := false) rfl (by simp [hz_a2]) rfl)
        refine ListK.load (i := 7) (p := ⟨b3, 0, none⟩) (v := .int .i64 s.width) rfl (by simp [hz_a2]) (ld3 ((w2.cell 0))) ?_ (hw := wanted_g (e := 21) (b' := false) rfl (by simp [hz_a2]) rfl)
        refine ListK.move (i := 8) (v := .int .i64 (H.width : Int)) rfl (by simp [v6]) ?_ (hw := wanted_g (e := 21) (b' := false) rfl (by simp [hz_a2]) rfl)
        refine ListK.bin (i := 9) (u := .int .i64 s.width) (u' := .int .i64 (H.width : Int)) (v := .bool false) rfl (by simp [hz_a2]) (by simp [hz_a2]) (neqF h2 _) ?_ (hw := wanted_g (e := 21) (b' := false) rfl (by simp [hz_a2]) rfl)
        refine ListK.pick (i := 10) (b := false) (v := .bool false) rfl (by simp [hz_a2]) (by simp [hz_a2]) ?_
        refine ListK.move (i := 11) (v := .bool false) rfl (by simp [hz_a2]) ?_
        refine ListK.field (i := 12) (u := .pointer (some ⟨b3, 0, none⟩)) (v := .pointer (some ⟨b3, 1, none⟩)) rfl (by simp [v3]) (fa24_1 _) ?_ (hw := wanted_g (e := 27) (b' := false) rfl (by simp [hz_a2]) rfl)
        refine ListK.load (i := 13) (p := ⟨b3, 1, none⟩) (v := .int .i64 s.step) rfl (by simp [hz_a2]) (ld3 ((w2.cell 1))) ?_ (hw := wanted_g (e := 27) (b' := false) rfl (by simp [hz_a2]) rfl)
        refine ListK.move (i := 14) (v := .int .i64 (H.step : Int)) rfl (by simp [v7]) ?_ (hw := wanted_g (e := 27) (b' := false) rfl (by simp [hz_a2]) rfl)
        refine ListK.bin (i := 15) (u := .int .i64 s.step) (u' := .int .i64 (H.step : Int)) (v := .bool true) rfl (by simp [hz_a2]) (by simp [hz_a2]) (neqT h3 _) ?_ (hw := wanted_g (e := 27) (b' := false) rfl (by simp [hz_a2]) rfl)
        refine ListK.pick (i := 16) (b := false) (v := .bool true) rfl (by simp [hz_a2]) (by simp [hz_a2]) ?_
        refine ListK.done (hK _ _ ?_)
        clear hK K
        refine wpIn_cond (t := true) (by simp [hz_a2]) ?_
        generalize hA : Act.put _ _ _ = a3
        have hz_a3 : a3.tmps.size = 71 := by rw [← hA]; simp only [size_put, hz_a2]
        have x0 : a3.eval (.tmp 0) = .slice A L.length c := by rw [← hA]; exact (by simp [v0])
        have x3 : a3.eval (.tmp 3) = .pointer (some ⟨b3, 0, none⟩) := by rw [← hA]; exact (by simp [v3])
        have hd_a3 : a3.defers = [] := by rw [← hA]; simp only [defers_put, hd_a2]
        clear hA
        refine wpIn_seq (region_p 1 ?_)
        intro K hK
        refine ListK.assign (i := 0) (v := .bool false) rfl (by simp) ?_
        refine ListK.done (hK _ _ (wpIn_ret ?_))
        exact bodyPost_ret (v := .bool (fitsG L s)) (res1 Try.results36 (by rw [hv]; exact (by simp [hz_a3]))) (by simp only [defers_put, hd_a3]) ⟨rfl, hB2⟩
    · have hv : fitsG L s = false := by rw [hfg]; unfold headEqB; rw [decide_eq_false h2]; simp
      refine wpIn_seq (wpIn_seq (region_p 17 ?_))
      intro K hK
      refine ListK.field (i := 0) (u := .pointer (some ⟨b3, 0, none⟩)) (v := .pointer (some ⟨b3, 2, none⟩)) rfl (by simp [v3]) (fa24_2 _) ?_
      refine ListK.load (i := 1) (p := ⟨b3, 2, none⟩) (v := .slice As s.rd.length cs) rfl (by simp [hz_a2]) (ld22 ((w2.cell 2))) ?_
      refine ListK.len (i := 2) (u := .slice As s.rd.length cs) (v := .int .i64 s.rd.length) rfl (by simp [hz_a2]) (ln22 _ _ _ _ _) rfl ?_
      refine ListK.move (i := 3) (v := .int .i64 (H.many : Int)) rfl (by simp [v5]) ?_
      refine ListK.bin (i := 4) (u := .int .i64 s.rd.length) (u' := .int .i64 (H.many : Int)) (v := .bool false) rfl (by simp [hz_a2]) (by simp [hz_a2]) (neqF h1 _) ?_
      refine ListK.move (i := 5) (v := .bool false) rfl (by simp [hz_a2]) ?_
      refine ListK.field (i := 6) (u := .pointer (some ⟨b3, 0, none⟩)) (v := .pointer (some ⟨b3, 0, none⟩)) rfl (by simp [v3]) (fa24_0 _) ?_ (hw := wanted_g (e := 21) (b' := false) rfl (by simp [hz_a2]) rfl)
      refine ListK.load (i := 7) (p := ⟨b3, 0, none⟩) (v := .int .i64 s.width) rfl (by simp [hz_a2]) (ld3 ((w2.cell 0))) ?_ (hw := wanted_g (e := 21) (b' := false) rfl (by simp [hz_a2]) rfl)
      refine ListK.move (i := 8) (v := .int .i64 (H.width : Int)) rfl (by simp [v6]) ?_ (hw := wanted_g (e := 21) (b' := false) rfl (by simp [hz_a2]) rfl)
      refine ListK.bin (i := 9) (u := .int .i64 s.width) (u' := .int .i64 (H.width : Int)) (v := .bool true) rfl (by simp [hz_a2]) (by simp [hz_a2]) (neqT h2 _) ?_ (hw := wanted_g (e := 21) (b' := false) rfl (by simp [hz_a2]) rfl)
      refine ListK.pick (i := 10) (b := false) (v := .bool true) rfl (by simp [hz_a2]) (by simp [hz_a2]) ?_
      refine ListK.move (i := 11) (v := .bool true) rfl (by simp [hz_a2]) ?_
      refine ListK.passG (i := 12) (e := 27) (b' := true) rfl rfl (by simp [hz_a2]) rfl ?_
      refine ListK.passG (i := 13) (e := 27) (b' := true) rfl rfl (by simp [hz_a2]) rfl ?_
      refine ListK.passG (i := 14) (e := 27) (b' := true) rfl rfl (by simp [hz_a2]) rfl ?_
      refine ListK.passG (i := 15) (e := 27) (b' := true) rfl rfl (by simp [hz_a2]) rfl ?_
      refine ListK.pick (i := 16) (b := true) (v := .bool true) rfl (by simp [hz_a2]) (by simp) ?_
      refine ListK.done (hK _ _ ?_)
      clear hK K
      refine wpIn_cond (t := true) (by simp [hz_a2]) ?_
      generalize hA : Act.put _ _ _ = a3
      have hz_a3 : a3.tmps.size = 71 := by rw [← hA]; simp only [size_put, hz_a2]
      have x0 : a3.eval (.tmp 0) = .slice A L.length c := by rw [← hA]; exact (by simp [v0])
      have x3 : a3.eval (.tmp 3) = .pointer (some ⟨b3, 0, none⟩) := by rw [← hA]; exact (by simp [v3])
      have hd_a3 : a3.defers = [] := by rw [← hA]; simp only [defers_put, hd_a2]
      clear hA
      refine wpIn_seq (region_p 1 ?_)
      intro K hK
      refine ListK.assign (i := 0) (v := .bool false) rfl (by simp) ?_
      refine ListK.done (hK _ _ (wpIn_ret ?_))
      exact bodyPost_ret (v := .bool (fitsG L s)) (res1 Try.results36 (by rw [hv]; exact (by simp [hz_a3]))) (by simp only [defers_put, hd_a3]) ⟨rfl, hB2⟩
  · have hv : fitsG L s = false := by rw [hfg]; unfold headEqB; rw [decide_eq_false h1]; simp
    refine wpIn_seq (wpIn_seq (region_p 17 ?_))
    intro K hK
    refine ListK.field (i := 0) (u := .pointer (some ⟨b3, 0, none⟩)) (v := .pointer (some ⟨b3, 2, none⟩)) rfl (by simp [v3]) (fa24_2 _) ?_
    refine ListK.load (i := 1) (p := ⟨b3, 2, none⟩) (v := .slice As s.rd.length cs) rfl (by simp [hz_a2]) (ld22 ((w2.cell 2))) ?_
    refine ListK.len (i := 2) (u := .slice As s.rd.length cs) (v := .int .i64 s.rd.length) rfl (by simp [hz_a2]) (ln22 _ _ _ _ _) rfl ?_
    refine ListK.move (i := 3) (v := .int .i64 (H.many : Int)) rfl (by simp [v5]) ?_
    refine ListK.bin (i := 4) (u := .int .i64 s.rd.length) (u' := .int .i64 (H.many : Int)) (v := .bool true) rfl (by simp [hz_a2]) (by simp [hz_a2]) (neqT h1 _) ?_
    refine ListK.move (i := 5) (v := .bool true) rfl (by simp [hz_a2]) ?_
    refine ListK.passG (i := 6) (e := 21) (b' := true) rfl rfl (by simp [hz_a2]) rfl ?_
    refine ListK.passG (i := 7) (e := 21) (b' := true) rfl rfl (by simp [hz_a2]) rfl ?_
    refine ListK.passG (i := 8) (e := 21) (b' := true) rfl rfl (by simp [hz_a2]) rfl ?_
    refine ListK.passG (i := 9) (e := 21) (b' := true) rfl rfl (by simp [hz_a2]) rfl ?_
    refine ListK.pick (i := 10) (b := true) (v := .bool true) rfl (by simp [hz_a2]) (by simp) ?_
    refine ListK.move (i := 11) (v := .bool true) rfl (by simp [hz_a2]) ?_
    refine ListK.passG (i := 12) (e := 27) (b' := true) rfl rfl (by simp [hz_a2]) rfl ?_
    refine ListK.passG (i := 13) (e := 27) (b' := true) rfl rfl (by simp [hz_a2]) rfl ?_
    refine ListK.passG (i := 14) (e := 27) (b' := true) rfl rfl (by simp [hz_a2]) rfl ?_
    refine ListK.passG (i := 15) (e := 27) (b' := true) rfl rfl (by simp [hz_a2]) rfl ?_
    refine ListK.pick (i := 16) (b := true) (v := .bool true) rfl (by simp [hz_a2]) (by simp) ?_
    refine ListK.done (hK _ _ ?_)
    clear hK K
    refine wpIn_cond (t := true) (by simp [hz_a2]) ?_
    generalize hA : Act.put _ _ _ = a3
    have hz_a3 : a3.tmps.size = 71 := by rw [← hA]; simp only [size_put, hz_a2]
    have x0 : a3.eval (.tmp 0) = .slice A L.length c := by rw [← hA]; exact (by simp [v0])
    have x3 : a3.eval (.tmp 3) = .pointer (some ⟨b3, 0, none⟩) := by rw [← hA]; exact (by simp [v3])
    have hd_a3 : a3.defers = [] := by rw [← hA]; simp only [defers_put, hd_a2]
    clear hA
    refine wpIn_seq (region_p 1 ?_)
    intro K hK
    refine ListK.assign (i := 0) (v := .bool false) rfl (by simp) ?_
    refine ListK.done (hK _ _ (wpIn_ret ?_))
    exact bodyPost_ret (v := .bool (fitsG L s)) (res1 Try.results36 (by rw [hv]; exact (by simp [hz_a3]))) (by simp only [defers_put, hd_a3]) ⟨rfl, hB2⟩
noncomputable def opsFi0 : Array Oper := (Try.f7.body.bind (regionOf 0)).getD #[]
noncomputable def opsFi1 : Array Oper := (Try.f7.body.bind (regionOf 1)).getD #[]
noncomputable def opsFi2 : Array Oper := (Try.f7.body.bind (regionOf 2)).getD #[]
noncomputable def opsFi3 : Array Oper := (Try.f7.body.bind (regionOf 3)).getD #[]
noncomputable def opsFi4 : Array Oper := (Try.f7.body.bind (regionOf 4)).getD #[]
noncomputable def opsFi5 : Array Oper := (Try.f7.body.bind (regionOf 5)).getD #[]
noncomputable def fi_b : Code := (.seq (.region 4 opsFi4 false) (.seq (.region 5 opsFi5 false) .ret))
noncomputable def code7 : Code := (.seq (.region 0 opsFi0 false) (.seq (.seq (.region 1 opsFi1 false) (.cond (.tmp 14) (.seq (.region 2 opsFi2 false) .ret) .skip)) (.seq (.region 3 opsFi3 true) fi_b)))
theorem body7 : Try.f7.body = some code7 := by kernel_rfl
section
attribute [local irreducible] AnyK StepK
set_option maxHeartbeats 400000 in
theorem fi_b_any {l : List UInt8} {s : Ser} {As : Option Addr} {cs b3 : Nat} {a : Act} {W W4 : World} (hl : l.length ≤ 4100) (hsl : s.rd.length ≤ 45) (w3 : Whole W4 b3 24 #[.int .i64 s.width, .int .i64 s.step, .slice As s.rd.length cs]) (hs : IntsAt W4 W4.heap.size As s.rd)
    (hz : a.tmps.size = 47) (hd_a : a.defers = []) (t0 : a.eval (.tmp 0) = strV l) (t3 : a.eval (.tmp 3) = ptr b3) (t5 : a.eval (.tmp 5) = .bool (fitsC l s)) (hB : Below W.heap.size W W4) :
    fi_b.wpIn Fence.wide 5 Try.prog (bodyPost Try.prog Try.f7 (TP W true)) a W4 := by
  have hpl := pieces_len l []
  have hgl : (goods l).length ≤ (pieces [] l).length := List.length_filter_le _ _
  have hfi := fits_is l s
  unfold fi_b
  refine wpIn_seq (region_p 4 ?_)
  intro K hK
  refine ListK.move (i := 0) (v := strV l) rfl (by simp [t0]) ?_
  refine ListK.call (i := 1) (vs := #[strV l]) rfl (enters_of Try.func33 (by kernel_rfl) rfl) (by simp [hz]) ((refPieces_any l (by omega) W4).mono ?_)
  rintro _ W5 ⟨v5, rfl, os5⟩
  obtain ⟨A5, c5, rfl, hs5⟩ := os5.strs
  refine ⟨_, rfl, ?_⟩
  refine ListK.call (i := 2) (vs := #[.slice A5 (pieces [] l).length c5]) rfl (enters_of Try.func32 (by kernel_rfl) rfl) (by simp [hz]) ((refGood_any A5 c5 (pieces [] l) (by omega) (fun x hx => by have := pieces_mem l [] x hx; simp only [List.length_nil] at this; omega) W5 hs5).mono ?_)
  rintro _ W6 ⟨v6, rfl, os6⟩
  replace os6 : OS W5 v6 (goods l) W6 := os6
  obtain ⟨A6, c6, rfl, hs6⟩ := os6.strs
  refine ⟨_, rfl, ?_⟩
  refine ListK.assign (i := 3) (v := .slice A6 (goods l).length c6) rfl (by simp [hz]) ?_
  refine ListK.done (hK _ _ ?_)
  clear hK K
  have hb46 := os5.low.trans (os6.low.mono os5.low.size)
  have w6 := w3.below hb46 w3.lt
  have hsr := (hs.below hb46 (Nat.le_refl _)).more hb46.size
  have hB6 := hB.trans (hb46.mono hB.size)
  have hgd := goods_good l
  obtain ⟨G, hG⟩ : ∃ G, goods l = G := ⟨_, rfl⟩
  rw [hG] at hs6 hfi hgd hgl ⊢
  generalize hA : Act.put _ _ _ = a1
  have hz_a1 : a1.tmps.size = 47 := by rw [← hA]; simp only [size_put, hz]
  have u0 : a1.eval (.tmp 0) = strV l := by rw [← hA]; exact (by simp [t0])
  have u3 : a1.eval (.tmp 3) = .pointer (some ⟨b3, 0, none⟩) := by rw [← hA]; exact (by simp [t3])
  have u5 : a1.eval (.tmp 5) = .bool (fitsC l s) := by rw [← hA]; exact (by simp [t5])
  have u6 : a1.eval (.tmp 6) = .slice A6 G.length c6 := by rw [← hA]; exact (by simp [hz])
  have hd_a1 : a1.defers = [] := by rw [← hA]; simp only [defers_put, hd_a]
  clear hA
  by_cases h40 : l.length ≤ 4000
  · rw [decide_eq_true h40, Bool.true_and] at hfi
    by_cases htl : toldG G = 0
    · rw [decide_eq_true htl, Bool.true_and] at hfi
      by_cases hf : faultS s = 0
      · rw [decide_eq_true hf, Bool.true_and] at hfi
        rw [hfi] at u5
        have w7f : ∀ W', Below W6.heap.size W6 W' → W'.cell? ⟨b3, 0, none⟩ = some (.int .i64 s.width) ∧ W'.cell? ⟨b3, 1, none⟩ = some (.int .i64 s.step) ∧ W'.cell? ⟨b3, 2, none⟩ = some (.slice As s.rd.length cs) := fun W' hb => by
          have w := w6.below hb w6.lt
          exact ⟨w.cell 0, w.cell 1, w.cell 2⟩
        refine wpIn_seq (region_p 24 ?_)
        intro K hK
        refine ListK.move (i := 0) (v := .bool (fitsG G s)) rfl (by simp [u5]) ?_
        refine ListK.move (i := 1) (v := strV l) rfl (by simp [u0]) ?_
        refine ListK.lenW (i := 2) (u := strV l) (v := .int .i64 (l.length : Int)) rfl (by simp [hz_a1]) (ln9 _ _ _) rfl ?_
        refine ListK.bin (i := 3) (u := .int .i64 (l.length : Int)) (u' := .int .i64 4000) (v := .bool true) rfl (by simp [hz_a1]) (by simp) (leqT (by omega) _) ?_
        refine ListK.move (i := 4) (v := .bool true) rfl (by simp [hz_a1]) ?_
        refine ListK.move (i := 5) (v := .slice A6 G.length c6) rfl (by simp [u6]) ?_ (hw := wanted_g (e := 28) (b' := true) rfl (by simp [hz_a1]) rfl)
        refine ListK.call (i := 6) (vs := #[.slice A6 G.length c6]) rfl (enters_of Try.func34 (by kernel_rfl) rfl) (by simp [hz_a1]) ((refTold_any A6 c6 G (by omega) hgd W6 hs6).mono ?_) (hw := wanted_g (e := 28) (b' := true) rfl (by simp [hz_a1]) rfl)
        rintro _ W7 ⟨rfl, hb7⟩
        refine ⟨_, rfl, ?_⟩
        refine ListK.bin (i := 7) (u := .int .i64 (toldG G)) (u' := .int .i64 0) (v := .bool true) rfl (by simp [hz_a1]) (by simp) (eql27T htl _) ?_ (hw := wanted_g (e := 28) (b' := true) rfl (by simp [hz_a1]) rfl)
        refine ListK.pick (i := 8) (b := true) (v := .bool true) rfl (by simp [hz_a1]) (by simp [hz_a1]) ?_
        refine ListK.move (i := 9) (v := .bool true) rfl (by simp [hz_a1]) ?_
        refine ListK.load (i := 10) (p := ⟨b3, 0, none⟩) (v := serV s As cs) rfl (by simp [u3]) (ld24 (w7f _ hb7)) ?_ (hw := wanted_g (e := 33) (b' := true) rfl (by simp [hz_a1]) rfl)
        refine ListK.call (i := 11) (vs := #[serV s As cs]) rfl (enters_of Try.func35 (by kernel_rfl) rfl) (by simp [hz_a1]) ((refFault_any s As cs W7 (by omega) ((hsr.below hb7 (Nat.le_refl _)).more hb7.size)).mono ?_) (hw := wanted_g (e := 33) (b' := true) rfl (by simp [hz_a1]) rfl)
        rintro _ W8 ⟨rfl, hb8⟩
        have hb68 := hb7.trans (hb8.mono hb7.size)
        refine ⟨_, rfl, ?_⟩
        refine ListK.bin (i := 12) (u := .int .i64 (faultS s)) (u' := .int .i64 0) (v := .bool true) rfl (by simp [hz_a1]) (by simp) (eqlT hf _) ?_ (hw := wanted_g (e := 33) (b' := true) rfl (by simp [hz_a1]) rfl)
        refine ListK.pick (i := 13) (b := true) (v := .bool true) rfl (by simp [hz_a1]) (by simp [hz_a1]) ?_
        refine ListK.move (i := 14) (v := .bool true) rfl (by simp [hz_a1]) ?_
        refine ListK.move (i := 15) (v := .slice A6 G.length c6) rfl (by simp [u6]) ?_ (hw := wanted_g (e := 38) (b' := true) rfl (by simp [hz_a1]) rfl)
        refine ListK.load (i := 16) (p := ⟨b3, 0, none⟩) (v := serV s As cs) rfl (by simp [u3]) (ld24 (w7f _ hb68)) ?_ (hw := wanted_g (e := 38) (b' := true) rfl (by simp [hz_a1]) rfl)
        refine ListK.call (i := 17) (vs := #[.slice A6 G.length c6, serV s As cs]) rfl (enters_of Try.func36 (by kernel_rfl) rfl) (by simp [hz_a1]) ((refFits_any s A6 As c6 cs G (by omega) hgd htl hf W8 ((hs6.below hb68 (Nat.le_refl _)).wide hb68.size) ((hsr.below hb68 (Nat.le_refl _)).more hb68.size)).mono ?_) (hw := wanted_g (e := 38) (b' := true) rfl (by simp [hz_a1]) rfl)
        rintro _ W9 ⟨rfl, hb9⟩
        have hb69 := hb68.trans (hb9.mono hb68.size)
        refine ⟨_, rfl, ?_⟩
        refine ListK.pick (i := 18) (b := true) (v := .bool (fitsG G s)) rfl (by simp [hz_a1]) (by simp [hz_a1]) ?_
        refine ListK.bin (i := 19) (u := .bool (fitsG G s)) (u' := .bool (fitsG G s)) (v := .bool true) rfl (by simp [hz_a1]) (by simp [hz_a1]) (eql4T rfl _) ?_
        refine ListK.move (i := 20) (v := .bool true) rfl (by simp [hz_a1]) ?_
        refine ListK.call (i := 21) (vs := #[]) rfl (enters_of Try.func16 (by kernel_rfl) rfl) (by simp) ((awake_any W9).mono ?_) (hw := wanted_g (e := 44) (b' := true) rfl (by simp [hz_a1]) rfl)
        rintro _ W10 ⟨rfl, hb10⟩
        refine ⟨_, rfl, ?_⟩
        refine ListK.pick (i := 22) (b := true) (v := .bool true) rfl (by simp [hz_a1]) (by simp [hz_a1]) ?_
        refine ListK.assign (i := 23) (v := .bool true) rfl (by simp [hz_a1]) ?_
        refine ListK.done (hK _ _ (wpIn_ret ?_))
        exact bodyPost_ret (v := .bool true) (res1 Try.results7 (by simp [hz_a1])) (by simp only [defers_put, hd_a1]) ⟨rfl, hB6.trans ((hb69.trans (hb10.mono hb69.size)).mono hB6.size)⟩
      · rw [decide_eq_false hf, Bool.false_and] at hfi
        rw [hfi] at u5
        have w7f : ∀ W', Below W6.heap.size W6 W' → W'.cell? ⟨b3, 0, none⟩ = some (.int .i64 s.width) ∧ W'.cell? ⟨b3, 1, none⟩ = some (.int .i64 s.step) ∧ W'.cell? ⟨b3, 2, none⟩ = some (.slice As s.rd.length cs) := fun W' hb => by
          have w := w6.below hb w6.lt
          exact ⟨w.cell 0, w.cell 1, w.cell 2⟩
        refine wpIn_seq (region_p 24 ?_)
        intro K hK
        refine ListK.move (i := 0) (v := .bool false) rfl (by simp [u5]) ?_
        refine ListK.move (i := 1) (v := strV l) rfl (by simp [u0]) ?_
        refine ListK.lenW (i := 2) (u := strV l) (v := .int .i64 (l.length : Int)) rfl (by simp [hz_a1]) (ln9 _ _ _) rfl ?_
        refine ListK.bin (i := 3) (u := .int .i64 (l.length : Int)) (u' := .int .i64 4000) (v := .bool true) rfl (by simp [hz_a1]) (by simp) (leqT (by omega) _) ?_
        refine ListK.move (i := 4) (v := .bool true) rfl (by simp [hz_a1]) ?_
        refine ListK.move (i := 5) (v := .slice A6 G.length c6) rfl (by simp [u6]) ?_ (hw := wanted_g (e := 28) (b' := true) rfl (by simp [hz_a1]) rfl)
        refine ListK.call (i := 6) (vs := #[.slice A6 G.length c6]) rfl (enters_of Try.func34 (by kernel_rfl) rfl) (by simp [hz_a1]) ((refTold_any A6 c6 G (by omega) hgd W6 hs6).mono ?_) (hw := wanted_g (e := 28) (b' := true) rfl (by simp [hz_a1]) rfl)
        rintro _ W7 ⟨rfl, hb7⟩
        refine ⟨_, rfl, ?_⟩
        refine ListK.bin (i := 7) (u := .int .i64 (toldG G)) (u' := .int .i64 0) (v := .bool true) rfl (by simp [hz_a1]) (by simp) (eql27T htl _) ?_ (hw := wanted_g (e := 28) (b' := true) rfl (by simp [hz_a1]) rfl)
        refine ListK.pick (i := 8) (b := true) (v := .bool true) rfl (by simp [hz_a1]) (by simp [hz_a1]) ?_
        refine ListK.move (i := 9) (v := .bool true) rfl (by simp [hz_a1]) ?_
        refine ListK.load (i := 10) (p := ⟨b3, 0, none⟩) (v := serV s As cs) rfl (by simp [u3]) (ld24 (w7f _ hb7)) ?_ (hw := wanted_g (e := 33) (b' := true) rfl (by simp [hz_a1]) rfl)
        refine ListK.call (i := 11) (vs := #[serV s As cs]) rfl (enters_of Try.func35 (by kernel_rfl) rfl) (by simp [hz_a1]) ((refFault_any s As cs W7 (by omega) ((hsr.below hb7 (Nat.le_refl _)).more hb7.size)).mono ?_) (hw := wanted_g (e := 33) (b' := true) rfl (by simp [hz_a1]) rfl)
        rintro _ W8 ⟨rfl, hb8⟩
        have hb68 := hb7.trans (hb8.mono hb7.size)
        refine ⟨_, rfl, ?_⟩
        refine ListK.bin (i := 12) (u := .int .i64 (faultS s)) (u' := .int .i64 0) (v := .bool false) rfl (by simp [hz_a1]) (by simp) (eqlF hf _) ?_ (hw := wanted_g (e := 33) (b' := true) rfl (by simp [hz_a1]) rfl)
        refine ListK.pick (i := 13) (b := true) (v := .bool false) rfl (by simp [hz_a1]) (by simp [hz_a1]) ?_
        refine ListK.move (i := 14) (v := .bool false) rfl (by simp [hz_a1]) ?_
        refine ListK.passG (i := 15) (e := 38) (b' := false) rfl rfl (by simp [hz_a1]) rfl ?_
        refine ListK.passG (i := 16) (e := 38) (b' := false) rfl rfl (by simp [hz_a1]) rfl ?_
        refine ListK.passG (i := 17) (e := 38) (b' := false) rfl rfl (by simp [hz_a1]) rfl ?_
        refine ListK.pick (i := 18) (b := false) (v := .bool false) rfl (by simp [hz_a1]) (by simp) ?_
        refine ListK.bin (i := 19) (u := .bool false) (u' := .bool false) (v := .bool true) rfl (by simp [hz_a1]) (by simp [hz_a1]) (eql4T rfl _) ?_
        refine ListK.move (i := 20) (v := .bool true) rfl (by simp [hz_a1]) ?_
        refine ListK.call (i := 21) (vs := #[]) rfl (enters_of Try.func16 (by kernel_rfl) rfl) (by simp) ((awake_any W8).mono ?_) (hw := wanted_g (e := 44) (b' := true) rfl (by simp [hz_a1]) rfl)
        rintro _ W10 ⟨rfl, hb10⟩
        refine ⟨_, rfl, ?_⟩
        refine ListK.pick (i := 22) (b := true) (v := .bool true) rfl (by simp [hz_a1]) (by simp [hz_a1]) ?_
        refine ListK.assign (i := 23) (v := .bool true) rfl (by simp [hz_a1]) ?_
        refine ListK.done (hK _ _ (wpIn_ret ?_))
        exact bodyPost_ret (v := .bool true) (res1 Try.results7 (by simp [hz_a1])) (by simp only [defers_put, hd_a1]) ⟨rfl, hB6.trans ((hb68.trans (hb10.mono hb68.size)).mono hB6.size)⟩
    · rw [decide_eq_false htl, Bool.false_and] at hfi
      rw [hfi] at u5
      refine wpIn_seq (region_p 24 ?_)
      intro K hK
      refine ListK.move (i := 0) (v := .bool false) rfl (by simp [u5]) ?_
      refine ListK.move (i := 1) (v := strV l) rfl (by simp [u0]) ?_
      refine ListK.lenW (i := 2) (u := strV l) (v := .int .i64 (l.length : Int)) rfl (by simp [hz_a1]) (ln9 _ _ _) rfl ?_
      refine ListK.bin (i := 3) (u := .int .i64 (l.length : Int)) (u' := .int .i64 4000) (v := .bool true) rfl (by simp [hz_a1]) (by simp) (leqT (by omega) _) ?_
      refine ListK.move (i := 4) (v := .bool true) rfl (by simp [hz_a1]) ?_
      refine ListK.move (i := 5) (v := .slice A6 G.length c6) rfl (by simp [u6]) ?_ (hw := wanted_g (e := 28) (b' := true) rfl (by simp [hz_a1]) rfl)
      refine ListK.call (i := 6) (vs := #[.slice A6 G.length c6]) rfl (enters_of Try.func34 (by kernel_rfl) rfl) (by simp [hz_a1]) ((refTold_any A6 c6 G (by omega) hgd W6 hs6).mono ?_) (hw := wanted_g (e := 28) (b' := true) rfl (by simp [hz_a1]) rfl)
      rintro _ W7 ⟨rfl, hb7⟩
      refine ⟨_, rfl, ?_⟩
      refine ListK.bin (i := 7) (u := .int .i64 (toldG G)) (u' := .int .i64 0) (v := .bool false) rfl (by simp [hz_a1]) (by simp) (eql27F htl _) ?_ (hw := wanted_g (e := 28) (b' := true) rfl (by simp [hz_a1]) rfl)
      refine ListK.pick (i := 8) (b := true) (v := .bool false) rfl (by simp [hz_a1]) (by simp [hz_a1]) ?_
      refine ListK.move (i := 9) (v := .bool false) rfl (by simp [hz_a1]) ?_
      refine ListK.passG (i := 10) (e := 33) (b' := false) rfl rfl (by simp [hz_a1]) rfl ?_
      refine ListK.passG (i := 11) (e := 33) (b' := false) rfl rfl (by simp [hz_a1]) rfl ?_
      refine ListK.passG (i := 12) (e := 33) (b' := false) rfl rfl (by simp [hz_a1]) rfl ?_
      refine ListK.pick (i := 13) (b := false) (v := .bool false) rfl (by simp [hz_a1]) (by simp) ?_
      refine ListK.move (i := 14) (v := .bool false) rfl (by simp [hz_a1]) ?_
      refine ListK.passG (i := 15) (e := 38) (b' := false) rfl rfl (by simp [hz_a1]) rfl ?_
      refine ListK.passG (i := 16) (e := 38) (b' := false) rfl rfl (by simp [hz_a1]) rfl ?_
      refine ListK.passG (i := 17) (e := 38) (b' := false) rfl rfl (by simp [hz_a1]) rfl ?_
      refine ListK.pick (i := 18) (b := false) (v := .bool false) rfl (by simp [hz_a1]) (by simp) ?_
      refine ListK.bin (i := 19) (u := .bool false) (u' := .bool false) (v := .bool true) rfl (by simp [hz_a1]) (by simp [hz_a1]) (eql4T rfl _) ?_
      refine ListK.move (i := 20) (v := .bool true) rfl (by simp [hz_a1]) ?_
      refine ListK.call (i := 21) (vs := #[]) rfl (enters_of Try.func16 (by kernel_rfl) rfl) (by simp) ((awake_any W7).mono ?_) (hw := wanted_g (e := 44) (b' := true) rfl (by simp [hz_a1]) rfl)
      rintro _ W10 ⟨rfl, hb10⟩
      refine ⟨_, rfl, ?_⟩
      refine ListK.pick (i := 22) (b := true) (v := .bool true) rfl (by simp [hz_a1]) (by simp [hz_a1]) ?_
      refine ListK.assign (i := 23) (v := .bool true) rfl (by simp [hz_a1]) ?_
      refine ListK.done (hK _ _ (wpIn_ret ?_))
      exact bodyPost_ret (v := .bool true) (res1 Try.results7 (by simp [hz_a1])) (by simp only [defers_put, hd_a1]) ⟨rfl, hB6.trans ((hb7.trans (hb10.mono hb7.size)).mono hB6.size)⟩
  · rw [decide_eq_false h40, Bool.false_and] at hfi
    rw [hfi] at u5
    refine wpIn_seq (region_p 24 ?_)
    intro K hK
    refine ListK.move (i := 0) (v := .bool false) rfl (by simp [u5]) ?_
    refine ListK.move (i := 1) (v := strV l) rfl (by simp [u0]) ?_
    refine ListK.lenW (i := 2) (u := strV l) (v := .int .i64 (l.length : Int)) rfl (by simp [hz_a1]) (ln9 _ _ _) rfl ?_
    refine ListK.bin (i := 3) (u := .int .i64 (l.length : Int)) (u' := .int .i64 4000) (v := .bool false) rfl (by simp [hz_a1]) (by simp) (leqF3 (by omega) _) ?_
    refine ListK.move (i := 4) (v := .bool false) rfl (by simp [hz_a1]) ?_
    refine ListK.passG (i := 5) (e := 28) (b' := false) rfl rfl (by simp [hz_a1]) rfl ?_
    refine ListK.passG (i := 6) (e := 28) (b' := false) rfl rfl (by simp [hz_a1]) rfl ?_
    refine ListK.passG (i := 7) (e := 28) (b' := false) rfl rfl (by simp [hz_a1]) rfl ?_
    refine ListK.pick (i := 8) (b := false) (v := .bool false) rfl (by simp [hz_a1]) (by simp) ?_
    refine ListK.move (i := 9) (v := .bool false) rfl (by simp [hz_a1]) ?_
    refine ListK.passG (i := 10) (e := 33) (b' := false) rfl rfl (by simp [hz_a1]) rfl ?_
    refine ListK.passG (i := 11) (e := 33) (b' := false) rfl rfl (by simp [hz_a1]) rfl ?_
    refine ListK.passG (i := 12) (e := 33) (b' := false) rfl rfl (by simp [hz_a1]) rfl ?_
    refine ListK.pick (i := 13) (b := false) (v := .bool false) rfl (by simp [hz_a1]) (by simp) ?_
    refine ListK.move (i := 14) (v := .bool false) rfl (by simp [hz_a1]) ?_
    refine ListK.passG (i := 15) (e := 38) (b' := false) rfl rfl (by simp [hz_a1]) rfl ?_
    refine ListK.passG (i := 16) (e := 38) (b' := false) rfl rfl (by simp [hz_a1]) rfl ?_
    refine ListK.passG (i := 17) (e := 38) (b' := false) rfl rfl (by simp [hz_a1]) rfl ?_
    refine ListK.pick (i := 18) (b := false) (v := .bool false) rfl (by simp [hz_a1]) (by simp) ?_
    refine ListK.bin (i := 19) (u := .bool false) (u' := .bool false) (v := .bool true) rfl (by simp [hz_a1]) (by simp [hz_a1]) (eql4T rfl _) ?_
    refine ListK.move (i := 20) (v := .bool true) rfl (by simp [hz_a1]) ?_
    refine ListK.call (i := 21) (vs := #[]) rfl (enters_of Try.func16 (by kernel_rfl) rfl) (by simp) ((awake_any W6).mono ?_) (hw := wanted_g (e := 44) (b' := true) rfl (by simp [hz_a1]) rfl)
    rintro _ W10 ⟨rfl, hb10⟩
    refine ⟨_, rfl, ?_⟩
    refine ListK.pick (i := 22) (b := true) (v := .bool true) rfl (by simp [hz_a1]) (by simp [hz_a1]) ?_
    refine ListK.assign (i := 23) (v := .bool true) rfl (by simp [hz_a1]) ?_
    refine ListK.done (hK _ _ (wpIn_ret ?_))
    exact bodyPost_ret (v := .bool true) (res1 Try.results7 (by simp [hz_a1])) (by simp only [defers_put, hd_a1]) ⟨rfl, hB6.trans (hb10.mono hB6.size)⟩
end
end Go.Proofs.YtmdlmmfbcnkanaaR
namespace Go.Proofs.YtmdlmmfbcnkanaaR
open Go.RowKit Go.Shelf
section
attribute [local irreducible] AnyK StepK
set_option maxHeartbeats 400000 in
theorem fi_3_any {l : List UInt8} {s : Ser} {As : Option Addr} {cs b3 : Nat} {a : Act} {W W2 : World} (hl : l.length ≤ 4100) (hsl : s.rd.length ≤ 45) (w3 : Whole W2 b3 24 #[.int .i64 s.width, .int .i64 s.step, .slice As s.rd.length cs]) (hs : IntsAt W2 W2.heap.size As s.rd)
    (hz : a.tmps.size = 47) (hd_a : a.defers = []) (t0 : a.eval (.tmp 0) = strV l) (t3 : a.eval (.tmp 3) = ptr b3) (hB : Below W.heap.size W W2) :
    (Code.seq (.region 3 opsFi3 true) fi_b).wpIn Fence.wide 5 Try.prog (bodyPost Try.prog Try.f7 (TP W true)) a W2 := by
  have hbd := (Below.refl W2.heap.size W2).drew
  have hgr : ∀ w w', (fun w : World => (Whole w b3 24 #[.int .i64 s.width, .int .i64 s.step, .slice As s.rd.length cs] ∧ IntsAt w W2.heap.size As s.rd) ∧ Below W2.heap.size W2 w) w → Below w.heap.size w w' → (fun w : World => (Whole w b3 24 #[.int .i64 s.width, .int .i64 s.step, .slice As s.rd.length cs] ∧ IntsAt w W2.heap.size As s.rd) ∧ Below W2.heap.size W2 w) w' := fun w w' h hb => ⟨⟨h.1.1.below hb h.1.1.lt, h.1.2.below hb h.2.size⟩, h.2.trans (hb.mono h.2.size)⟩
  have hR0 : (fun w : World => (Whole w b3 24 #[.int .i64 s.width, .int .i64 s.step, .slice As s.rd.length cs] ∧ IntsAt w W2.heap.size As s.rd) ∧ Below W2.heap.size W2 w) W2.drew := hgr W2 _ ⟨⟨w3, hs⟩, Below.refl _ _⟩ hbd
  refine wpIn_seq (region_K (KpR (fun w : World => (Whole w b3 24 #[.int .i64 s.width, .int .i64 s.step, .slice As s.rd.length cs] ∧ IntsAt w W2.heap.size As s.rd) ∧ Below W2.heap.size W2 w) (fun _ => false)) (wideF_plain _) (by kernel_rfl) Try.mixed ?_)
  change AnyK _ _ _ _ 6 (Array.replicate 6 false) _ _
  have hR : (fun w : World => (Whole w b3 24 #[.int .i64 s.width, .int .i64 s.step, .slice As s.rd.length cs] ∧ IntsAt w W2.heap.size As s.rd) ∧ Below W2.heap.size W2 w) W2.drew := hR0
  refine AnyK.move (i := 0) may_o (v := strV l) (by simp [t0]) hR ?_
  refine AnyK.load (i := 2) may_o (p := ⟨b3, 0, none⟩) (v := serV s As cs) (by simp [t3]) (fun w hw => ld24 ⟨hw.1.1.cell 0, hw.1.1.cell 1, hw.1.1.cell 2⟩) hR ?_
  refine AnyK.pick1 (i := 1) (by kernel_rfl) ?_
  refine StepK.call (i := 1) (f := 26) (vs := #[strV l]) rfl (enters_of Try.func26 (by kernel_rfl) rfl) rfl (by simp [hz]) ((bytes_any l (by omega) _).mono ?_)
  rintro _ V1 ⟨v1, rfl, ob1⟩
  obtain ⟨A1, c1, rfl, hc1, hy1⟩ := ob1.bytes
  replace hR : (fun w : World => (Whole w b3 24 #[.int .i64 s.width, .int .i64 s.step, .slice As s.rd.length cs] ∧ IntsAt w W2.heap.size As s.rd) ∧ Below W2.heap.size W2 w) V1 := hgr _ _ hR ob1.low
  refine ⟨_, rfl, fun _ _ => hR, ?_⟩
  refine AnyK.pick1 (i := 3) (by kernel_rfl) ?_
  refine StepK.call (i := 3) (f := 18) (vs := #[serV s As cs]) rfl (enters_of Try.func18 (by kernel_rfl) rfl) rfl (by simp [hz]) ((series_any s As cs _ (by omega) (hR.1.2.more hR.2.size)).mono ?_)
  rintro _ V3 ⟨A3, c3, rfl, hs3, hb3⟩
  have hy3 := (hy1.below hb3 (Nat.le_refl _)).more hb3.size
  replace hR : (fun w : World => (Whole w b3 24 #[.int .i64 s.width, .int .i64 s.step, .slice As s.rd.length cs] ∧ IntsAt w W2.heap.size As s.rd) ∧ Below W2.heap.size W2 w) V3 := hgr _ _ hR hb3
  refine ⟨_, rfl, fun _ _ => hR, ?_⟩
  refine AnyK.pick1 (i := 4) (by kernel_rfl) ?_
  refine StepK.call (i := 4) (f := 31) (vs := #[.slice A1 l.length c1, serV s A3 c3]) rfl (enters_of Try.func31 (by kernel_rfl) rfl) rfl (by simp [hz]) ((fits_any s A3 A1 c3 c1 l V3 (by omega) hs3 hc1 (by omega) hy3).mono ?_)
  rintro _ V4 ⟨rfl, hb4⟩
  replace hR : (fun w : World => (Whole w b3 24 #[.int .i64 s.width, .int .i64 s.step, .slice As s.rd.length cs] ∧ IntsAt w W2.heap.size As s.rd) ∧ Below W2.heap.size W2 w) V4 := hgr _ _ hR hb4
  refine ⟨_, rfl, fun _ _ => hR, ?_⟩
  refine AnyK.assign (i := 5) may_o (v := .bool (fitsC l s)) (by simp [hz]) hR ?_
  refine AnyK.done (by kernel_rfl) ?_
  exact fi_b_any hl hsl hR.1.1 (hR.1.2.more hR.2.size) (by simp only [size_put, hz]) (by simp only [defers_put, hd_a]) (by simp [t0]) (by simp [t3]) (by simp [hz]) (hB.trans (hR.2.mono hB.size))
end
set_option maxHeartbeats 400000 in
theorem fits_wp (l : List UInt8) (s : Ser) (As : Option Addr) (cs : Nat) (W : World) (hs : IntsAt W W.heap.size As s.rd) : Calls Try.prog 7 #[strV l, serV s As cs] W (TP W true) := by
  refine (callsIn_wide (n := 5)).1 (callsIn_of_wp Try.func7 body7 trivial ?_ rfl)
  obtain ⟨a, ha⟩ : ∃ a : Act, a = { tmps := #[strV l, serV s As cs] ++ Array.replicate (Try.f7.ntmps - (#[strV l, serV s As cs] : Array Value).size) undef, defers := [] } := ⟨_, rfl⟩
  have hsz : a.tmps.size = 47 := by rw [ha]; simp [Try.ntmps7]
  have t0 : a.eval (.tmp 0) = strV l := by rw [ha]; simp [Act.eval]
  have t1 : a.eval (.tmp 1) = serV s As cs := by rw [ha]; simp [Act.eval]
  have hd_a : a.defers = [] := by rw [ha]
  rw [← ha]
  clear ha
  unfold code7
  refine wpIn_seq (region_p 2 ?_)
  intro K hK
  refine ListK.box (i := 0) (u := serV s As cs) rfl (by simp [t1]) (bx24 W _ _ _ _ _) ?_
  refine ListK.assign (i := 1) (v := .bool false) rfl (by simp) ?_
  refine ListK.done (hK _ _ ?_)
  clear hK K
  replace hs : IntsAt (W.alloc (.cells #[.int .i64 s.width, .int .i64 s.step, .slice As s.rd.length cs] 24)) W.heap.size As s.rd := hs.below ((Below.refl W.heap.size W).alloc (Nat.le_refl _) _) (Nat.le_refl _)
  have w3 := Whole.new W 24 #[.int .i64 s.width, .int .i64 s.step, .slice As s.rd.length cs]
  have hb_b3 : Below W.heap.size W (W.alloc (.cells #[.int .i64 s.width, .int .i64 s.step, .slice As s.rd.length cs] 24)) := (Below.refl _ W).alloc (Nat.le_refl _) _
  have hB := hb_b3
  generalize hq_b3 : W.heap.size = b3 at *
  generalize W.alloc (.cells #[.int .i64 s.width, .int .i64 s.step, .slice As s.rd.length cs] 24) = W1 at *
  have hsz1 := hB.size
  replace hs := hs.more (show b3 ≤ W1.heap.size by omega)
  rw [← hq_b3] at hB
  generalize hA : Act.put _ _ _ = a1
  have hz_a1 : a1.tmps.size = 47 := by rw [← hA]; simp only [size_put, hsz]
  have u0 : a1.eval (.tmp 0) = strV l := by rw [← hA]; exact (by simp [t0])
  have u3 : a1.eval (.tmp 3) = .pointer (some ⟨b3, 0, none⟩) := by rw [← hA]; exact (by simp [hsz])
  have hd_a1 : a1.defers = [] := by rw [← hA]; simp only [defers_put, hd_a]
  clear hA
  by_cases h41 : 4100 < l.length
  · skip
    refine wpIn_seq (wpIn_seq (region_p 8 ?_))
    intro K hK
    refine ListK.move (i := 0) (v := strV l) rfl (by simp [u0]) ?_
    refine ListK.len (i := 1) (u := strV l) (v := .int .i64 (l.length : Int)) rfl (by simp [hz_a1]) (ln9 _ _ _) rfl ?_
    refine ListK.bin (i := 2) (u := .int .i64 (l.length : Int)) (u' := .int .i64 4100) (v := .bool true) rfl (by simp [hz_a1]) (by simp) (gtrT3 (by omega) _) ?_
    refine ListK.move (i := 3) (v := .bool true) rfl (by simp [hz_a1]) ?_
    refine ListK.passG (i := 4) (e := 10) (b' := true) rfl rfl (by simp [hz_a1]) rfl ?_
    refine ListK.passG (i := 5) (e := 10) (b' := true) rfl rfl (by simp [hz_a1]) rfl ?_
    refine ListK.passG (i := 6) (e := 10) (b' := true) rfl rfl (by simp [hz_a1]) rfl ?_
    refine ListK.pick (i := 7) (b := true) (v := .bool true) rfl (by simp [hz_a1]) (by simp) ?_
    refine ListK.done (hK _ _ ?_)
    clear hK K
    refine wpIn_cond (t := true) (by simp [hz_a1]) ?_
    refine wpIn_seq (region_p 2 ?_)
    intro K hK
    refine ListK.call (i := 0) (vs := #[]) rfl (enters_of Try.func16 (by kernel_rfl) rfl) (by simp) ((awake_any W1).mono ?_)
    rintro _ W2 ⟨rfl, hb2⟩
    refine ⟨_, rfl, ?_⟩
    refine ListK.assign (i := 1) (v := .bool true) rfl (by simp [hz_a1]) ?_
    refine ListK.done (hK _ _ (wpIn_ret ?_))
    exact bodyPost_ret (v := .bool true) (res1 Try.results7 (by simp [hz_a1])) (by simp only [defers_put, hd_a1]) ⟨rfl, hB.trans (hb2.mono hB.size)⟩
  · by_cases h45 : (s.rd.length : Int) ≤ 45
    · have hsh := short_any s As cs W1
      rw [decide_eq_true h45] at hsh
      refine wpIn_seq (wpIn_seq (region_p 8 ?_))
      intro K hK
      refine ListK.move (i := 0) (v := strV l) rfl (by simp [u0]) ?_
      refine ListK.len (i := 1) (u := strV l) (v := .int .i64 (l.length : Int)) rfl (by simp [hz_a1]) (ln9 _ _ _) rfl ?_
      refine ListK.bin (i := 2) (u := .int .i64 (l.length : Int)) (u' := .int .i64 4100) (v := .bool false) rfl (by simp [hz_a1]) (by simp) (gtrF3 (by omega) _) ?_
      refine ListK.move (i := 3) (v := .bool false) rfl (by simp [hz_a1]) ?_
      refine ListK.load (i := 4) (p := ⟨b3, 0, none⟩) (v := serV s As cs) rfl (by simp [u3]) (ld24 ⟨w3.cell 0, w3.cell 1, w3.cell 2⟩) ?_ (hw := wanted_g (e := 10) (b' := false) rfl (by simp [hz_a1]) rfl)
      refine ListK.call (i := 5) (vs := #[serV s As cs]) rfl (enters_of Try.func15 (by kernel_rfl) rfl) (by simp [hz_a1]) ((hsh).mono ?_) (hw := wanted_g (e := 10) (b' := false) rfl (by simp [hz_a1]) rfl)
      rintro _ W2 ⟨rfl, hb2⟩
      refine ⟨_, rfl, ?_⟩
      refine ListK.un (i := 6) (u := .bool true) (v := .bool false) rfl (by simp [hz_a1]) (not4 _ _) ?_ (hw := wanted_g (e := 10) (b' := false) rfl (by simp [hz_a1]) rfl)
      refine ListK.pick (i := 7) (b := false) (v := .bool false) rfl (by simp [hz_a1]) (by simp [hz_a1]) ?_
      refine ListK.done (hK _ _ ?_)
      clear hK K
      refine wpIn_cond (t := false) (by simp [hz_a1]) (wpIn_skip ?_)
      generalize hA : Act.put _ _ _ = a2
      have hz_a2 : a2.tmps.size = 47 := by rw [← hA]; simp only [size_put, hz_a1]
      have v0 : a2.eval (.tmp 0) = strV l := by rw [← hA]; exact (by simp [u0])
      have v3 : a2.eval (.tmp 3) = .pointer (some ⟨b3, 0, none⟩) := by rw [← hA]; exact (by simp [u3])
      have hd_a2 : a2.defers = [] := by rw [← hA]; simp only [defers_put, hd_a1]
      clear hA
      exact fi_3_any (by omega) (by omega) (w3.below hb2 w3.lt) ((hs.below hb2 (Nat.le_refl _)).more hb2.size) hz_a2 hd_a2 v0 v3 (hB.trans (hb2.mono hB.size))
    · have hsh := short_any s As cs W1
      rw [decide_eq_false h45] at hsh
      refine wpIn_seq (wpIn_seq (region_p 8 ?_))
      intro K hK
      refine ListK.move (i := 0) (v := strV l) rfl (by simp [u0]) ?_
      refine ListK.len (i := 1) (u := strV l) (v := .int .i64 (l.length : Int)) rfl (by simp [hz_a1]) (ln9 _ _ _) rfl ?_
      refine ListK.bin (i := 2) (u := .int .i64 (l.length : Int)) (u' := .int .i64 4100) (v := .bool false) rfl (by simp [hz_a1]) (by simp) (gtrF3 (by omega) _) ?_
      refine ListK.move (i := 3) (v := .bool false) rfl (by simp [hz_a1]) ?_
      refine ListK.load (i := 4) (p := ⟨b3, 0, none⟩) (v := serV s As cs) rfl (by simp [u3]) (ld24 ⟨w3.cell 0, w3.cell 1, w3.cell 2⟩) ?_ (hw := wanted_g (e := 10) (b' := false) rfl (by simp [hz_a1]) rfl)
      refine ListK.call (i := 5) (vs := #[serV s As cs]) rfl (enters_of Try.func15 (by kernel_rfl) rfl) (by simp [hz_a1]) ((hsh).mono ?_) (hw := wanted_g (e := 10) (b' := false) rfl (by simp [hz_a1]) rfl)
      rintro _ W2 ⟨rfl, hb2⟩
      refine ⟨_, rfl, ?_⟩
      refine ListK.un (i := 6) (u := .bool false) (v := .bool true) rfl (by simp [hz_a1]) (not4 _ _) ?_ (hw := wanted_g (e := 10) (b' := false) rfl (by simp [hz_a1]) rfl)
      refine ListK.pick (i := 7) (b := false) (v := .bool true) rfl (by simp [hz_a1]) (by simp [hz_a1]) ?_
      refine ListK.done (hK _ _ ?_)
      clear hK K
      refine wpIn_cond (t := true) (by simp [hz_a1]) ?_
      refine wpIn_seq (region_p 2 ?_)
      intro K hK
      refine ListK.call (i := 0) (vs := #[]) rfl (enters_of Try.func16 (by kernel_rfl) rfl) (by simp) ((awake_any W2).mono ?_)
      rintro _ W3 ⟨rfl, hb3⟩
      refine ⟨_, rfl, ?_⟩
      refine ListK.assign (i := 1) (v := .bool true) rfl (by simp [hz_a1]) ?_
      refine ListK.done (hK _ _ (wpIn_ret ?_))
      exact bodyPost_ret (v := .bool true) (res1 Try.results7 (by simp [hz_a1])) (by simp only [defers_put, hd_a1]) ⟨rfl, hB.trans ((hb2.trans (hb3.mono hb2.size)).mono hB.size)⟩
end Go.Proofs.YtmdlmmfbcnkanaaR
