/- Texts for a law of package file, behind the shared ones, part 2: the law's own contracts and plain words. -/
import Derived.Test.YtmdlmmfbcnkanaaRG1

set_option linter.unusedVariables false
set_option maxRecDepth 10000

namespace Go.Proofs.YtmdlmmfbcnkanaaR
open Go.RowKit Go.Shelf
theorem half5 {x y : Operand} {n : Nat} (h : n < 256) (w : World) : (do eqGuard .quo 5 x y (.int .u8 (n : Int)) (.int .u8 2); binOp .quo 5 (.int .u8 (n : Int)) (.int .u8 2) : Sem Value).run Try.prog w = .ok (.int .u8 ((n / 2 : Nat) : Int)) w := by
  have key : ∀ n : Fin 256, IntKind.u8.wrap ((n.1 : Int) / 2) = (n.1 : Int) / 2 := by decide +kernel
  have h1 := key ⟨n, h⟩
  simp only at h1
  go_simp
  first | done | exact h1
noncomputable def opsTg0 : Array Oper := (Try.f13.body.bind (regionOf 0)).getD #[]
noncomputable def opsTg1 : Array Oper := (Try.f13.body.bind (regionOf 1)).getD #[]
noncomputable def opsTg2 : Array Oper := (Try.f13.body.bind (regionOf 2)).getD #[]
noncomputable def opsTg3 : Array Oper := (Try.f13.body.bind (regionOf 3)).getD #[]
noncomputable def opsTg4 : Array Oper := (Try.f13.body.bind (regionOf 4)).getD #[]
noncomputable def opsTg5 : Array Oper := (Try.f13.body.bind (regionOf 5)).getD #[]
noncomputable def opsTg6 : Array Oper := (Try.f13.body.bind (regionOf 6)).getD #[]
noncomputable def opsTg7 : Array Oper := (Try.f13.body.bind (regionOf 7)).getD #[]
noncomputable def opsTg8 : Array Oper := (Try.f13.body.bind (regionOf 8)).getD #[]
noncomputable def opsTg9 : Array Oper := (Try.f13.body.bind (regionOf 9)).getD #[]
noncomputable def opsTg10 : Array Oper := (Try.f13.body.bind (regionOf 10)).getD #[]
noncomputable def opsTg11 : Array Oper := (Try.f13.body.bind (regionOf 11)).getD #[]
noncomputable def opsTg12 : Array Oper := (Try.f13.body.bind (regionOf 12)).getD #[]
noncomputable def opsTg13 : Array Oper := (Try.f13.body.bind (regionOf 13)).getD #[]
noncomputable def opsTg14 : Array Oper := (Try.f13.body.bind (regionOf 14)).getD #[]
noncomputable def opsTg15 : Array Oper := (Try.f13.body.bind (regionOf 15)).getD #[]
noncomputable def tg_l : Code := (.seq (.seq (.region 11 opsTg11 false) (.cond (.tmp 101) .skip (.exit 0))) (.seq (.block 1 (.seq (.region 13 opsTg13 true) (.cond (.tmp 153) (.seq (.region 14 opsTg14 false) .ret) .skip))) (.region 12 opsTg12 false)))
noncomputable def tg_c : Code := (.seq (.seq (.region 10 opsTg10 false) (.block 0 (.loop tg_l))) (.seq (.region 15 opsTg15 false) .ret))
noncomputable def tg_8 : Code := (.seq (.seq (.region 8 opsTg8 false) (.cond (.tmp 97) (.seq (.region 9 opsTg9 false) .ret) .skip)) tg_c)
noncomputable def tg_b : Code := (.seq (.region 4 opsTg4 false) (.seq (.region 5 opsTg5 false) (.seq (.region 6 opsTg6 false) (.seq (.region 7 opsTg7 false) tg_8))))
noncomputable def code13 : Code := (.seq (.region 0 opsTg0 false) (.seq (.seq (.region 1 opsTg1 false) (.cond (.tmp 22) (.seq (.region 2 opsTg2 false) .ret) .skip)) (.seq (.region 3 opsTg3 true) tg_b)))
theorem body13 : Try.f13.body = some code13 := by kernel_rfl
section
attribute [local irreducible] AnyK StepK
variable {s : Ser} {W : World}
set_option maxHeartbeats 800000 in
theorem tg_c_any {g1 g2 g3 : Nat} {f1 f2 f3 : Nat → Int} {a : Act} {W6 : World} (n : SerN s)
    (row1 : Row W6 g1 ((hdH s).many * 2) f1) (row2 : Row W6 g2 ((hdH s).many * 2) f2) (row3 : Row W6 g3 ((hdH s).many * 2) f3) (hle : ∀ i, i < (hdH s).many → (f1 (i * 2) ≤ f3 (i * 2) ∧ f3 (i * 2 + 1) ≤ f1 (i * 2 + 1)) ∧ (f2 (i * 2) ≤ f3 (i * 2) ∧ f3 (i * 2 + 1) ≤ f2 (i * 2 + 1)))
    (hz : a.tmps.size = 155) (hd_a : a.defers = []) (t13 : a.eval (.tmp 13) = .slice (some ⟨g1, 0, none⟩) (hdH s).many (hdH s).many) (t15 : a.eval (.tmp 15) = .slice (some ⟨g2, 0, none⟩) (hdH s).many (hdH s).many) (t17 : a.eval (.tmp 17) = .slice (some ⟨g3, 0, none⟩) (hdH s).many (hdH s).many) (hB : Below W.heap.size W W6) :
    tg_c.wpIn Fence.wide 5 Try.prog (bodyPost Try.prog Try.f13 (TP W true)) a W6 := by
  have hlen := n.len
  have hM : (hdH s).many = s.rd.length := rfl
  unfold tg_c
  refine wpIn_seq (wpIn_seq (region_p 1 ?_))
  intro K hK
  refine ListK.assign (i := 0) (v := .int .i64 0) rfl (by simp) ?_
  refine ListK.done (hK _ _ ?_)
  clear hK K
  generalize hA : Act.put _ _ _ = a3
  have hz_a3 : a3.tmps.size = 155 := by rw [← hA]; simp only [size_put, hz]
  have q13 : a3.eval (.tmp 13) = .slice (some ⟨g1, 0, none⟩) (hdH s).many (hdH s).many := by rw [← hA]; exact (by simp [t13])
  have q15 : a3.eval (.tmp 15) = .slice (some ⟨g2, 0, none⟩) (hdH s).many (hdH s).many := by rw [← hA]; exact (by simp [t15])
  have q17 : a3.eval (.tmp 17) = .slice (some ⟨g3, 0, none⟩) (hdH s).many (hdH s).many := by rw [← hA]; exact (by simp [t17])
  have q19 : a3.eval (.tmp 19) = .int .i64 0 := by rw [← hA]; exact (by simp [hz])
  have hd_a3 : a3.defers = [] := by rw [← hA]; simp only [defers_put, hd_a]
  clear hA
  refine wpIn_block (wpIn_loop (fun a W' => ∃ k : Nat, Below W6.heap.size W6 W' ∧ k ≤ (hdH s).many ∧ a.tmps.size = 155 ∧ a.defers = [] ∧ a.eval (.tmp 13) = .slice (some ⟨g1, 0, none⟩) (hdH s).many (hdH s).many ∧ a.eval (.tmp 15) = .slice (some ⟨g2, 0, none⟩) (hdH s).many (hdH s).many ∧ a.eval (.tmp 17) = .slice (some ⟨g3, 0, none⟩) (hdH s).many (hdH s).many ∧ a.eval (.tmp 19) = .int .i64 (k : Int)) (fun a _ => (hdH s).many - (intOf (a.eval (.tmp 19))).toNat)
    ⟨0, Below.refl _ _, by omega, hz_a3, hd_a3, q13, q15, q17, q19⟩ ?_)
  rintro b2 W9 ⟨k, hb9, hkm, hz_b1, hd_b2, s13, s15, s17, s19⟩
  unfold tg_l
  by_cases hlt : k < (hdH s).many
  · skip
    refine wpIn_seq (wpIn_seq (region_p 4 ?_))
    intro K hK
    refine ListK.move (i := 0) (v := .int .i64 (k : Int)) rfl (by simp [s19]) ?_
    refine ListK.move (i := 1) (v := .slice (some ⟨g3, 0, none⟩) (hdH s).many (hdH s).many) rfl (by simp [s17]) ?_
    refine ListK.len (i := 2) (u := .slice (some ⟨g3, 0, none⟩) (hdH s).many (hdH s).many) (v := .int .i64 (hdH s).many) rfl (by simp [hz_b1]) (ln40 _ _ _ _ _) rfl ?_
    refine ListK.bin (i := 3) (u := .int .i64 (k : Int)) (u' := .int .i64 (hdH s).many) (v := .bool true) rfl (by simp [hz_b1]) (by simp [hz_b1]) (lssT3 (by omega) _) ?_
    refine ListK.done (hK _ _ ?_)
    clear hK K
    refine wpIn_cond (t := true) (by simp [hz_b1]) (wpIn_skip ?_)
    generalize hA : Act.put _ _ _ = b3
    have hz_b3 : b3.tmps.size = 155 := by rw [← hA]; simp only [size_put, hz_b1]
    have o13 : b3.eval (.tmp 13) = .slice (some ⟨g1, 0, none⟩) (hdH s).many (hdH s).many := by rw [← hA]; exact (by simp [s13])
    have o15 : b3.eval (.tmp 15) = .slice (some ⟨g2, 0, none⟩) (hdH s).many (hdH s).many := by rw [← hA]; exact (by simp [s15])
    have o17 : b3.eval (.tmp 17) = .slice (some ⟨g3, 0, none⟩) (hdH s).many (hdH s).many := by rw [← hA]; exact (by simp [s17])
    have o19 : b3.eval (.tmp 19) = .int .i64 (k : Int) := by rw [← hA]; exact (by simp [s19])
    have hd_b3 : b3.defers = [] := by rw [← hA]; simp only [defers_put, hd_b2]
    clear hA
    refine wpIn_seq (wpIn_block ?_)
    have hbd := (Below.refl W9.heap.size W9).drew
    have hb9d := hb9.trans (hbd.mono hb9.size)
    have c1 := (row1.below hb9d (k * 2) (by omega)).1
    have c2 := (row1.below hb9d (k * 2 + 1) (by omega)).1
    have c3 := (row2.below hb9d (k * 2) (by omega)).1
    have c4 := (row2.below hb9d (k * 2 + 1) (by omega)).1
    have c5 := (row3.below hb9d (k * 2) (by omega)).1
    have c6 := (row3.below hb9d (k * 2 + 1) (by omega)).1
    obtain ⟨⟨l1, l2⟩, l3, l4⟩ := hle k hlt
    generalize f1 (k * 2) = x1 at c1 l1
    generalize f1 (k * 2 + 1) = x2 at c2 l2
    generalize f2 (k * 2) = x3 at c3 l3
    generalize f2 (k * 2 + 1) = x4 at c4 l4
    generalize f3 (k * 2) = x5 at c5 l1 l3
    generalize f3 (k * 2 + 1) = x6 at c6 l2 l4
    refine wpIn_seq (region_K (KpR (fun w : World => (w.cell? ⟨g1, k * 2, none⟩ = some (.int .i64 x1) ∧ w.cell? ⟨g1, k * 2 + 1, none⟩ = some (.int .i64 x2)) ∧ (w.cell? ⟨g2, k * 2, none⟩ = some (.int .i64 x3) ∧ w.cell? ⟨g2, k * 2 + 1, none⟩ = some (.int .i64 x4)) ∧ (w.cell? ⟨g3, k * 2, none⟩ = some (.int .i64 x5) ∧ w.cell? ⟨g3, k * 2 + 1, none⟩ = some (.int .i64 x6)) ∧ Below W9.heap.size W9 w) (fun _ => false)) (wideF_plain _) (by kernel_rfl) Try.mixed ?_)
    change AnyK _ _ _ _ 50 (Array.replicate 50 false) _ _
    have hR : (fun w : World => (w.cell? ⟨g1, k * 2, none⟩ = some (.int .i64 x1) ∧ w.cell? ⟨g1, k * 2 + 1, none⟩ = some (.int .i64 x2)) ∧ (w.cell? ⟨g2, k * 2, none⟩ = some (.int .i64 x3) ∧ w.cell? ⟨g2, k * 2 + 1, none⟩ = some (.int .i64 x4)) ∧ (w.cell? ⟨g3, k * 2, none⟩ = some (.int .i64 x5) ∧ w.cell? ⟨g3, k * 2 + 1, none⟩ = some (.int .i64 x6)) ∧ Below W9.heap.size W9 w) W9.drew := ⟨⟨c1, c2⟩, ⟨c3, c4⟩, ⟨c5, c6⟩, hbd⟩
    refine AnyK.move (i := 0) may_o (v := .slice (some ⟨g3, 0, none⟩) (hdH s).many (hdH s).many) (by simp [o17]) hR ?_
    refine AnyK.move (i := 1) may_o (v := .int .i64 (k : Int)) (by simp [o19]) hR ?_
    refine AnyK.index (i := 2) may_o (u := .slice (some ⟨g3, 0, none⟩) (hdH s).many (hdH s).many) (u' := .int .i64 (k : Int)) (v := .pointer (some ⟨g3, k * 2, none⟩)) (by simp [hz_b3]) (by simp [hz_b3]) (fun w => by have := ix40 (b := g3) (o := 0) (c := (hdH s).many) hlt w; rwa [Nat.zero_add] at this) hR ?_
    refine AnyK.field (i := 3) may_o (u := .pointer (some ⟨g3, k * 2, none⟩)) (v := .pointer (some ⟨g3, k * 2, none⟩)) (by simp [hz_b3]) (fun w => fa45_0 w) hR ?_
    refine AnyK.load (i := 4) may_o (p := ⟨g3, k * 2, none⟩) (v := .int .i64 x5) (by simp [hz_b3]) (fun w hw => ld3 hw.2.2.1.1) hR ?_
    refine AnyK.move (i := 5) may_o (v := .slice (some ⟨g1, 0, none⟩) (hdH s).many (hdH s).many) (by simp [o13]) hR ?_
    refine AnyK.move (i := 6) may_o (v := .int .i64 (k : Int)) (by simp [o19]) hR ?_
    refine AnyK.index (i := 7) may_o (u := .slice (some ⟨g1, 0, none⟩) (hdH s).many (hdH s).many) (u' := .int .i64 (k : Int)) (v := .pointer (some ⟨g1, k * 2, none⟩)) (by simp [hz_b3]) (by simp [hz_b3]) (fun w => by have := ix40 (b := g1) (o := 0) (c := (hdH s).many) hlt w; rwa [Nat.zero_add] at this) hR ?_
    refine AnyK.field (i := 8) may_o (u := .pointer (some ⟨g1, k * 2, none⟩)) (v := .pointer (some ⟨g1, k * 2, none⟩)) (by simp [hz_b3]) (fun w => fa45_0 w) hR ?_
    refine AnyK.load (i := 9) may_o (p := ⟨g1, k * 2, none⟩) (v := .int .i64 x1) (by simp [hz_b3]) (fun w hw => ld3 hw.1.1) hR ?_
    refine AnyK.bin (i := 10) may_o (u := .int .i64 x5) (u' := .int .i64 x1) (v := .bool false) (by simp [hz_b3]) (by simp [hz_b3]) (fun w => lssF3 (by omega) w) hR ?_
    refine AnyK.move (i := 11) may_o (v := .bool false) (by simp [hz_b3]) hR ?_
    refine AnyK.move (i := 12) may_o (v := .slice (some ⟨g3, 0, none⟩) (hdH s).many (hdH s).many) (by simp [o17]) hR (hw := (by exact wanted_g (e := 115) (b' := false) rfl (by simp [hz_b3]) rfl)) ?_
    refine AnyK.move (i := 13) may_o (v := .int .i64 (k : Int)) (by simp [o19]) hR (hw := (by exact wanted_g (e := 115) (b' := false) rfl (by simp [hz_b3]) rfl)) ?_
    refine AnyK.index (i := 14) may_o (u := .slice (some ⟨g3, 0, none⟩) (hdH s).many (hdH s).many) (u' := .int .i64 (k : Int)) (v := .pointer (some ⟨g3, k * 2, none⟩)) (by simp [hz_b3]) (by simp [hz_b3]) (fun w => by have := ix40 (b := g3) (o := 0) (c := (hdH s).many) hlt w; rwa [Nat.zero_add] at this) hR (hw := (by exact wanted_g (e := 115) (b' := false) rfl (by simp [hz_b3]) rfl)) ?_
    refine AnyK.field (i := 15) may_o (u := .pointer (some ⟨g3, k * 2, none⟩)) (v := .pointer (some ⟨g3, k * 2 + 1, none⟩)) (by simp [hz_b3]) (fun w => fa45_1 w) hR (hw := (by exact wanted_g (e := 115) (b' := false) rfl (by simp [hz_b3]) rfl)) ?_
    refine AnyK.load (i := 16) may_o (p := ⟨g3, k * 2 + 1, none⟩) (v := .int .i64 x6) (by simp [hz_b3]) (fun w hw => ld3 hw.2.2.1.2) hR (hw := (by exact wanted_g (e := 115) (b' := false) rfl (by simp [hz_b3]) rfl)) ?_
    refine AnyK.move (i := 17) may_o (v := .slice (some ⟨g1, 0, none⟩) (hdH s).many (hdH s).many) (by simp [o13]) hR (hw := (by exact wanted_g (e := 115) (b' := false) rfl (by simp [hz_b3]) rfl)) ?_
    refine AnyK.move (i := 18) may_o (v := .int .i64 (k : Int)) (by simp [o19]) hR (hw := (by exact wanted_g (e := 115) (b' := false) rfl (by simp [hz_b3]) rfl)) ?_
    refine AnyK.index (i := 19) may_o (u := .slice (some ⟨g1, 0, none⟩) (hdH s).many (hdH s).many) (u' := .int .i64 (k : Int)) (v := .pointer (some ⟨g1, k * 2, none⟩)) (by simp [hz_b3]) (by simp [hz_b3]) (fun w => by have := ix40 (b := g1) (o := 0) (c := (hdH s).many) hlt w; rwa [Nat.zero_add] at this) hR (hw := (by exact wanted_g (e := 115) (b' := false) rfl (by simp [hz_b3]) rfl)) ?_
    refine AnyK.field (i := 20) may_o (u := .pointer (some ⟨g1, k * 2, none⟩)) (v := .pointer (some ⟨g1, k * 2 + 1, none⟩)) (by simp [hz_b3]) (fun w => fa45_1 w) hR (hw := (by exact wanted_g (e := 115) (b' := false) rfl (by simp [hz_b3]) rfl)) ?_
    refine AnyK.load (i := 21) may_o (p := ⟨g1, k * 2 + 1, none⟩) (v := .int .i64 x2) (by simp [hz_b3]) (fun w hw => ld3 hw.1.2) hR (hw := (by exact wanted_g (e := 115) (b' := false) rfl (by simp [hz_b3]) rfl)) ?_
    refine AnyK.bin (i := 22) may_o (u := .int .i64 x6) (u' := .int .i64 x2) (v := .bool false) (by simp [hz_b3]) (by simp [hz_b3]) (fun w => gtrF3 (by omega) w) hR (hw := (by exact wanted_g (e := 115) (b' := false) rfl (by simp [hz_b3]) rfl)) ?_
    refine AnyK.pick (i := 23) may_o (b := false) (v := .bool false) (by simp [hz_b3]) (by simp [hz_b3]) hR ?_
    refine AnyK.move (i := 24) may_o (v := .bool false) (by simp [hz_b3]) hR ?_
    refine AnyK.move (i := 25) may_o (v := .slice (some ⟨g3, 0, none⟩) (hdH s).many (hdH s).many) (by simp [o17]) hR (hw := (by exact wanted_g (e := 128) (b' := false) rfl (by simp [hz_b3]) rfl)) ?_
    refine AnyK.move (i := 26) may_o (v := .int .i64 (k : Int)) (by simp [o19]) hR (hw := (by exact wanted_g (e := 128) (b' := false) rfl (by simp [hz_b3]) rfl)) ?_
    refine AnyK.index (i := 27) may_o (u := .slice (some ⟨g3, 0, none⟩) (hdH s).many (hdH s).many) (u' := .int .i64 (k : Int)) (v := .pointer (some ⟨g3, k * 2, none⟩)) (by simp [hz_b3]) (by simp [hz_b3]) (fun w => by have := ix40 (b := g3) (o := 0) (c := (hdH s).many) hlt w; rwa [Nat.zero_add] at this) hR (hw := (by exact wanted_g (e := 128) (b' := false) rfl (by simp [hz_b3]) rfl)) ?_
    refine AnyK.field (i := 28) may_o (u := .pointer (some ⟨g3, k * 2, none⟩)) (v := .pointer (some ⟨g3, k * 2, none⟩)) (by simp [hz_b3]) (fun w => fa45_0 w) hR (hw := (by exact wanted_g (e := 128) (b' := false) rfl (by simp [hz_b3]) rfl)) ?_
    refine AnyK.load (i := 29) may_o (p := ⟨g3, k * 2, none⟩) (v := .int .i64 x5) (by simp [hz_b3]) (fun w hw => ld3 hw.2.2.1.1) hR (hw := (by exact wanted_g (e := 128) (b' := false) rfl (by simp [hz_b3]) rfl)) ?_
    refine AnyK.move (i := 30) may_o (v := .slice (some ⟨g2, 0, none⟩) (hdH s).many (hdH s).many) (by simp [o15]) hR (hw := (by exact wanted_g (e := 128) (b' := false) rfl (by simp [hz_b3]) rfl)) ?_
    refine AnyK.move (i := 31) may_o (v := .int .i64 (k : Int)) (by simp [o19]) hR (hw := (by exact wanted_g (e := 128) (b' := false) rfl (by simp [hz_b3]) rfl)) ?_
    refine AnyK.index (i := 32) may_o (u := .slice (some ⟨g2, 0, none⟩) (hdH s).many (hdH s).many) (u' := .int .i64 (k : Int)) (v := .pointer (some ⟨g2, k * 2, none⟩)) (by simp [hz_b3]) (by simp [hz_b3]) (fun w => by have := ix40 (b := g2) (o := 0) (c := (hdH s).many) hlt w; rwa [Nat.zero_add] at this) hR (hw := (by exact wanted_g (e := 128) (b' := false) rfl (by simp [hz_b3]) rfl)) ?_
    refine AnyK.field (i := 33) may_o (u := .pointer (some ⟨g2, k * 2, none⟩)) (v := .pointer (some ⟨g2, k * 2, none⟩)) (by simp [hz_b3]) (fun w => fa45_0 w) hR (hw := (by exact wanted_g (e := 128) (b' := false) rfl (by simp [hz_b3]) rfl)) ?_
    refine AnyK.load (i := 34) may_o (p := ⟨g2, k * 2, none⟩) (v := .int .i64 x3) (by simp [hz_b3]) (fun w hw => ld3 hw.2.1.1) hR (hw := (by exact wanted_g (e := 128) (b' := false) rfl (by simp [hz_b3]) rfl)) ?_
    refine AnyK.bin (i := 35) may_o (u := .int .i64 x5) (u' := .int .i64 x3) (v := .bool false) (by simp [hz_b3]) (by simp [hz_b3]) (fun w => lssF3 (by omega) w) hR (hw := (by exact wanted_g (e := 128) (b' := false) rfl (by simp [hz_b3]) rfl)) ?_
    refine AnyK.pick (i := 36) may_o (b := false) (v := .bool false) (by simp [hz_b3]) (by simp [hz_b3]) hR ?_
    refine AnyK.move (i := 37) may_o (v := .bool false) (by simp [hz_b3]) hR ?_
    refine AnyK.move (i := 38) may_o (v := .slice (some ⟨g3, 0, none⟩) (hdH s).many (hdH s).many) (by simp [o17]) hR (hw := (by exact wanted_g (e := 141) (b' := false) rfl (by simp [hz_b3]) rfl)) ?_
    refine AnyK.move (i := 39) may_o (v := .int .i64 (k : Int)) (by simp [o19]) hR (hw := (by exact wanted_g (e := 141) (b' := false) rfl (by simp [hz_b3]) rfl)) ?_
    refine AnyK.index (i := 40) may_o (u := .slice (some ⟨g3, 0, none⟩) (hdH s).many (hdH s).many) (u' := .int .i64 (k : Int)) (v := .pointer (some ⟨g3, k * 2, none⟩)) (by simp [hz_b3]) (by simp [hz_b3]) (fun w => by have := ix40 (b := g3) (o := 0) (c := (hdH s).many) hlt w; rwa [Nat.zero_add] at this) hR (hw := (by exact wanted_g (e := 141) (b' := false) rfl (by simp [hz_b3]) rfl)) ?_
    refine AnyK.field (i := 41) may_o (u := .pointer (some ⟨g3, k * 2, none⟩)) (v := .pointer (some ⟨g3, k * 2 + 1, none⟩)) (by simp [hz_b3]) (fun w => fa45_1 w) hR (hw := (by exact wanted_g (e := 141) (b' := false) rfl (by simp [hz_b3]) rfl)) ?_
    refine AnyK.load (i := 42) may_o (p := ⟨g3, k * 2 + 1, none⟩) (v := .int .i64 x6) (by simp [hz_b3]) (fun w hw => ld3 hw.2.2.1.2) hR (hw := (by exact wanted_g (e := 141) (b' := false) rfl (by simp [hz_b3]) rfl)) ?_
    refine AnyK.move (i := 43) may_o (v := .slice (some ⟨g2, 0, none⟩) (hdH s).many (hdH s).many) (by simp [o15]) hR (hw := (by exact wanted_g (e := 141) (b' := false) rfl (by simp [hz_b3]) rfl)) ?_
    refine AnyK.move (i := 44) may_o (v := .int .i64 (k : Int)) (by simp [o19]) hR (hw := (by exact wanted_g (e := 141) (b' := false) rfl (by simp [hz_b3]) rfl)) ?_
    refine AnyK.index (i := 45) may_o (u := .slice (some ⟨g2, 0, none⟩) (hdH s).many (hdH s).many) (u' := .int .i64 (k : Int)) (v := .pointer (some ⟨g2, k * 2, none⟩)) (by simp [hz_b3]) (by simp [hz_b3]) (fun w => by have := ix40 (b := g2) (o := 0) (c := (hdH s).many) hlt w; rwa [Nat.zero_add] at this) hR (hw := (by exact wanted_g (e := 141) (b' := false) rfl (by simp [hz_b3]) rfl)) ?_
    refine AnyK.field (i := 46) may_o (u := .pointer (some ⟨g2, k * 2, none⟩)) (v := .pointer (some ⟨g2, k * 2 + 1, none⟩)) (by simp [hz_b3]) (fun w => fa45_1 w) hR (hw := (by exact wanted_g (e := 141) (b' := false) rfl (by simp [hz_b3]) rfl)) ?_
    refine AnyK.load (i := 47) may_o (p := ⟨g2, k * 2 + 1, none⟩) (v := .int .i64 x4) (by simp [hz_b3]) (fun w hw => ld3 hw.2.1.2) hR (hw := (by exact wanted_g (e := 141) (b' := false) rfl (by simp [hz_b3]) rfl)) ?_
    refine AnyK.bin (i := 48) may_o (u := .int .i64 x6) (u' := .int .i64 x4) (v := .bool false) (by simp [hz_b3]) (by simp [hz_b3]) (fun w => gtrF3 (by omega) w) hR (hw := (by exact wanted_g (e := 141) (b' := false) rfl (by simp [hz_b3]) rfl)) ?_
    refine AnyK.pick (i := 49) may_o (b := false) (v := .bool false) (by simp [hz_b3]) (by simp [hz_b3]) hR ?_
    refine AnyK.done (by kernel_rfl) ?_
    refine wpIn_cond (t := false) (by simp [hz_b3]) (wpIn_skip ?_)
    generalize hA : Act.put _ _ _ = b4
    have hz_b4 : b4.tmps.size = 155 := by rw [← hA]; simp only [size_put, hz_b3]
    have y13 : b4.eval (.tmp 13) = .slice (some ⟨g1, 0, none⟩) (hdH s).many (hdH s).many := by rw [← hA]; exact (by simp [o13])
    have y15 : b4.eval (.tmp 15) = .slice (some ⟨g2, 0, none⟩) (hdH s).many (hdH s).many := by rw [← hA]; exact (by simp [o15])
    have y17 : b4.eval (.tmp 17) = .slice (some ⟨g3, 0, none⟩) (hdH s).many (hdH s).many := by rw [← hA]; exact (by simp [o17])
    have y19 : b4.eval (.tmp 19) = .int .i64 (k : Int) := by rw [← hA]; exact (by simp [o19])
    have hd_b4 : b4.defers = [] := by rw [← hA]; simp only [defers_put, hd_b3]
    clear hA
    refine region_p 3 ?_
    intro K hK
    refine ListK.move (i := 0) (v := .int .i64 (k : Int)) rfl (by simp [y19]) ?_
    refine ListK.bin (i := 1) (u := .int .i64 (k : Int)) (u' := .int .i64 1) (v := .int .i64 ((k + 1 : Nat) : Int)) rfl (by simp [hz_b4]) (by simp) (add3 (by omega) (by omega) _) ?_
    refine ListK.assign (i := 2) (v := .int .i64 ((k + 1 : Nat) : Int)) rfl (by simp [hz_b4]) ?_
    refine ListK.done (hK _ _ ?_)
    clear hK K
    refine ⟨⟨k + 1, hb9.trans (hR.2.2.2.mono hb9.size), by omega, (by simp only [size_put, hz_b4]), (by simp only [defers_put, hd_b4]), (by simp [y13]), (by simp [y15]), (by simp [y17]), (by simp [hz_b4])⟩, ?_⟩
    rw [s19, show (Act.put _ _ _).eval (.tmp 19) = .int .i64 ((k + 1 : Nat) : Int) from (by simp [hz_b4])]
    simp only [intOf]
    omega
  · skip
    refine wpIn_seq (wpIn_seq (region_p 4 ?_))
    intro K hK
    refine ListK.move (i := 0) (v := .int .i64 (k : Int)) rfl (by simp [s19]) ?_
    refine ListK.move (i := 1) (v := .slice (some ⟨g3, 0, none⟩) (hdH s).many (hdH s).many) rfl (by simp [s17]) ?_
    refine ListK.len (i := 2) (u := .slice (some ⟨g3, 0, none⟩) (hdH s).many (hdH s).many) (v := .int .i64 (hdH s).many) rfl (by simp [hz_b1]) (ln40 _ _ _ _ _) rfl ?_
    refine ListK.bin (i := 3) (u := .int .i64 (k : Int)) (u' := .int .i64 (hdH s).many) (v := .bool false) rfl (by simp [hz_b1]) (by simp [hz_b1]) (lssF3 (by omega) _) ?_
    refine ListK.done (hK _ _ ?_)
    clear hK K
    refine wpIn_cond (t := false) (by simp [hz_b1]) (wpIn_exit ?_)
    show (Code.wpIn _ _ _ (Code.seq _ _) _ _ _)
    refine wpIn_seq (region_p 2 ?_)
    intro K hK
    refine ListK.call (i := 0) (vs := #[]) rfl (enters_of Try.func16 (by kernel_rfl) rfl) (by simp) ((awake_any W9).mono ?_)
    rintro _ W10 ⟨rfl, hb10⟩
    refine ⟨_, rfl, ?_⟩
    refine ListK.assign (i := 1) (v := .bool true) rfl (by simp [hz_b1]) ?_
    refine ListK.done (hK _ _ (wpIn_ret ?_))
    exact bodyPost_ret (v := .bool true) (res1 Try.results13 (by simp [hz_b1])) (by simp only [defers_put, hd_b2]) ⟨rfl, hB.trans ((hb9.trans (hb10.mono hb9.size)).mono hB.size)⟩
set_option maxHeartbeats 800000 in
theorem tg_b_any {b1 c : Nat} {A : Option Addr} {T U : List (List UInt8)} {a : Act} {W2 : World} (hf : faultS s = 0) (tT : TornF s T) (tU : TornF s U) (w2 : Whole W2 b1 24 #[.int .i64 s.width, .int .i64 s.step, .slice A s.rd.length c]) (hs : IntsAt W2 W2.heap.size A s.rd)
    (hz : a.tmps.size = 155) (hd_a : a.defers = []) (t4 : a.eval (.tmp 4) = ptr b1) (t9 : a.eval (.tmp 9) = strV (linesL T)) (t10 : a.eval (.tmp 10) = strV (linesL U)) (hB : Below W.heap.size W W2) :
    tg_b.wpIn Fence.wide 5 Try.prog (bodyPost Try.prog Try.f13 (TP W true)) a W2 := by
  have n := serN hf
  have hlen := n.len
  have lT := tT.len
  have bT := tT.bytes
  have lU := tU.len
  have bU := tU.bytes
  obtain ⟨r1, r2⟩ := two_read n tT.sub tU.sub (List.mem_append_left _ tT.hd) (by omega) (by omega)
  have hTU : ∀ r, r ∈ T ++ U → r ∈ fileL s := fun r hr => (List.mem_append.1 hr).elim (tT.sub r) (tU.sub r)
  have tJ := join_torn n hTU (List.mem_append_left _ tT.hd)
  have hJm : ∀ r, r ∈ joinR (T ++ U) ↔ r ∈ T ++ U := join_mem (fun r hr => (file_ok n (hTU r hr)).1)
  obtain ⟨J, hJ⟩ : ∃ J, joinR (T ++ U) = J := ⟨_, rfl⟩
  rw [hJ] at tJ hJm
  have lJ := tJ.len
  have bJ := tJ.bytes
  have hfit := fits_torn hf tJ
  have hT0 := mend_torn n tT.sub tT.hd (by omega)
  have hU0 := mend_torn n tU.sub tU.hd (by omega)
  have hJ0 := mend_torn n tJ.sub tJ.hd (by omega)
  obtain ⟨mT, _, hmT, hRT, _, hrT⟩ := read_torn n tT.sub tT.hd (by omega)
  obtain ⟨mU, _, hmU, hRU, _, hrU⟩ := read_torn n tU.sub tU.hd (by omega)
  obtain ⟨mJ, _, hmJ, hRJ, _, hrJ⟩ := read_torn n tJ.sub tJ.hd (by omega)
  unfold tg_b
  refine wpIn_seq (region_p 10 ?_)
  intro K hK
  refine ListK.move (i := 0) (v := strV (linesL T)) rfl (by simp [t9]) ?_
  refine ListK.call (i := 1) (vs := #[strV (linesL T)]) rfl (enters_of Try.func26 (by kernel_rfl) rfl) (by simp [hz]) ((bytes_any (linesL T) (by omega) W2).mono ?_)
  rintro _ V1 ⟨v1, rfl, ob1⟩
  obtain ⟨A1, c1, rfl, hc1, hy1⟩ := ob1.bytes
  refine ⟨_, rfl, ?_⟩
  refine ListK.move (i := 2) (v := strV (linesL U)) rfl (by simp [t10]) ?_
  refine ListK.call (i := 3) (vs := #[strV (linesL U)]) rfl (enters_of Try.func26 (by kernel_rfl) rfl) (by simp [hz]) ((bytes_any (linesL U) (by omega) V1).mono ?_)
  rintro _ V2 ⟨v2, rfl, ob2⟩
  obtain ⟨A2, c2, rfl, hc2, hy2⟩ := ob2.bytes
  refine ⟨_, rfl, ?_⟩
  refine ListK.call (i := 4) (vs := #[.slice A1 (linesL T).length c1, .slice A2 (linesL U).length c2]) rfl (enters_of Try.func39 (by kernel_rfl) rfl) (by simp [hz]) ((join_any A1 A2 c1 c2 (linesL T) (linesL U) V2 hc1 (by omega) ((hy1.below ob2.low (Nat.le_refl _)).more ob2.low.size) hc2 (by omega) hy2).mono ?_)
  rintro e W4 ⟨hb4, v11, rfl, _, hv1⟩
  have ob11 := hv1 r1
  rw [r2, hJ] at ob11
  rw [r1]
  obtain ⟨A11, c11, rfl, hc11, hy11⟩ := ob11.bytes
  refine ⟨_, rfl, ?_⟩
  refine ListK.move (i := 5) (v := .tuple #[.slice A11 (linesL J).length c11, .int .i64 0]) rfl (by simp [hz]) ?_
  refine ListK.extract (i := 6) (u := .tuple #[.slice A11 (linesL J).length c11, .int .i64 0]) (v := .slice A11 (linesL J).length c11) rfl (by simp [hz]) (ex0 _ _ _) ?_
  refine ListK.extract (i := 7) (u := .tuple #[.slice A11 (linesL J).length c11, .int .i64 0]) (v := .int .i64 0) rfl (by simp [hz]) (ex1 _ _ _) ?_
  refine ListK.assign (i := 8) (v := .slice A11 (linesL J).length c11) rfl (by simp [hz]) ?_
  refine ListK.assign (i := 9) (v := .int .i64 0) rfl (by simp [hz]) ?_
  refine ListK.done (hK _ _ ?_)
  clear hK K
  have hb24 := ob1.low.trans ((ob2.low.trans (hb4.mono ob2.low.size)).mono ob1.low.size)
  generalize hA : Act.put _ _ _ = a1
  have hz_a1 : a1.tmps.size = 155 := by rw [← hA]; simp only [size_put, hz]
  have u4 : a1.eval (.tmp 4) = .pointer (some ⟨b1, 0, none⟩) := by rw [← hA]; exact (by simp [t4])
  have u9 : a1.eval (.tmp 9) = strV (linesL T) := by rw [← hA]; exact (by simp [t9])
  have u10 : a1.eval (.tmp 10) = strV (linesL U) := by rw [← hA]; exact (by simp [t10])
  have u11 : a1.eval (.tmp 11) = .slice A11 (linesL J).length c11 := by rw [← hA]; exact (by simp [hz])
  have u12 : a1.eval (.tmp 12) = .int .i64 0 := by rw [← hA]; exact (by simp [hz])
  have hd_a1 : a1.defers = [] := by rw [← hA]; simp only [defers_put, hd_a]
  clear hA
  refine wpIn_seq (region_p 8 ?_)
  intro K hK
  refine ListK.move (i := 0) (v := strV (linesL T)) rfl (by simp [u9]) ?_
  refine ListK.call (i := 1) (vs := #[strV (linesL T)]) rfl (enters_of Try.func26 (by kernel_rfl) rfl) (by simp [hz_a1]) ((bytes_any (linesL T) (by omega) W4).mono ?_)
  rintro _ V6 ⟨v6, rfl, ob6⟩
  obtain ⟨A6, c6, rfl, hc6, hy6⟩ := ob6.bytes
  refine ⟨_, rfl, ?_⟩
  refine ListK.call (i := 2) (vs := #[.slice A6 (linesL T).length c6]) rfl (enters_of Try.func25 (by kernel_rfl) rfl) (by simp [hz_a1]) ((mendX_any A6 (linesL T) c6 V6 hc6 (by omega) hy6).mono ?_)
  rintro e W6 hmp
  obtain ⟨hb6, B6, n6, d6, rfl, hx6, hm6⟩ := hmp
  refine ⟨_, rfl, ?_⟩
  refine ListK.move (i := 3) (v := .tuple #[.slice B6 n6 d6, .int .i64 (mendC (linesL T))]) rfl (by simp [hz_a1]) ?_
  refine ListK.extract (i := 4) (u := .tuple #[.slice B6 n6 d6, .int .i64 (mendC (linesL T))]) (v := .slice B6 n6 d6) rfl (by simp [hz_a1]) (ex0 _ _ _) ?_
  refine ListK.extract (i := 5) (u := .tuple #[.slice B6 n6 d6, .int .i64 (mendC (linesL T))]) (v := .int .i64 (mendC (linesL T))) rfl (by simp [hz_a1]) (ex1 _ _ _) ?_
  refine ListK.assign (i := 6) (v := .slice B6 n6 d6) rfl (by simp [hz_a1]) ?_
  refine ListK.assign (i := 7) (v := .int .i64 (mendC (linesL T))) rfl (by simp [hz_a1]) ?_
  refine ListK.done (hK _ _ ?_)
  clear hK K
  have hb46 := ob6.low.trans (hb6.mono ob6.low.size)
  obtain ⟨hd1, m1, g1, f1, hr1, _, hh1, rfl, rfl, rfl, row1, hf1⟩ := hm6 hT0
  rw [hrT] at hr1
  cases hr1
  rw [hT0]
  generalize hA : Act.put _ _ _ = a2
  have hz_a2 : a2.tmps.size = 155 := by rw [← hA]; simp only [size_put, hz_a1]
  have v4 : a2.eval (.tmp 4) = .pointer (some ⟨b1, 0, none⟩) := by rw [← hA]; exact (by simp [u4])
  have v10 : a2.eval (.tmp 10) = strV (linesL U) := by rw [← hA]; exact (by simp [u10])
  have v11 : a2.eval (.tmp 11) = .slice A11 (linesL J).length c11 := by rw [← hA]; exact (by simp [u11])
  have v12 : a2.eval (.tmp 12) = .int .i64 0 := by rw [← hA]; exact (by simp [u12])
  have v13 : a2.eval (.tmp 13) = .slice (some ⟨g1, 0, none⟩) (hdH s).many (hdH s).many := by rw [← hA]; exact (by simp [hz_a1])
  have v14 : a2.eval (.tmp 14) = .int .i64 0 := by rw [← hA]; exact (by simp [hz_a1])
  have hd_a2 : a2.defers = [] := by rw [← hA]; simp only [defers_put, hd_a1]
  clear hA
  refine wpIn_seq (region_p 8 ?_)
  intro K hK
  refine ListK.move (i := 0) (v := strV (linesL U)) rfl (by simp [v10]) ?_
  refine ListK.call (i := 1) (vs := #[strV (linesL U)]) rfl (enters_of Try.func26 (by kernel_rfl) rfl) (by simp [hz_a2]) ((bytes_any (linesL U) (by omega) W6).mono ?_)
  rintro _ V7 ⟨v7, rfl, ob7⟩
  obtain ⟨A7, c7, rfl, hc7, hy7⟩ := ob7.bytes
  refine ⟨_, rfl, ?_⟩
  refine ListK.call (i := 2) (vs := #[.slice A7 (linesL U).length c7]) rfl (enters_of Try.func25 (by kernel_rfl) rfl) (by simp [hz_a2]) ((mendX_any A7 (linesL U) c7 V7 hc7 (by omega) hy7).mono ?_)
  rintro e W7 hmp
  obtain ⟨hb7, B7, n7, d7, rfl, hx7, hm7⟩ := hmp
  refine ⟨_, rfl, ?_⟩
  refine ListK.move (i := 3) (v := .tuple #[.slice B7 n7 d7, .int .i64 (mendC (linesL U))]) rfl (by simp [hz_a2]) ?_
  refine ListK.extract (i := 4) (u := .tuple #[.slice B7 n7 d7, .int .i64 (mendC (linesL U))]) (v := .slice B7 n7 d7) rfl (by simp [hz_a2]) (ex0 _ _ _) ?_
  refine ListK.extract (i := 5) (u := .tuple #[.slice B7 n7 d7, .int .i64 (mendC (linesL U))]) (v := .int .i64 (mendC (linesL U))) rfl (by simp [hz_a2]) (ex1 _ _ _) ?_
  refine ListK.assign (i := 6) (v := .slice B7 n7 d7) rfl (by simp [hz_a2]) ?_
  refine ListK.assign (i := 7) (v := .int .i64 (mendC (linesL U))) rfl (by simp [hz_a2]) ?_
  refine ListK.done (hK _ _ ?_)
  clear hK K
  have hb67 := ob7.low.trans (hb7.mono ob7.low.size)
  obtain ⟨hd2, m2, g2, f2, hr2, _, hh2, rfl, rfl, rfl, row2, hf2⟩ := hm7 hU0
  rw [hrU] at hr2
  cases hr2
  rw [hU0]
  generalize hA : Act.put _ _ _ = a3
  have hz_a3 : a3.tmps.size = 155 := by rw [← hA]; simp only [size_put, hz_a2]
  have q4 : a3.eval (.tmp 4) = .pointer (some ⟨b1, 0, none⟩) := by rw [← hA]; exact (by simp [v4])
  have q11 : a3.eval (.tmp 11) = .slice A11 (linesL J).length c11 := by rw [← hA]; exact (by simp [v11])
  have q12 : a3.eval (.tmp 12) = .int .i64 0 := by rw [← hA]; exact (by simp [v12])
  have q13 : a3.eval (.tmp 13) = .slice (some ⟨g1, 0, none⟩) (hdH s).many (hdH s).many := by rw [← hA]; exact (by simp [v13])
  have q14 : a3.eval (.tmp 14) = .int .i64 0 := by rw [← hA]; exact (by simp [v14])
  have q15 : a3.eval (.tmp 15) = .slice (some ⟨g2, 0, none⟩) (hdH s).many (hdH s).many := by rw [← hA]; exact (by simp [hz_a2])
  have q16 : a3.eval (.tmp 16) = .int .i64 0 := by rw [← hA]; exact (by simp [hz_a2])
  have hd_a3 : a3.defers = [] := by rw [← hA]; simp only [defers_put, hd_a2]
  clear hA
  have hb47 := hb46.trans (hb67.mono hb46.size)
  have hy117 := (hy11.below hb47 (Nat.le_refl _)).more hb47.size
  obtain ⟨v8, W8, hap8, ob8⟩ := app31_run (c := c11) (ty := 31) (OB.nil W7) hy117 (by simp) (by omega) (by have := List.length_pos_of_mem tJ.hd; omega)
  replace ob8 : OB W7 v8 (linesL J) W8 := ob8
  obtain ⟨A8, c8, rfl, hc8, hy8⟩ := ob8.bytes
  refine wpIn_seq (region_p 8 ?_)
  intro K hK
  refine ListK.move (i := 0) (v := .slice A11 (linesL J).length c11) rfl (by simp [q11]) ?_
  refine ListK.app31 (i := 1) rfl (by simp) (by simp [hz_a3]) hap8 ?_
  refine ListK.call (i := 2) (vs := #[.slice A8 (linesL J).length c8]) rfl (enters_of Try.func25 (by kernel_rfl) rfl) (by simp [hz_a3]) ((mendX_any A8 (linesL J) c8 W8 hc8 (by omega) hy8).mono ?_)
  rintro e W9 hmp
  obtain ⟨hb9, B9, n9, d9, rfl, hx9, hm9⟩ := hmp
  refine ⟨_, rfl, ?_⟩
  refine ListK.move (i := 3) (v := .tuple #[.slice B9 n9 d9, .int .i64 (mendC (linesL J))]) rfl (by simp [hz_a3]) ?_
  refine ListK.extract (i := 4) (u := .tuple #[.slice B9 n9 d9, .int .i64 (mendC (linesL J))]) (v := .slice B9 n9 d9) rfl (by simp [hz_a3]) (ex0 _ _ _) ?_
  refine ListK.extract (i := 5) (u := .tuple #[.slice B9 n9 d9, .int .i64 (mendC (linesL J))]) (v := .int .i64 (mendC (linesL J))) rfl (by simp [hz_a3]) (ex1 _ _ _) ?_
  refine ListK.assign (i := 6) (v := .slice B9 n9 d9) rfl (by simp [hz_a3]) ?_
  refine ListK.assign (i := 7) (v := .int .i64 (mendC (linesL J))) rfl (by simp [hz_a3]) ?_
  refine ListK.done (hK _ _ ?_)
  clear hK K
  obtain ⟨hd3, m3, g3, f3, hr3, _, hh3, rfl, rfl, rfl, row3, hf3⟩ := hm9 hJ0
  rw [hrJ] at hr3
  cases hr3
  rw [hJ0]
  have hb79 := ob8.low.trans (hb9.mono ob8.low.size)
  have hb69 := hb67.trans (hb79.mono hb67.size)
  have hb49 := hb47.trans (hb79.mono hb47.size)
  have hb29 := hb24.trans (hb49.mono hb24.size)
  have w9 := w2.below hb29 w2.lt
  have hs9 := (hs.below hb29 (Nat.le_refl _)).more hb29.size
  have hy119 := (hy11.below hb49 (Nat.le_refl _)).more hb49.size
  generalize hA : Act.put _ _ _ = a4
  have hz_a4 : a4.tmps.size = 155 := by rw [← hA]; simp only [size_put, hz_a3]
  have r4 : a4.eval (.tmp 4) = .pointer (some ⟨b1, 0, none⟩) := by rw [← hA]; exact (by simp [q4])
  have r11 : a4.eval (.tmp 11) = .slice A11 (linesL J).length c11 := by rw [← hA]; exact (by simp [q11])
  have r12 : a4.eval (.tmp 12) = .int .i64 0 := by rw [← hA]; exact (by simp [q12])
  have r13 : a4.eval (.tmp 13) = .slice (some ⟨g1, 0, none⟩) (hdH s).many (hdH s).many := by rw [← hA]; exact (by simp [q13])
  have r14 : a4.eval (.tmp 14) = .int .i64 0 := by rw [← hA]; exact (by simp [q14])
  have r15 : a4.eval (.tmp 15) = .slice (some ⟨g2, 0, none⟩) (hdH s).many (hdH s).many := by rw [← hA]; exact (by simp [q15])
  have r16 : a4.eval (.tmp 16) = .int .i64 0 := by rw [← hA]; exact (by simp [q16])
  have r17 : a4.eval (.tmp 17) = .slice (some ⟨g3, 0, none⟩) (hdH s).many (hdH s).many := by rw [← hA]; exact (by simp [hz_a3])
  have r18 : a4.eval (.tmp 18) = .int .i64 0 := by rw [← hA]; exact (by simp [hz_a3])
  have hd_a4 : a4.defers = [] := by rw [← hA]; simp only [defers_put, hd_a3]
  clear hA
  show tg_8.wpIn _ _ _ _ _ _
  unfold tg_8
  refine wpIn_seq (wpIn_seq (region_p 35 ?_))
  intro K hK
  refine ListK.move (i := 0) (v := .int .i64 0) rfl (by simp [r12]) ?_
  refine ListK.bin (i := 1) (u := .int .i64 0) (u' := .int .i64 0) (v := .bool false) rfl (by simp [hz_a4]) (by simp) (neq27F rfl _) ?_
  refine ListK.move (i := 2) (v := .bool false) rfl (by simp [hz_a4]) ?_
  refine ListK.move (i := 3) (v := .int .i64 0) rfl (by simp [r14]) ?_ (hw := wanted_g (e := 65) (b' := false) rfl (by simp [hz_a4]) rfl)
  refine ListK.bin (i := 4) (u := .int .i64 0) (u' := .int .i64 0) (v := .bool false) rfl (by simp [hz_a4]) (by simp) (neq27F rfl _) ?_ (hw := wanted_g (e := 65) (b' := false) rfl (by simp [hz_a4]) rfl)
  refine ListK.pick (i := 5) (b := false) (v := .bool false) rfl (by simp [hz_a4]) (by simp [hz_a4]) ?_
  refine ListK.move (i := 6) (v := .bool false) rfl (by simp [hz_a4]) ?_
  refine ListK.move (i := 7) (v := .int .i64 0) rfl (by simp [r16]) ?_ (hw := wanted_g (e := 69) (b' := false) rfl (by simp [hz_a4]) rfl)
  refine ListK.bin (i := 8) (u := .int .i64 0) (u' := .int .i64 0) (v := .bool false) rfl (by simp [hz_a4]) (by simp) (neq27F rfl _) ?_ (hw := wanted_g (e := 69) (b' := false) rfl (by simp [hz_a4]) rfl)
  refine ListK.pick (i := 9) (b := false) (v := .bool false) rfl (by simp [hz_a4]) (by simp [hz_a4]) ?_
  refine ListK.move (i := 10) (v := .bool false) rfl (by simp [hz_a4]) ?_
  refine ListK.move (i := 11) (v := .int .i64 0) rfl (by simp [r18]) ?_ (hw := wanted_g (e := 73) (b' := false) rfl (by simp [hz_a4]) rfl)
  refine ListK.bin (i := 12) (u := .int .i64 0) (u' := .int .i64 0) (v := .bool false) rfl (by simp [hz_a4]) (by simp) (neq27F rfl _) ?_ (hw := wanted_g (e := 73) (b' := false) rfl (by simp [hz_a4]) rfl)
  refine ListK.pick (i := 13) (b := false) (v := .bool false) rfl (by simp [hz_a4]) (by simp [hz_a4]) ?_
  refine ListK.move (i := 14) (v := .bool false) rfl (by simp [hz_a4]) ?_
  refine ListK.move (i := 15) (v := .slice (some ⟨g1, 0, none⟩) (hdH s).many (hdH s).many) rfl (by simp [r13]) ?_ (hw := wanted_g (e := 77) (b' := false) rfl (by simp [hz_a4]) rfl)
  refine ListK.lenW (i := 16) (u := .slice (some ⟨g1, 0, none⟩) (hdH s).many (hdH s).many) (v := .int .i64 (hdH s).many) rfl (by simp [hz_a4]) (ln40 _ _ _ _ _) rfl ?_ (hw := wanted_g (e := 77) (b' := false) rfl (by simp [hz_a4]) rfl)
  refine ListK.move (i := 17) (v := .slice (some ⟨g3, 0, none⟩) (hdH s).many (hdH s).many) rfl (by simp [r17]) ?_ (hw := wanted_g (e := 77) (b' := false) rfl (by simp [hz_a4]) rfl)
  refine ListK.lenW (i := 18) (u := .slice (some ⟨g3, 0, none⟩) (hdH s).many (hdH s).many) (v := .int .i64 (hdH s).many) rfl (by simp [hz_a4]) (ln40 _ _ _ _ _) rfl ?_ (hw := wanted_g (e := 77) (b' := false) rfl (by simp [hz_a4]) rfl)
  refine ListK.bin (i := 19) (u := .int .i64 (hdH s).many) (u' := .int .i64 (hdH s).many) (v := .bool false) rfl (by simp [hz_a4]) (by simp [hz_a4]) (neqF rfl _) ?_ (hw := wanted_g (e := 77) (b' := false) rfl (by simp [hz_a4]) rfl)
  refine ListK.pick (i := 20) (b := false) (v := .bool false) rfl (by simp [hz_a4]) (by simp [hz_a4]) ?_
  refine ListK.move (i := 21) (v := .bool false) rfl (by simp [hz_a4]) ?_
  refine ListK.move (i := 22) (v := .slice (some ⟨g2, 0, none⟩) (hdH s).many (hdH s).many) rfl (by simp [r15]) ?_ (hw := wanted_g (e := 84) (b' := false) rfl (by simp [hz_a4]) rfl)
  refine ListK.lenW (i := 23) (u := .slice (some ⟨g2, 0, none⟩) (hdH s).many (hdH s).many) (v := .int .i64 (hdH s).many) rfl (by simp [hz_a4]) (ln40 _ _ _ _ _) rfl ?_ (hw := wanted_g (e := 84) (b' := false) rfl (by simp [hz_a4]) rfl)
  refine ListK.move (i := 24) (v := .slice (some ⟨g3, 0, none⟩) (hdH s).many (hdH s).many) rfl (by simp [r17]) ?_ (hw := wanted_g (e := 84) (b' := false) rfl (by simp [hz_a4]) rfl)
  refine ListK.lenW (i := 25) (u := .slice (some ⟨g3, 0, none⟩) (hdH s).many (hdH s).many) (v := .int .i64 (hdH s).many) rfl (by simp [hz_a4]) (ln40 _ _ _ _ _) rfl ?_ (hw := wanted_g (e := 84) (b' := false) rfl (by simp [hz_a4]) rfl)
  refine ListK.bin (i := 26) (u := .int .i64 (hdH s).many) (u' := .int .i64 (hdH s).many) (v := .bool false) rfl (by simp [hz_a4]) (by simp [hz_a4]) (neqF rfl _) ?_ (hw := wanted_g (e := 84) (b' := false) rfl (by simp [hz_a4]) rfl)
  refine ListK.pick (i := 27) (b := false) (v := .bool false) rfl (by simp [hz_a4]) (by simp [hz_a4]) ?_
  refine ListK.move (i := 28) (v := .bool false) rfl (by simp [hz_a4]) ?_
  refine ListK.move (i := 29) (v := .slice A11 (linesL J).length c11) rfl (by simp [r11]) ?_ (hw := wanted_g (e := 91) (b' := false) rfl (by simp [hz_a4]) rfl)
  refine ListK.load (i := 30) (p := ⟨b1, 0, none⟩) (v := serV s A c) rfl (by simp [r4]) (ld24 ⟨w9.cell 0, w9.cell 1, w9.cell 2⟩) ?_ (hw := wanted_g (e := 91) (b' := false) rfl (by simp [hz_a4]) rfl)
  refine ListK.call (i := 31) (vs := #[serV s A c]) rfl (enters_of Try.func18 (by kernel_rfl) rfl) (by simp [hz_a4]) ((series_any s A c W9 (by omega) hs9).mono ?_) (hw := wanted_g (e := 91) (b' := false) rfl (by simp [hz_a4]) rfl)
  rintro _ W10 ⟨A10, c10, rfl, hs10, hb10⟩
  refine ⟨_, rfl, ?_⟩
  refine ListK.call (i := 32) (vs := #[.slice A11 (linesL J).length c11, serV s A10 c10]) rfl (enters_of Try.func31 (by kernel_rfl) rfl) (by simp [hz_a4]) ((fits_any s A10 A11 c10 c11 (linesL J) W10 (by omega) hs10 hc11 (by omega) ((hy119.below hb10 (Nat.le_refl _)).more hb10.size)).mono ?_) (hw := wanted_g (e := 91) (b' := false) rfl (by simp [hz_a4]) rfl)
  rintro _ W11 ⟨rfl, hb11⟩
  rw [hfit]
  refine ⟨_, rfl, ?_⟩
  refine ListK.un (i := 33) (u := .bool true) (v := .bool false) rfl (by simp [hz_a4]) (not4 _ _) ?_ (hw := wanted_g (e := 91) (b' := false) rfl (by simp [hz_a4]) rfl)
  refine ListK.pick (i := 34) (b := false) (v := .bool false) rfl (by simp [hz_a4]) (by simp [hz_a4]) ?_
  refine ListK.done (hK _ _ ?_)
  clear hK K
  refine wpIn_cond (t := false) (by simp [hz_a4]) (wpIn_skip ?_)
  have hb911 := hb10.trans (hb11.mono hb10.size)
  show tg_c.wpIn _ _ _ _ _ _
  refine tg_c_any n (row1.below (hb69.trans (hb911.mono hb69.size))) (row2.below (hb79.trans (hb911.mono hb79.size))) (row3.below hb911) (fun i hi => ?_) (by simp only [size_put, hz_a4]) (by simp only [defers_put, hd_a4]) (by simp [r13]) (by simp [r15]) (by simp [r17]) (hB.trans ((hb29.trans (hb911.mono hb29.size)).mono hB.size))
  have k1 := less_torn n hRT hRJ (fun r hr => (hmJ r).2 ((hJm r).2 (List.mem_append_left _ ((hmT r).1 hr)))) (k := i) hi
  have k2 := less_torn n hRU hRJ (fun r hr => (hmJ r).2 ((hJm r).2 (List.mem_append_right _ ((hmU r).1 hr)))) (k := i) hi
  rw [(hf1 i hi).1, (hf1 i hi).2, (hf2 i hi).1, (hf2 i hi).2, (hf3 i hi).1, (hf3 i hi).2]
  exact ⟨k1, k2⟩
end
set_option maxHeartbeats 400000 in
theorem together_wp (s : Ser) (A Aw Ao : Option Addr) (c cw co by_ : Nat) (lw lo : List Nat) (W : World) (hby : by_ < 256) (hs : IntsAt W W.heap.size A s.rd) (hw : WordsAt W W.heap.size Aw lw) (ho : WordsAt W W.heap.size Ao lo) :
    Calls Try.prog 13 #[serV s A c, .slice Aw lw.length cw, .slice Ao lo.length co, .int .u8 (by_ : Int)] W (TP W true) := by
  refine (callsIn_wide (n := 5)).1 (callsIn_of_wp Try.func13 body13 trivial ?_ rfl)
  obtain ⟨a, ha⟩ : ∃ a : Act, a = { tmps := #[serV s A c, .slice Aw lw.length cw, .slice Ao lo.length co, .int .u8 (by_ : Int)] ++ Array.replicate (Try.f13.ntmps - (#[serV s A c, .slice Aw lw.length cw, .slice Ao lo.length co, .int .u8 (by_ : Int)] : Array Value).size) undef, defers := [] } := ⟨_, rfl⟩
  have hsz : a.tmps.size = 155 := by rw [ha]; simp [Try.ntmps13]
  have t0 : a.eval (.tmp 0) = serV s A c := by rw [ha]; simp [Act.eval]
  have t1 : a.eval (.tmp 1) = .slice Aw lw.length cw := by rw [ha]; simp [Act.eval]
  have t2 : a.eval (.tmp 2) = .slice Ao lo.length co := by rw [ha]; simp [Act.eval]
  have t3 : a.eval (.tmp 3) = .int .u8 (by_ : Int) := by rw [ha]; simp [Act.eval]
  have hd_a : a.defers = [] := by rw [ha]
  rw [← ha]
  clear ha
  unfold code13
  refine wpIn_seq (region_p 2 ?_)
  intro K hK
  refine ListK.box (i := 0) (u := serV s A c) rfl (by simp [t0]) (bx24 W _ _ _ _ _) ?_
  refine ListK.assign (i := 1) (v := .bool false) rfl (by simp) ?_
  refine ListK.done (hK _ _ ?_)
  clear hK K
  replace hs : IntsAt (W.alloc (.cells #[.int .i64 s.width, .int .i64 s.step, .slice A s.rd.length c] 24)) W.heap.size A s.rd := hs.below ((Below.refl W.heap.size W).alloc (Nat.le_refl _) _) (Nat.le_refl _)
  replace hw : WordsAt (W.alloc (.cells #[.int .i64 s.width, .int .i64 s.step, .slice A s.rd.length c] 24)) W.heap.size Aw lw := hw.below ((Below.refl W.heap.size W).alloc (Nat.le_refl _) _)
  replace ho : WordsAt (W.alloc (.cells #[.int .i64 s.width, .int .i64 s.step, .slice A s.rd.length c] 24)) W.heap.size Ao lo := ho.below ((Below.refl W.heap.size W).alloc (Nat.le_refl _) _)
  have w1 := Whole.new W 24 #[.int .i64 s.width, .int .i64 s.step, .slice A s.rd.length c]
  have hb_b1 : Below W.heap.size W (W.alloc (.cells #[.int .i64 s.width, .int .i64 s.step, .slice A s.rd.length c] 24)) := (Below.refl _ W).alloc (Nat.le_refl _) _
  have hB := hb_b1
  generalize hq_b1 : W.heap.size = b1 at *
  generalize W.alloc (.cells #[.int .i64 s.width, .int .i64 s.step, .slice A s.rd.length c] 24) = W1 at *
  have hsz1 := hB.size
  replace hs := hs.more (show b1 ≤ W1.heap.size by omega)
  replace hw := hw.more (show b1 ≤ W1.heap.size by omega)
  replace ho := ho.more (show b1 ≤ W1.heap.size by omega)
  generalize hA : Act.put _ _ _ = a1
  have hz_a1 : a1.tmps.size = 155 := by rw [← hA]; simp only [size_put, hsz]
  have u1 : a1.eval (.tmp 1) = .slice Aw lw.length cw := by rw [← hA]; exact (by simp [t1])
  have u2 : a1.eval (.tmp 2) = .slice Ao lo.length co := by rw [← hA]; exact (by simp [t2])
  have u3 : a1.eval (.tmp 3) = .int .u8 (by_ : Int) := by rw [← hA]; exact (by simp [t3])
  have u4 : a1.eval (.tmp 4) = .pointer (some ⟨b1, 0, none⟩) := by rw [← hA]; exact (by simp [hsz])
  have hd_a1 : a1.defers = [] := by rw [← hA]; simp only [defers_put, hd_a]
  clear hA
  have hrd := ready_any s A c W1 hs
  cases hrb : readyB s
  · rw [hrb] at hrd
    refine wpIn_seq (wpIn_seq (region_p 3 ?_))
    intro K hK
    refine ListK.load (i := 0) (p := ⟨b1, 0, none⟩) (v := serV s A c) rfl (by simp [u4]) (ld24 ⟨w1.cell 0, w1.cell 1, w1.cell 2⟩) ?_
    refine ListK.call (i := 1) (vs := #[serV s A c]) rfl (enters_of Try.func23 (by kernel_rfl) rfl) (by simp [hz_a1]) ((hrd).mono ?_)
    rintro _ W2 ⟨rfl, hb2⟩
    refine ⟨_, rfl, ?_⟩
    refine ListK.un (i := 2) (u := .bool false) (v := .bool true) rfl (by simp [hz_a1]) (not4 _ _) ?_
    refine ListK.done (hK _ _ ?_)
    clear hK K
    refine wpIn_cond (t := true) (by simp [hz_a1]) ?_
    refine wpIn_seq (region_p 2 ?_)
    intro K hK
    refine ListK.call (i := 0) (vs := #[]) rfl (enters_of Try.func16 (by kernel_rfl) rfl) (by simp) ((awake_any W2).mono ?_)
    rintro _ W3 ⟨rfl, hb3⟩
    refine ⟨_, rfl, ?_⟩
    refine ListK.assign (i := 1) (v := .bool true) rfl (by simp [hz_a1]) ?_
    refine ListK.done (hK _ _ (wpIn_ret ?_))
    refine bodyPost_ret (v := .bool true) (res1 Try.results13 (by simp [hz_a1])) (by simp only [defers_put, hd_a1]) ⟨rfl, ?_⟩
    rw [hq_b1]
    exact (hB.trans (hb2.mono (by omega))).trans (hb3.mono (by have := hb2.size; omega))
  rw [hrb] at hrd
  have hrb2 : s.rd.length ≤ 45 ∧ faultS s = 0 := by simpa [readyB] using hrb
  have n := serN hrb2.2
  have hfl := file_len n
  refine wpIn_seq (wpIn_seq (region_p 3 ?_))
  intro K hK
  refine ListK.load (i := 0) (p := ⟨b1, 0, none⟩) (v := serV s A c) rfl (by simp [u4]) (ld24 ⟨w1.cell 0, w1.cell 1, w1.cell 2⟩) ?_
  refine ListK.call (i := 1) (vs := #[serV s A c]) rfl (enters_of Try.func23 (by kernel_rfl) rfl) (by simp [hz_a1]) ((hrd).mono ?_)
  rintro _ W2 ⟨rfl, hb2⟩
  refine ⟨_, rfl, ?_⟩
  refine ListK.un (i := 2) (u := .bool true) (v := .bool false) rfl (by simp [hz_a1]) (not4 _ _) ?_
  refine ListK.done (hK _ _ ?_)
  clear hK K
  refine wpIn_cond (t := false) (by simp [hz_a1]) (wpIn_skip ?_)
  generalize hA : Act.put _ _ _ = a2
  have hz_a2 : a2.tmps.size = 155 := by rw [← hA]; simp only [size_put, hz_a1]
  have v1 : a2.eval (.tmp 1) = .slice Aw lw.length cw := by rw [← hA]; exact (by simp [u1])
  have v2 : a2.eval (.tmp 2) = .slice Ao lo.length co := by rw [← hA]; exact (by simp [u2])
  have v3 : a2.eval (.tmp 3) = .int .u8 (by_ : Int) := by rw [← hA]; exact (by simp [u3])
  have v4 : a2.eval (.tmp 4) = .pointer (some ⟨b1, 0, none⟩) := by rw [← hA]; exact (by simp [u4])
  have hd_a2 : a2.defers = [] := by rw [← hA]; simp only [defers_put, hd_a1]
  clear hA
  have w2 := w1.below hb2 w1.lt
  have hs2 := (hs.below hb2 (Nat.le_refl _)).more hb2.size
  have hw2 := (hw.below hb2).more hb2.size
  have ho2 := (ho.below hb2).more hb2.size
  have hB2 := hB.trans (hb2.mono (by omega))
  have hz2 := hB2.size
  rw [← hq_b1] at hB2
  have hbd := (Below.refl W2.heap.size W2).drew
  have hgr : ∀ w w', (fun w : World => (Whole w b1 24 #[.int .i64 s.width, .int .i64 s.step, .slice A s.rd.length c] ∧ IntsAt w W2.heap.size A s.rd) ∧ (WordsAt w W2.heap.size Aw lw ∧ WordsAt w W2.heap.size Ao lo) ∧ Below W2.heap.size W2 w) w → Below w.heap.size w w' → (fun w : World => (Whole w b1 24 #[.int .i64 s.width, .int .i64 s.step, .slice A s.rd.length c] ∧ IntsAt w W2.heap.size A s.rd) ∧ (WordsAt w W2.heap.size Aw lw ∧ WordsAt w W2.heap.size Ao lo) ∧ Below W2.heap.size W2 w) w' := fun w w' h hb => ⟨⟨h.1.1.below hb h.1.1.lt, h.1.2.below (hb.mono h.2.2.size) (Nat.le_refl _)⟩, ⟨h.2.1.1.below (hb.mono h.2.2.size), h.2.1.2.below (hb.mono h.2.2.size)⟩, h.2.2.trans (hb.mono h.2.2.size)⟩
  have hR0 : (fun w : World => (Whole w b1 24 #[.int .i64 s.width, .int .i64 s.step, .slice A s.rd.length c] ∧ IntsAt w W2.heap.size A s.rd) ∧ (WordsAt w W2.heap.size Aw lw ∧ WordsAt w W2.heap.size Ao lo) ∧ Below W2.heap.size W2 w) W2.drew := hgr W2 _ ⟨⟨w2, hs2⟩, ⟨hw2, ho2⟩, Below.refl _ _⟩ hbd
  refine wpIn_seq (region_K (KpR (fun w : World => (Whole w b1 24 #[.int .i64 s.width, .int .i64 s.step, .slice A s.rd.length c] ∧ IntsAt w W2.heap.size A s.rd) ∧ (WordsAt w W2.heap.size Aw lw ∧ WordsAt w W2.heap.size Ao lo) ∧ Below W2.heap.size W2 w) (fun _ => false)) (wideF_plain _) (by kernel_rfl) Try.mixed ?_)
  change AnyK _ _ _ _ 15 (Array.replicate 15 false) _ _
  have hR : (fun w : World => (Whole w b1 24 #[.int .i64 s.width, .int .i64 s.step, .slice A s.rd.length c] ∧ IntsAt w W2.heap.size A s.rd) ∧ (WordsAt w W2.heap.size Aw lw ∧ WordsAt w W2.heap.size Ao lo) ∧ Below W2.heap.size W2 w) W2.drew := hR0
  refine AnyK.load (i := 0) may_o (p := ⟨b1, 0, none⟩) (v := serV s A c) (by simp [v4]) (fun w hw => ld24 ⟨hw.1.1.cell 0, hw.1.1.cell 1, hw.1.1.cell 2⟩) hR ?_
  refine AnyK.move (i := 2) may_o (v := .slice Aw lw.length cw) (by simp [v1]) hR ?_
  refine AnyK.move (i := 3) may_o (v := .int .u8 (by_ : Int)) (by simp [v3]) hR ?_
  refine AnyK.load (i := 6) may_o (p := ⟨b1, 0, none⟩) (v := serV s A c) (by simp [v4]) (fun w hw => ld24 ⟨hw.1.1.cell 0, hw.1.1.cell 1, hw.1.1.cell 2⟩) hR ?_
  refine AnyK.move (i := 8) may_o (v := .slice Ao lo.length co) (by simp [v2]) hR ?_
  refine AnyK.move (i := 9) may_o (v := .int .u8 (by_ : Int)) (by simp [v3]) hR ?_
  refine AnyK.bin (i := 10) may_o (u := .int .u8 (by_ : Int)) (u' := .int .u8 2) (v := .int .u8 ((by_ / 2 : Nat) : Int)) (by simp [hz_a2]) (by simp) (fun w => half5 hby w) hR ?_
  refine AnyK.pick1 (i := 1) (by kernel_rfl) ?_
  refine StepK.call (i := 1) (f := 22) (vs := #[serV s A c]) rfl (enters_of Try.func22 (by kernel_rfl) rfl) rfl (by simp [hz_a2]) ((refRecords_any s A c _ hrb2.2 (hR.1.2.more hR.2.2.size)).mono ?_)
  rintro _ V11 ⟨v11, rfl, os11⟩
  obtain ⟨A11, c11, rfl, hst11⟩ := os11.strs
  replace hR : (fun w : World => (Whole w b1 24 #[.int .i64 s.width, .int .i64 s.step, .slice A s.rd.length c] ∧ IntsAt w W2.heap.size A s.rd) ∧ (WordsAt w W2.heap.size Aw lw ∧ WordsAt w W2.heap.size Ao lo) ∧ Below W2.heap.size W2 w) V11 := hgr _ _ hR os11.low
  refine ⟨_, rfl, fun _ _ => hR, ?_⟩
  refine AnyK.pick1 (i := 4) (by kernel_rfl) ?_
  refine StepK.call (i := 4) (f := 24) (vs := #[.slice A11 (fileL s).length c11, .slice Aw lw.length cw, .int .u8 (by_ : Int)]) rfl (enters_of Try.func24 (by kernel_rfl) rfl) rfl (by simp [hz_a2]) ((torn_any A11 Aw c11 cw by_ (fileL s) lw V11 (by omega) hfl.2 hby hst11 (hR.2.1.1.more hR.2.2.size)).mono ?_)
  rintro _ V14 ⟨v14, T, rfl, os14, tn14⟩
  obtain ⟨A14, c14, rfl, hst14⟩ := os14.strs
  have tT := tornF n tn14
  have hTl14 := tT.len
  have hTb14 := tT.bytes
  replace hR : (fun w : World => (Whole w b1 24 #[.int .i64 s.width, .int .i64 s.step, .slice A s.rd.length c] ∧ IntsAt w W2.heap.size A s.rd) ∧ (WordsAt w W2.heap.size Aw lw ∧ WordsAt w W2.heap.size Ao lo) ∧ Below W2.heap.size W2 w) V14 := hgr _ _ hR os14.low
  refine ⟨_, rfl, fun _ _ => hR, ?_⟩
  refine AnyK.pick1 (i := 5) (by kernel_rfl) ?_
  refine StepK.call (i := 5) (f := 21) (vs := #[.slice A14 T.length c14]) rfl (enters_of Try.func21 (by kernel_rfl) rfl) rfl (by simp [hz_a2]) ((refLines_any A14 c14 T (by omega) (by omega) V14 hst14).mono ?_)
  rintro _ V15 ⟨rfl, hWe⟩
  have hWf := hWe.symm
  subst hWf
  refine ⟨_, rfl, fun _ _ => hR, ?_⟩
  refine AnyK.pick1 (i := 7) (by kernel_rfl) ?_
  refine StepK.call (i := 7) (f := 22) (vs := #[serV s A c]) rfl (enters_of Try.func22 (by kernel_rfl) rfl) rfl (by simp [hz_a2]) ((refRecords_any s A c _ hrb2.2 (hR.1.2.more hR.2.2.size)).mono ?_)
  rintro _ V17 ⟨v17, rfl, os17⟩
  obtain ⟨A17, c17, rfl, hst17⟩ := os17.strs
  replace hR : (fun w : World => (Whole w b1 24 #[.int .i64 s.width, .int .i64 s.step, .slice A s.rd.length c] ∧ IntsAt w W2.heap.size A s.rd) ∧ (WordsAt w W2.heap.size Aw lw ∧ WordsAt w W2.heap.size Ao lo) ∧ Below W2.heap.size W2 w) V17 := hgr _ _ hR os17.low
  refine ⟨_, rfl, fun _ _ => hR, ?_⟩
  refine AnyK.pick1 (i := 11) (by kernel_rfl) ?_
  refine StepK.call (i := 11) (f := 24) (vs := #[.slice A17 (fileL s).length c17, .slice Ao lo.length co, .int .u8 ((by_ / 2 : Nat) : Int)]) rfl (enters_of Try.func24 (by kernel_rfl) rfl) rfl (by simp [hz_a2]) ((torn_any A17 Ao c17 co (by_ / 2) (fileL s) lo V17 (by omega) hfl.2 (by omega) hst17 (hR.2.1.2.more hR.2.2.size)).mono ?_)
  rintro _ V21 ⟨v21, U, rfl, os21, tn21⟩
  obtain ⟨A21, c21, rfl, hst21⟩ := os21.strs
  have tU := tornF n tn21
  have hTl21 := tU.len
  have hTb21 := tU.bytes
  replace hR : (fun w : World => (Whole w b1 24 #[.int .i64 s.width, .int .i64 s.step, .slice A s.rd.length c] ∧ IntsAt w W2.heap.size A s.rd) ∧ (WordsAt w W2.heap.size Aw lw ∧ WordsAt w W2.heap.size Ao lo) ∧ Below W2.heap.size W2 w) V21 := hgr _ _ hR os21.low
  refine ⟨_, rfl, fun _ _ => hR, ?_⟩
  refine AnyK.pick1 (i := 12) (by kernel_rfl) ?_
  refine StepK.call (i := 12) (f := 21) (vs := #[.slice A21 U.length c21]) rfl (enters_of Try.func21 (by kernel_rfl) rfl) rfl (by simp [hz_a2]) ((refLines_any A21 c21 U (by omega) (by omega) V21 hst21).mono ?_)
  rintro _ V22 ⟨rfl, hWe⟩
  have hWf := hWe.symm
  subst hWf
  refine ⟨_, rfl, fun _ _ => hR, ?_⟩
  refine AnyK.assign (i := 13) may_o (v := strV (linesL T)) (by simp [hz_a2]) hR ?_
  refine AnyK.assign (i := 14) may_o (v := strV (linesL U)) (by simp [hz_a2]) hR ?_
  refine AnyK.done (by kernel_rfl) ?_
  show tg_b.wpIn _ _ _ _ _ _
  exact tg_b_any hrb2.2 tT tU hR.1.1 (hR.1.2.more hR.2.2.size) (by simp only [size_put, hz_a2]) (by simp only [defers_put, hd_a2]) (by simp [v4]) (by simp [hz_a2]) (by simp [hz_a2]) (hB2.trans (hR.2.2.mono hB2.size))
end Go.Proofs.YtmdlmmfbcnkanaaR
