/- Texts for the laws of package recall, part 5: contracts of the program's functions, each for every input that its words name. -/
import Derived.Test.YtfcnombmphophaaM4

set_option linter.unusedVariables false

/-! Rc: RecallNames: the document's examples, and the errors. -/
namespace Go.Proofs.Ytfcnombmphophaa
open Go.RowKit Go.Shelf
set_option maxRecDepth 100000
noncomputable def opsN0 : Array Oper := (Try.f7.body.bind (regionOf 0)).getD #[]
noncomputable def opsN1 : Array Oper := (Try.f7.body.bind (regionOf 1)).getD #[]
noncomputable def opsN2 : Array Oper := (Try.f7.body.bind (regionOf 2)).getD #[]
noncomputable def opsN3 : Array Oper := (Try.f7.body.bind (regionOf 3)).getD #[]
noncomputable def opsN4 : Array Oper := (Try.f7.body.bind (regionOf 4)).getD #[]
noncomputable def opsN6 : Array Oper := (Try.f7.body.bind (regionOf 6)).getD #[]
noncomputable def opsN7 : Array Oper := (Try.f7.body.bind (regionOf 7)).getD #[]
noncomputable def opsN8 : Array Oper := (Try.f7.body.bind (regionOf 8)).getD #[]
noncomputable def opsN9 : Array Oper := (Try.f7.body.bind (regionOf 9)).getD #[]
noncomputable def opsN10 : Array Oper := (Try.f7.body.bind (regionOf 10)).getD #[]
noncomputable def opsN11 : Array Oper := (Try.f7.body.bind (regionOf 11)).getD #[]
noncomputable def opsN12 : Array Oper := (Try.f7.body.bind (regionOf 12)).getD #[]
noncomputable def opsN13 : Array Oper := (Try.f7.body.bind (regionOf 13)).getD #[]
noncomputable def opsN14 : Array Oper := (Try.f7.body.bind (regionOf 14)).getD #[]
noncomputable def opsN15 : Array Oper := (Try.f7.body.bind (regionOf 15)).getD #[]
noncomputable def opsN16 : Array Oper := (Try.f7.body.bind (regionOf 16)).getD #[]
noncomputable def opsN17 : Array Oper := (Try.f7.body.bind (regionOf 17)).getD #[]
noncomputable def opsN18 : Array Oper := (Try.f7.body.bind (regionOf 18)).getD #[]
noncomputable def code7 : Code := .seq (.region 0 opsN0 false) (.seq (.region 1 opsN1 false) (.seq (.region 2 opsN2 false) (.seq (.region 3 opsN3 false) (.seq (.region 4 opsN4 false) (.seq (.seq (.region 5 opsN5 true) (.cond (.tmp 101) (.seq (.region 6 opsN6 false) .ret) .skip)) (.seq (.region 7 opsN7 false) (.seq (.region 8 opsN8 false) (.seq (.region 9 opsN9 false) (.seq (.region 10 opsN10 false) (.seq (.region 11 opsN11 false) (.seq (.region 12 opsN12 false) (.seq (.region 13 opsN13 false) (.seq (.region 14 opsN14 false) (.seq (.region 15 opsN15 false) (.seq (.region 16 opsN16 false) (.seq (.region 17 opsN17 false) (.seq (.region 18 opsN18 false) .ret)))))))))))))))))
theorem body7 : Try.f7.body = some code7 := by kernel_rfl

theorem al31n {w : World} {n : Nat} (h : w.heap.size = n) : (Instr.alloc 31 true (.tuple #[])).run Try.prog w = .ok (.pointer (some ⟨n, 0, none⟩)) (w.alloc (.cells #[.int .i64 0, .int .i64 0, .slice none 0 0] 31)) := by
  rw [← h]
  exact al31 w
theorem three31 (w : World) : ∃ T, T = ((w.alloc (.cells #[.int .i64 0, .int .i64 0, .slice none 0 0] 31)).alloc (.cells #[.int .i64 0, .int .i64 0, .slice none 0 0] 31)).alloc (.cells #[.int .i64 0, .int .i64 0, .slice none 0 0] 31) ∧ Below w.heap.size w T ∧
    Whole T w.heap.size 31 #[.int .i64 0, .int .i64 0, .slice none 0 0] ∧ Whole T (w.heap.size + 1) 31 #[.int .i64 0, .int .i64 0, .slice none 0 0] ∧ Whole T (w.heap.size + 2) 31 #[.int .i64 0, .int .i64 0, .slice none 0 0] := by
  refine ⟨_, rfl, ((below_new w _).alloc (by simp) _).alloc (by simp; omega) _, ((Whole.new w 31 _).alloc _).alloc _, ?_, ?_⟩
  · have := (Whole.new (w.alloc (.cells #[.int .i64 0, .int .i64 0, .slice none 0 0] 31)) 31 #[.int .i64 0, .int .i64 0, .slice none 0 0]).alloc (.cells #[.int .i64 0, .int .i64 0, .slice none 0 0] 31)
    simpa using this
  · have := Whole.new ((w.alloc (.cells #[.int .i64 0, .int .i64 0, .slice none 0 0] 31)).alloc (.cells #[.int .i64 0, .int .i64 0, .slice none 0 0] 31)) 31 #[.int .i64 0, .int .i64 0, .slice none 0 0]
    simpa using this
theorem Else.up {X : Nat → Prop} {W W1 W2 : World} (h : Below W.heap.size W W1) (he : Else X W1 W2) (hX : ∀ k, k < W.heap.size → ¬ X k) : Below W.heap.size W W2 := h.trans (he.below h.size hX)

set_option maxHeartbeats 4000000 in
theorem names_any (W : World) : Calls Try.prog 7 #[] W fun e w' => e = .returned (.bool true) ∧ Below W.heap.size W w' := by
  refine (callsIn_wide (n := 5)).1 (callsIn_of_wp Try.func7 body7 trivial ?_ rfl)
  obtain ⟨a, ha⟩ : ∃ a : Act, a = { tmps := #[] ++ Array.replicate (Try.f7.ntmps - (#[] : Array Value).size) undef, defers := [] } := ⟨_, rfl⟩
  have hsz : a.tmps.size = 218 := by rw [ha]; simp [Try.ntmps7]
  have hdf : a.defers = [] := by rw [ha]
  rw [← ha]
  clear ha
  unfold code7
  refine wpIn_seq (region_l 1 (wideF_plain _) (by kernel_rfl) (by kernel_rfl) ?_)
  intro K hK
  refine ListK.assign (i := 0) (v := .bool false) rfl (by simp [ev_const]) ?_
  refine ListK.done (hK _ _ ?_)
  clear hK K
  generalize hA : Act.put _ _ _ = a0
  have hz_a0 : a0.tmps.size = 218 := by rw [← hA]; simp only [size_put, hsz]
  have hd_a0 : a0.defers = [] := by rw [← hA]; simp only [defers_put, hdf]
  clear hA
  have hB : Below W.heap.size W W := Below.refl _ _
  refine wpIn_seq (region_l 8 (wideF_plain _) (by kernel_rfl) (by kernel_rfl) ?_)
  intro K hK
  refine ListK.call (i := 0) (vs := #[.slice none 0 0]) rfl (enters_of Try.func35 (by kernel_rfl) rfl) (by simp [ev_const]) (((four_nil W)).mono ?_)
  rintro _ W1 ⟨A, c, rfl, hs, hb1⟩
  refine ⟨_, rfl, ?_⟩
  refine ListK.call (i := 1) (vs := #[.agg #[.int .i64 4, .int .i64 10, .slice A fourL.length c], .int .i64 2]) rfl (enters_of Try.func29 (by kernel_rfl) rfl) (by simp [ev_same, ev_const, hz_a0]) (((ex_when (x := 2) (y := 5) (e0 := 0) hs (by decide) (by decide +kernel) (by decide +kernel))).mono ?_)
  rintro _ W2 ⟨rfl, hb2⟩
  refine ⟨_, rfl, ?_⟩
  refine ListK.move (i := 2) (v := .tuple #[.agg #[.int .i64 2, .int .i64 5], .int .i64 0]) rfl (by simp [ev_same, size_put, hz_a0]) ?_
  refine ListK.extract (i := 3) (u := .tuple #[.agg #[.int .i64 2, .int .i64 5], .int .i64 0]) (v := .agg #[.int .i64 2, .int .i64 5]) rfl (by simp [ev_same, size_put, hz_a0]) (ex0 _ _ _) ?_
  refine ListK.extract (i := 4) (u := .tuple #[.agg #[.int .i64 2, .int .i64 5], .int .i64 0]) (v := .int .i64 0) rfl (by simp [ev_same, ev_ne, size_put, hz_a0]) (ex1 _ _ _) ?_
  refine ListK.alloc (i := 5) rfl (al46 W2) ?_
  refine ListK.store (i := 6) (u := .pointer (some ⟨W2.heap.size, 0, none⟩)) (u' := .agg #[.int .i64 2, .int .i64 5]) rfl (by simp [ev_same, size_put, hz_a0]) (by simp [ev_same, ev_ne, size_put, hz_a0]) sa46 ?_
  refine ListK.assign (i := 7) (v := .int .i64 0) rfl (by simp [ev_same, ev_ne, size_put, hz_a0]) ?_
  refine ListK.done (hK _ _ ?_)
  clear hK K
  have hB3 : Below W.heap.size W W2 := hb1.trans (hb2.mono hb1.size)
  obtain ⟨q1, hb3⟩ := put46 W2 2 5
  replace hB3 := hB3.trans (hb3.mono hB3.size)
  replace hB := hB.trans (hB3.mono hB.size)
  generalize W2.heap.size = p1 at *
  generalize ((W2.alloc (.cells #[.int .i64 0, .int .i64 0] 46)).setCell ⟨p1, 0, none⟩ (.int .i64 2)).setCell ⟨p1, 1, none⟩ (.int .i64 5) = W3 at *
  generalize hA : Act.put _ _ _ = a1
  have hz_a1 : a1.tmps.size = 218 := by rw [← hA]; simp only [size_put, hz_a0]
  have x1_1 : a1.eval (.tmp 1) = .pointer (some ⟨p1, 0, none⟩) := by rw [← hA]; exact (by simp [ev_same, ev_ne, size_put, hz_a0])
  have x1_2 : a1.eval (.tmp 2) = .int .i64 0 := by rw [← hA]; exact (by simp [ev_same, size_put, hz_a0])
  have hd_a1 : a1.defers = [] := by rw [← hA]; simp only [defers_put, hd_a0]
  clear hA
  clear hb1 hb2 hb3 hB3 hs A c W1 W2
  refine wpIn_seq (region_l 8 (wideF_plain _) (by kernel_rfl) (by kernel_rfl) ?_)
  intro K hK
  refine ListK.call (i := 0) (vs := #[.slice none 0 0]) rfl (enters_of Try.func35 (by kernel_rfl) rfl) (by simp [ev_const]) (((four_nil W3)).mono ?_)
  rintro _ W4 ⟨A, c, rfl, hs, hb1⟩
  refine ⟨_, rfl, ?_⟩
  refine ListK.call (i := 1) (vs := #[.agg #[.int .i64 4, .int .i64 10, .slice A fourL.length c], .int .i64 2, .int .i64 4]) rfl (enters_of Try.func32 (by kernel_rfl) rfl) (by simp [ev_same, ev_const, hz_a1]) (((ex_holds (x := 1) (y := 4) (e0 := 0) hs (by decide) (by decide +kernel) (by decide +kernel))).mono ?_)
  rintro _ W5 ⟨rfl, hb2⟩
  refine ⟨_, rfl, ?_⟩
  refine ListK.move (i := 2) (v := .tuple #[.agg #[.int .i64 1, .int .i64 4], .int .i64 0]) rfl (by simp [ev_same, size_put, hz_a1]) ?_
  refine ListK.extract (i := 3) (u := .tuple #[.agg #[.int .i64 1, .int .i64 4], .int .i64 0]) (v := .agg #[.int .i64 1, .int .i64 4]) rfl (by simp [ev_same, size_put, hz_a1]) (ex0 _ _ _) ?_
  refine ListK.extract (i := 4) (u := .tuple #[.agg #[.int .i64 1, .int .i64 4], .int .i64 0]) (v := .int .i64 0) rfl (by simp [ev_same, ev_ne, size_put, hz_a1]) (ex1 _ _ _) ?_
  refine ListK.alloc (i := 5) rfl (al46 W5) ?_
  refine ListK.store (i := 6) (u := .pointer (some ⟨W5.heap.size, 0, none⟩)) (u' := .agg #[.int .i64 1, .int .i64 4]) rfl (by simp [ev_same, size_put, hz_a1]) (by simp [ev_same, ev_ne, size_put, hz_a1]) sa46 ?_
  refine ListK.assign (i := 7) (v := .int .i64 0) rfl (by simp [ev_same, ev_ne, size_put, hz_a1]) ?_
  refine ListK.done (hK _ _ ?_)
  clear hK K
  have hB3 : Below W3.heap.size W3 W5 := hb1.trans (hb2.mono hb1.size)
  obtain ⟨q3, hb3⟩ := put46 W5 1 4
  replace hB3 := hB3.trans (hb3.mono hB3.size)
  replace q1 := q1.below hB3 q1.lt
  replace hB := hB.trans (hB3.mono hB.size)
  generalize W5.heap.size = p3 at *
  generalize ((W5.alloc (.cells #[.int .i64 0, .int .i64 0] 46)).setCell ⟨p3, 0, none⟩ (.int .i64 1)).setCell ⟨p3, 1, none⟩ (.int .i64 4) = W6 at *
  generalize hA : Act.put _ _ _ = a2
  have hz_a2 : a2.tmps.size = 218 := by rw [← hA]; simp only [size_put, hz_a1]
  have x2_1 : a2.eval (.tmp 1) = .pointer (some ⟨p1, 0, none⟩) := by rw [← hA]; exact (by simp [ev_ne, x1_1])
  have x2_2 : a2.eval (.tmp 2) = .int .i64 0 := by rw [← hA]; exact (by simp [ev_ne, x1_2])
  have x2_3 : a2.eval (.tmp 3) = .pointer (some ⟨p3, 0, none⟩) := by rw [← hA]; exact (by simp [ev_same, ev_ne, size_put, hz_a1])
  have x2_4 : a2.eval (.tmp 4) = .int .i64 0 := by rw [← hA]; exact (by simp [ev_same, size_put, hz_a1])
  have hd_a2 : a2.defers = [] := by rw [← hA]; simp only [defers_put, hd_a1]
  clear hA
  clear hb1 hb2 hb3 hB3 hs A c W3 W4 W5
  refine wpIn_seq (region_l 8 (wideF_plain _) (by kernel_rfl) (by kernel_rfl) ?_)
  intro K hK
  refine ListK.call (i := 0) (vs := #[.slice none 0 0]) rfl (enters_of Try.func35 (by kernel_rfl) rfl) (by simp [ev_const]) (((four_nil W6)).mono ?_)
  rintro _ W7 ⟨A, c, rfl, hs, hb1⟩
  refine ⟨_, rfl, ?_⟩
  refine ListK.call (i := 1) (vs := #[.agg #[.int .i64 4, .int .i64 10, .slice A fourL.length c], .int .i64 0, .int .i64 2]) rfl (enters_of Try.func32 (by kernel_rfl) rfl) (by simp [ev_same, ev_const, hz_a2]) (((ex_holds (x := 0) (y := 4) (e0 := 0) hs (by decide) (by decide +kernel) (by decide +kernel))).mono ?_)
  rintro _ W8 ⟨rfl, hb2⟩
  refine ⟨_, rfl, ?_⟩
  refine ListK.move (i := 2) (v := .tuple #[.agg #[.int .i64 0, .int .i64 4], .int .i64 0]) rfl (by simp [ev_same, size_put, hz_a2]) ?_
  refine ListK.extract (i := 3) (u := .tuple #[.agg #[.int .i64 0, .int .i64 4], .int .i64 0]) (v := .agg #[.int .i64 0, .int .i64 4]) rfl (by simp [ev_same, size_put, hz_a2]) (ex0 _ _ _) ?_
  refine ListK.extract (i := 4) (u := .tuple #[.agg #[.int .i64 0, .int .i64 4], .int .i64 0]) (v := .int .i64 0) rfl (by simp [ev_same, ev_ne, size_put, hz_a2]) (ex1 _ _ _) ?_
  refine ListK.alloc (i := 5) rfl (al46 W8) ?_
  refine ListK.store (i := 6) (u := .pointer (some ⟨W8.heap.size, 0, none⟩)) (u' := .agg #[.int .i64 0, .int .i64 4]) rfl (by simp [ev_same, size_put, hz_a2]) (by simp [ev_same, ev_ne, size_put, hz_a2]) sa46 ?_
  refine ListK.assign (i := 7) (v := .int .i64 0) rfl (by simp [ev_same, ev_ne, size_put, hz_a2]) ?_
  refine ListK.done (hK _ _ ?_)
  clear hK K
  have hB3 : Below W6.heap.size W6 W8 := hb1.trans (hb2.mono hb1.size)
  obtain ⟨q5, hb3⟩ := put46 W8 0 4
  replace hB3 := hB3.trans (hb3.mono hB3.size)
  replace q1 := q1.below hB3 q1.lt
  replace q3 := q3.below hB3 q3.lt
  replace hB := hB.trans (hB3.mono hB.size)
  generalize W8.heap.size = p5 at *
  generalize ((W8.alloc (.cells #[.int .i64 0, .int .i64 0] 46)).setCell ⟨p5, 0, none⟩ (.int .i64 0)).setCell ⟨p5, 1, none⟩ (.int .i64 4) = W9 at *
  generalize hA : Act.put _ _ _ = a3
  have hz_a3 : a3.tmps.size = 218 := by rw [← hA]; simp only [size_put, hz_a2]
  have x3_1 : a3.eval (.tmp 1) = .pointer (some ⟨p1, 0, none⟩) := by rw [← hA]; exact (by simp [ev_ne, x2_1])
  have x3_2 : a3.eval (.tmp 2) = .int .i64 0 := by rw [← hA]; exact (by simp [ev_ne, x2_2])
  have x3_3 : a3.eval (.tmp 3) = .pointer (some ⟨p3, 0, none⟩) := by rw [← hA]; exact (by simp [ev_ne, x2_3])
  have x3_4 : a3.eval (.tmp 4) = .int .i64 0 := by rw [← hA]; exact (by simp [ev_ne, x2_4])
  have x3_5 : a3.eval (.tmp 5) = .pointer (some ⟨p5, 0, none⟩) := by rw [← hA]; exact (by simp [ev_same, ev_ne, size_put, hz_a2])
  have x3_6 : a3.eval (.tmp 6) = .int .i64 0 := by rw [← hA]; exact (by simp [ev_same, size_put, hz_a2])
  have hd_a3 : a3.defers = [] := by rw [← hA]; simp only [defers_put, hd_a2]
  clear hA
  clear hb1 hb2 hb3 hB3 hs A c W6 W7 W8
  refine wpIn_seq (region_l 7 (wideF_plain _) (by kernel_rfl) (by kernel_rfl) ?_)
  intro K hK
  refine ListK.call (i := 0) (vs := #[.slice none 0 0]) rfl (enters_of Try.func35 (by kernel_rfl) rfl) (by simp [ev_const]) (((four_nil W9)).mono ?_)
  rintro _ W10 ⟨A, c, rfl, hs, hb1⟩
  refine ⟨_, rfl, ?_⟩
  refine ListK.call (i := 1) (vs := #[.agg #[.int .i64 4, .int .i64 10, .slice A fourL.length c]]) rfl (enters_of Try.func24 (by kernel_rfl) rfl) (by simp [ev_same, hz_a3]) (((ex_blame (xs := []) (e0 := 0) hs (by decide) (by decide +kernel) (by decide +kernel))).mono ?_)
  rintro _ W11 ⟨vn, rfl, hvn, hb2⟩
  obtain ⟨An, cn, rfl⟩ := hvn.nil_form
  refine ⟨_, rfl, ?_⟩
  refine ListK.move (i := 2) (v := .tuple #[.slice An 0 cn, .int .i64 0]) rfl (by simp [ev_same, size_put, hz_a3]) ?_
  refine ListK.extract (i := 3) (u := .tuple #[.slice An 0 cn, .int .i64 0]) (v := .slice An 0 cn) rfl (by simp [ev_same, size_put, hz_a3]) (ex0 _ _ _) ?_
  refine ListK.extract (i := 4) (u := .tuple #[.slice An 0 cn, .int .i64 0]) (v := .int .i64 0) rfl (by simp [ev_same, ev_ne, size_put, hz_a3]) (ex1 _ _ _) ?_
  refine ListK.assign (i := 5) (v := .slice An 0 cn) rfl (by simp [ev_same, ev_ne, size_put, hz_a3]) ?_
  refine ListK.assign (i := 6) (v := .int .i64 0) rfl (by simp [ev_same, ev_ne, size_put, hz_a3]) ?_
  refine ListK.done (hK _ _ ?_)
  clear hK K
  have hB3 : Below W9.heap.size W9 W11 := hb1.trans (hb2.mono hb1.size)
  replace q1 := q1.below hB3 q1.lt
  replace q3 := q3.below hB3 q3.lt
  replace q5 := q5.below hB3 q5.lt
  replace hB := hB.trans (hB3.mono hB.size)
  generalize hA : Act.put _ _ _ = a4
  have hz_a4 : a4.tmps.size = 218 := by rw [← hA]; simp only [size_put, hz_a3]
  have x4_1 : a4.eval (.tmp 1) = .pointer (some ⟨p1, 0, none⟩) := by rw [← hA]; exact (by simp [ev_ne, x3_1])
  have x4_2 : a4.eval (.tmp 2) = .int .i64 0 := by rw [← hA]; exact (by simp [ev_ne, x3_2])
  have x4_3 : a4.eval (.tmp 3) = .pointer (some ⟨p3, 0, none⟩) := by rw [← hA]; exact (by simp [ev_ne, x3_3])
  have x4_4 : a4.eval (.tmp 4) = .int .i64 0 := by rw [← hA]; exact (by simp [ev_ne, x3_4])
  have x4_5 : a4.eval (.tmp 5) = .pointer (some ⟨p5, 0, none⟩) := by rw [← hA]; exact (by simp [ev_ne, x3_5])
  have x4_6 : a4.eval (.tmp 6) = .int .i64 0 := by rw [← hA]; exact (by simp [ev_ne, x3_6])
  have x4_7 : a4.eval (.tmp 7) = .slice An 0 cn := by rw [← hA]; exact (by simp [ev_same, ev_ne, size_put, hz_a3])
  have x4_8 : a4.eval (.tmp 8) = .int .i64 0 := by rw [← hA]; exact (by simp [ev_same, size_put, hz_a3])
  have hd_a4 : a4.defers = [] := by rw [← hA]; simp only [defers_put, hd_a3]
  clear hA
  clear hb1 hb2 hB3 hs A c W9 W10
  refine wpIn_seq (wpIn_seq (regionN5 (p1 := p1) (p3 := p3) (p5 := p5) (An := An) (cn := cn) (wideF_plain _) hz_a4 x4_1 x4_2 x4_3 x4_4 x4_5 x4_6 x4_7 x4_8 (q1.cell 0) (q1.cell 1) (q3.cell 0) (q3.cell 1) (q5.cell 0) (q5.cell 1) ?_))
  intro a5 W12 hz5 hd5 hb5 ho5 hv5
  have y101 : a5.eval (.tmp 101) = .bool false := hv5 58 101 rfl
  refine wpIn_cond (t := false) y101 (wpIn_skip ?_)
  replace hB := hB.trans (hb5.mono hB.size)
  have hd5' : a5.defers = [] := hd5.trans hd_a4
  clear hv5 ho5 hb5 hvn q1 q3 q5
  show (Code.seq _ _).wpIn _ _ _ _ _ _
  refine wpIn_seq (region_l 5 (wideF_plain _) (by kernel_rfl) (by kernel_rfl) ?_)
  intro K hK
  refine ListK.call (i := 0) (vs := #[.int .i64 1, .int .i64 0, .int .i64 3, .int .i64 1, .int .i64 1]) rfl (enters_of Try.func37 (by kernel_rfl) rfl) (by simp [ev_const]) (((mksale_any _ _ _ _ _ W12)).mono ?_)
  rintro _ W13 ⟨rfl, hb0⟩
  refine ⟨_, rfl, ?_⟩
  refine ListK.bsl (i := 1) (ps := #[(0, saleV ⟨1, 0, 3, 1, 1⟩)]) (v := .slice (some ⟨W13.heap.size, 0, none⟩) 1 1) rfl (by simp [ev_same, hz5]) (bs29_1v _ W13) ?_
  refine ListK.call (i := 2) (vs := #[.slice (some ⟨W13.heap.size, 0, none⟩) 1 1]) rfl (enters_of Try.func35 (by kernel_rfl) rfl) (by simp [ev_same, size_put, hz5]) (((own_any W13.heap.size _ _ (Whole.new W13 61 _) fiveL rfl)).mono ?_)
  rintro _ W14 ⟨A, c, rfl, hs, hb1⟩
  refine ⟨_, rfl, ?_⟩
  refine ListK.alloc (i := 3) rfl (al31 W14) ?_
  refine ListK.store (i := 4) (u := .pointer (some ⟨W14.heap.size, 0, none⟩)) (u' := .agg #[.int .i64 4, .int .i64 10, .slice A fiveL.length c]) rfl (by simp [ev_same, size_put, hz5]) (by simp [ev_same, ev_ne, size_put, hz5]) sa31 ?_
  refine ListK.done (hK _ _ ?_)
  clear hK K
  obtain ⟨q9, e9⟩ := put31 (Whole.new W14 31 #[.int .i64 0, .int .i64 0, .slice none 0 0]) 4 10 A fiveL.length c
  have hb9 : Below W14.heap.size W14 _ := (below_new W14 (.cells #[.int .i64 0, .int .i64 0, .slice none 0 0] 31)).trans (e9.below (by simp) (fun k hk e => by have : k = W14.heap.size := e; omega))
  have hs9 := hs.up hb9
  have hB3 : Below W12.heap.size W12 W14 := (hb0.alloc hb0.size _).trans (hb1.mono (by have := hb0.size; simp; omega))
  replace hB3 := hB3.trans (hb9.mono hB3.size)
  replace hB := hB.trans (hB3.mono hB.size)
  generalize W14.heap.size = p9 at *
  generalize (((W14.alloc (.cells #[.int .i64 0, .int .i64 0, .slice none 0 0] 31)).setCell ⟨p9, 0, none⟩ (.int .i64 4)).setCell ⟨p9, 1, none⟩ (.int .i64 10)).setCell ⟨p9, 2, none⟩ (.slice A fiveL.length c) = W15 at *
  generalize hA : Act.put _ _ _ = a6
  have hz_a6 : a6.tmps.size = 218 := by rw [← hA]; simp only [size_put, hz5]
  have x6_9 : a6.eval (.tmp 9) = .pointer (some ⟨p9, 0, none⟩) := by rw [← hA]; exact (by simp [ev_same, size_put, hz5])
  have hd_a6 : a6.defers = [] := by rw [← hA]; simp only [defers_put, hd5']
  clear hA
  refine wpIn_seq (region_l 7 (wideF_plain _) (by kernel_rfl) (by kernel_rfl) ?_)
  intro K hK
  refine ListK.load (i := 0) (p := ⟨p9, 0, none⟩) (v := .agg #[.int .i64 4, .int .i64 10, .slice A fiveL.length c]) rfl (by simp [x6_9]) (ld31' ⟨q9.cell 0, q9.cell 1, q9.cell 2⟩) ?_
  refine ListK.call (i := 1) (vs := #[.agg #[.int .i64 4, .int .i64 10, .slice A fiveL.length c]]) rfl (enters_of Try.func23 (by kernel_rfl) rfl) (by simp [ev_same, hz_a6]) (((ex_order (e0 := 9) hs9 (by decide) (by decide +kernel))).mono ?_)
  rintro _ W16 ⟨vo, vd, xs, ds, rfl, -, -, -, hb2⟩
  refine ⟨_, rfl, ?_⟩
  refine ListK.move (i := 2) (v := .tuple #[vo, vd, .int .i64 9]) rfl (by simp [ev_same, size_put, hz_a6]) ?_
  refine ListK.extract (i := 3) (u := .tuple #[vo, vd, .int .i64 9]) (v := vo) rfl (by simp [ev_same, size_put, hz_a6]) (ex3_0 _ _ _ _) ?_
  refine ListK.extract (i := 4) (u := .tuple #[vo, vd, .int .i64 9]) (v := vd) rfl (by simp [ev_same, ev_ne, size_put, hz_a6]) (ex3_1 _ _ _ _) ?_
  refine ListK.extract (i := 5) (u := .tuple #[vo, vd, .int .i64 9]) (v := .int .i64 9) rfl (by simp [ev_same, ev_ne, size_put, hz_a6]) (ex3_2 _ _ _ _) ?_
  refine ListK.assign (i := 6) (v := .int .i64 9) rfl (by simp [ev_same, size_put, hz_a6]) ?_
  refine ListK.done (hK _ _ ?_)
  clear hK K
  generalize hA : Act.put _ _ _ = a7
  have hz_a7 : a7.tmps.size = 218 := by rw [← hA]; simp only [size_put, hz_a6]
  have x7_2 : a7.eval (.tmp 2) = .int .i64 9 := by rw [← hA]; exact (by simp [ev_same, size_put, hz_a6])
  have x7_9 : a7.eval (.tmp 9) = .pointer (some ⟨p9, 0, none⟩) := by rw [← hA]; exact (by simp [ev_ne, x6_9])
  have hd_a7 : a7.defers = [] := by rw [← hA]; simp only [defers_put, hd_a6]
  clear hA
  clear hB3 hb0 hb1 hb9 e9 hs W12 W13 W14
  replace hB := hB.trans (hb2.mono hB.size)
  replace q9 := q9.below hb2 q9.lt
  replace hs9 := hs9.up hb2
  clear hb2 W15
  refine wpIn_seq (region_l 6 (wideF_plain _) (by kernel_rfl) (by kernel_rfl) ?_)
  intro K hK
  refine ListK.load (i := 0) (p := ⟨p9, 0, none⟩) (v := .agg #[.int .i64 4, .int .i64 10, .slice A fiveL.length c]) rfl (by simp [x7_9]) (ld31' ⟨q9.cell 0, q9.cell 1, q9.cell 2⟩) ?_
  refine ListK.call (i := 1) (vs := #[.agg #[.int .i64 4, .int .i64 10, .slice A fiveL.length c], .int .i64 5]) rfl (enters_of Try.func29 (by kernel_rfl) rfl) (by simp [ev_same, ev_const, hz_a7]) (((ex_when (x := 0) (y := 0) (e0 := 2) hs9 (by decide) (by decide +kernel) (by decide +kernel))).mono ?_)
  rintro _ W17 ⟨rfl, hb2⟩
  refine ⟨_, rfl, ?_⟩
  refine ListK.move (i := 2) (v := .tuple #[.agg #[.int .i64 0, .int .i64 0], .int .i64 2]) rfl (by simp [ev_same, size_put, hz_a7]) ?_
  refine ListK.extract (i := 3) (u := .tuple #[.agg #[.int .i64 0, .int .i64 0], .int .i64 2]) (v := .agg #[.int .i64 0, .int .i64 0]) rfl (by simp [ev_same, size_put, hz_a7]) (ex0 _ _ _) ?_
  refine ListK.extract (i := 4) (u := .tuple #[.agg #[.int .i64 0, .int .i64 0], .int .i64 2]) (v := .int .i64 2) rfl (by simp [ev_same, ev_ne, size_put, hz_a7]) (ex1 _ _ _) ?_
  refine ListK.assign (i := 5) (v := .int .i64 2) rfl (by simp [ev_same, size_put, hz_a7]) ?_
  refine ListK.done (hK _ _ ?_)
  clear hK K
  generalize hA : Act.put _ _ _ = a8
  have hz_a8 : a8.tmps.size = 218 := by rw [← hA]; simp only [size_put, hz_a7]
  have x8_2 : a8.eval (.tmp 2) = .int .i64 9 := by rw [← hA]; exact (by simp [ev_ne, x7_2])
  have x8_4 : a8.eval (.tmp 4) = .int .i64 2 := by rw [← hA]; exact (by simp [ev_same, size_put, hz_a7])
  have x8_9 : a8.eval (.tmp 9) = .pointer (some ⟨p9, 0, none⟩) := by rw [← hA]; exact (by simp [ev_ne, x7_9])
  have hd_a8 : a8.defers = [] := by rw [← hA]; simp only [defers_put, hd_a7]
  clear hA
  replace hB := hB.trans (hb2.mono hB.size)
  replace q9 := q9.below hb2 q9.lt
  replace hs9 := hs9.up hb2
  clear hb2 W16
  refine wpIn_seq (region_l 6 (wideF_plain _) (by kernel_rfl) (by kernel_rfl) ?_)
  intro K hK
  refine ListK.load (i := 0) (p := ⟨p9, 0, none⟩) (v := .agg #[.int .i64 4, .int .i64 10, .slice A fiveL.length c]) rfl (by simp [x8_9]) (ld31' ⟨q9.cell 0, q9.cell 1, q9.cell 2⟩) ?_
  refine ListK.call (i := 1) (vs := #[.agg #[.int .i64 4, .int .i64 10, .slice A fiveL.length c], .int .i64 0]) rfl (enters_of Try.func29 (by kernel_rfl) rfl) (by simp [ev_same, ev_const, hz_a8]) (((ex_when (x := 0) (y := 0) (e0 := 9) hs9 (by decide) (by decide +kernel) (by decide +kernel))).mono ?_)
  rintro _ W18 ⟨rfl, hb2⟩
  refine ⟨_, rfl, ?_⟩
  refine ListK.move (i := 2) (v := .tuple #[.agg #[.int .i64 0, .int .i64 0], .int .i64 9]) rfl (by simp [ev_same, size_put, hz_a8]) ?_
  refine ListK.extract (i := 3) (u := .tuple #[.agg #[.int .i64 0, .int .i64 0], .int .i64 9]) (v := .agg #[.int .i64 0, .int .i64 0]) rfl (by simp [ev_same, size_put, hz_a8]) (ex0 _ _ _) ?_
  refine ListK.extract (i := 4) (u := .tuple #[.agg #[.int .i64 0, .int .i64 0], .int .i64 9]) (v := .int .i64 9) rfl (by simp [ev_same, ev_ne, size_put, hz_a8]) (ex1 _ _ _) ?_
  refine ListK.assign (i := 5) (v := .int .i64 9) rfl (by simp [ev_same, size_put, hz_a8]) ?_
  refine ListK.done (hK _ _ ?_)
  clear hK K
  generalize hA : Act.put _ _ _ = a9
  have hz_a9 : a9.tmps.size = 218 := by rw [← hA]; simp only [size_put, hz_a8]
  have x9_2 : a9.eval (.tmp 2) = .int .i64 9 := by rw [← hA]; exact (by simp [ev_ne, x8_2])
  have x9_4 : a9.eval (.tmp 4) = .int .i64 2 := by rw [← hA]; exact (by simp [ev_ne, x8_4])
  have x9_6 : a9.eval (.tmp 6) = .int .i64 9 := by rw [← hA]; exact (by simp [ev_same, size_put, hz_a8])
  have hd_a9 : a9.defers = [] := by rw [← hA]; simp only [defers_put, hd_a8]
  clear hA
  replace hB := hB.trans (hb2.mono hB.size)
  clear hb2 q9 hs9 W17
  refine wpIn_seq (region_l 6 (wideF_plain _) (by kernel_rfl) (by kernel_rfl) ?_)
  intro K hK
  refine ListK.call (i := 0) (vs := #[.slice none 0 0]) rfl (enters_of Try.func35 (by kernel_rfl) rfl) (by simp [ev_const]) (((four_nil W18)).mono ?_)
  rintro _ W19 ⟨A, c, rfl, hs, hb1⟩
  refine ⟨_, rfl, ?_⟩
  refine ListK.call (i := 1) (vs := #[.agg #[.int .i64 4, .int .i64 10, .slice A fourL.length c], .int .i64 4, .int .i64 0]) rfl (enters_of Try.func32 (by kernel_rfl) rfl) (by simp [ev_same, ev_const, hz_a9]) (((ex_holds (x := 0) (y := 0) (e0 := 2) hs (by decide) (by decide +kernel) (by decide +kernel))).mono ?_)
  rintro _ W20 ⟨rfl, hb2⟩
  refine ⟨_, rfl, ?_⟩
  refine ListK.move (i := 2) (v := .tuple #[.agg #[.int .i64 0, .int .i64 0], .int .i64 2]) rfl (by simp [ev_same, size_put, hz_a9]) ?_
  refine ListK.extract (i := 3) (u := .tuple #[.agg #[.int .i64 0, .int .i64 0], .int .i64 2]) (v := .agg #[.int .i64 0, .int .i64 0]) rfl (by simp [ev_same, size_put, hz_a9]) (ex0 _ _ _) ?_
  refine ListK.extract (i := 4) (u := .tuple #[.agg #[.int .i64 0, .int .i64 0], .int .i64 2]) (v := .int .i64 2) rfl (by simp [ev_same, ev_ne, size_put, hz_a9]) (ex1 _ _ _) ?_
  refine ListK.assign (i := 5) (v := .int .i64 2) rfl (by simp [ev_same, size_put, hz_a9]) ?_
  refine ListK.done (hK _ _ ?_)
  clear hK K
  have hB3 : Below W18.heap.size W18 W20 := hb1.trans (hb2.mono hb1.size)
  replace hB := hB.trans (hB3.mono hB.size)
  generalize hA : Act.put _ _ _ = a10
  have hz_a10 : a10.tmps.size = 218 := by rw [← hA]; simp only [size_put, hz_a9]
  have x10_2 : a10.eval (.tmp 2) = .int .i64 9 := by rw [← hA]; exact (by simp [ev_ne, x9_2])
  have x10_4 : a10.eval (.tmp 4) = .int .i64 2 := by rw [← hA]; exact (by simp [ev_ne, x9_4])
  have x10_6 : a10.eval (.tmp 6) = .int .i64 9 := by rw [← hA]; exact (by simp [ev_ne, x9_6])
  have x10_8 : a10.eval (.tmp 8) = .int .i64 2 := by rw [← hA]; exact (by simp [ev_same, size_put, hz_a9])
  have hd_a10 : a10.defers = [] := by rw [← hA]; simp only [defers_put, hd_a9]
  clear hA
  clear hb1 hb2 hB3 hs W18 W19
  refine wpIn_seq (region_l 8 (wideF_plain _) (by kernel_rfl) (by kernel_rfl) ?_)
  intro K hK
  refine ListK.call (i := 0) (vs := #[.slice none 0 0]) rfl (enters_of Try.func35 (by kernel_rfl) rfl) (by simp [ev_const]) (((four_nil W20)).mono ?_)
  rintro _ W21 ⟨A, c, rfl, hs, hb1⟩
  refine ⟨_, rfl, ?_⟩
  refine ListK.call (i := 1) (vs := #[.agg #[.int .i64 4, .int .i64 10, .slice A fourL.length c], .int .i64 0, .int .i64 101]) rfl (enters_of Try.func32 (by kernel_rfl) rfl) (by simp [ev_same, ev_const, hz_a10]) (((ex_holds (x := 0) (y := 0) (e0 := 2) hs (by decide) (by decide +kernel) (by decide +kernel))).mono ?_)
  rintro _ W22 ⟨rfl, hb2⟩
  refine ⟨_, rfl, ?_⟩
  refine ListK.move (i := 2) (v := .tuple #[.agg #[.int .i64 0, .int .i64 0], .int .i64 2]) rfl (by simp [ev_same, size_put, hz_a10]) ?_
  refine ListK.extract (i := 3) (u := .tuple #[.agg #[.int .i64 0, .int .i64 0], .int .i64 2]) (v := .agg #[.int .i64 0, .int .i64 0]) rfl (by simp [ev_same, size_put, hz_a10]) (ex0 _ _ _) ?_
  refine ListK.extract (i := 4) (u := .tuple #[.agg #[.int .i64 0, .int .i64 0], .int .i64 2]) (v := .int .i64 2) rfl (by simp [ev_same, ev_ne, size_put, hz_a10]) (ex1 _ _ _) ?_
  refine ListK.alloc (i := 5) rfl (al46 W22) ?_
  refine ListK.store (i := 6) (u := .pointer (some ⟨W22.heap.size, 0, none⟩)) (u' := .agg #[.int .i64 0, .int .i64 0]) rfl (by simp [ev_same, size_put, hz_a10]) (by simp [ev_same, ev_ne, size_put, hz_a10]) sa46 ?_
  refine ListK.assign (i := 7) (v := .int .i64 2) rfl (by simp [ev_same, ev_ne, size_put, hz_a10]) ?_
  refine ListK.done (hK _ _ ?_)
  clear hK K
  have hB3 : Below W20.heap.size W20 W22 := hb1.trans (hb2.mono hb1.size)
  obtain ⟨q10, hb3⟩ := put46 W22 0 0
  replace hB3 := hB3.trans (hb3.mono hB3.size)
  replace hB := hB.trans (hB3.mono hB.size)
  generalize W22.heap.size = p10 at *
  generalize ((W22.alloc (.cells #[.int .i64 0, .int .i64 0] 46)).setCell ⟨p10, 0, none⟩ (.int .i64 0)).setCell ⟨p10, 1, none⟩ (.int .i64 0) = W23 at *
  generalize hA : Act.put _ _ _ = a11
  have hz_a11 : a11.tmps.size = 218 := by rw [← hA]; simp only [size_put, hz_a10]
  have x11_2 : a11.eval (.tmp 2) = .int .i64 9 := by rw [← hA]; exact (by simp [ev_ne, x10_2])
  have x11_4 : a11.eval (.tmp 4) = .int .i64 2 := by rw [← hA]; exact (by simp [ev_ne, x10_4])
  have x11_6 : a11.eval (.tmp 6) = .int .i64 9 := by rw [← hA]; exact (by simp [ev_ne, x10_6])
  have x11_8 : a11.eval (.tmp 8) = .int .i64 2 := by rw [← hA]; exact (by simp [ev_ne, x10_8])
  have x11_11 : a11.eval (.tmp 11) = .int .i64 2 := by rw [← hA]; exact (by simp [ev_same, size_put, hz_a10])
  have hd_a11 : a11.defers = [] := by rw [← hA]; simp only [defers_put, hd_a10]
  clear hA
  clear q10 hb1 hb2 hb3 hB3 hs W20 W21 W22
  refine wpIn_seq (region_l 9 (wideF_plain _) (by kernel_rfl) (by kernel_rfl) ?_)
  intro K hK
  refine ListK.call (i := 0) (vs := #[.slice none 0 0]) rfl (enters_of Try.func35 (by kernel_rfl) rfl) (by simp [ev_const]) (((four_nil W23)).mono ?_)
  rintro _ W24 ⟨A, c, rfl, hs, hb1⟩
  refine ⟨_, rfl, ?_⟩
  refine ListK.call (i := 1) (vs := #[.agg #[.int .i64 4, .int .i64 10, .slice A fourL.length c], .int .i64 (-1)]) rfl (enters_of Try.func33 (by kernel_rfl) rfl) (by simp [ev_same, ev_const, hz_a11]) (((ex_reach (e0 := 2) hs (by decide) (by decide +kernel))).mono ?_)
  rintro _ W25 ⟨vc, vs, rfl, hb2⟩
  refine ⟨_, rfl, ?_⟩
  refine ListK.move (i := 2) (v := .tuple #[vc, vs, .int .i64 2]) rfl (by simp [ev_same, size_put, hz_a11]) ?_
  refine ListK.extract (i := 3) (u := .tuple #[vc, vs, .int .i64 2]) (v := vc) rfl (by simp [ev_same, size_put, hz_a11]) (ex3_0 _ _ _ _) ?_
  refine ListK.extract (i := 4) (u := .tuple #[vc, vs, .int .i64 2]) (v := vs) rfl (by simp [ev_same, ev_ne, size_put, hz_a11]) (ex3_1 _ _ _ _) ?_
  refine ListK.extract (i := 5) (u := .tuple #[vc, vs, .int .i64 2]) (v := .int .i64 2) rfl (by simp [ev_same, ev_ne, size_put, hz_a11]) (ex3_2 _ _ _ _) ?_
  refine ListK.assign (i := 6) (v := vc) rfl (by simp [ev_same, ev_ne, size_put, hz_a11]) ?_
  refine ListK.assign (i := 7) (v := vs) rfl (by simp [ev_same, ev_ne, size_put, hz_a11]) ?_
  refine ListK.assign (i := 8) (v := .int .i64 2) rfl (by simp [ev_same, ev_ne, size_put, hz_a11]) ?_
  refine ListK.done (hK _ _ ?_)
  clear hK K
  have hB3 : Below W23.heap.size W23 W25 := hb1.trans (hb2.mono hb1.size)
  replace hB := hB.trans (hB3.mono hB.size)
  generalize hA : Act.put _ _ _ = a12
  have hz_a12 : a12.tmps.size = 218 := by rw [← hA]; simp only [size_put, hz_a11]
  have x12_2 : a12.eval (.tmp 2) = .int .i64 9 := by rw [← hA]; exact (by simp [ev_ne, x11_2])
  have x12_4 : a12.eval (.tmp 4) = .int .i64 2 := by rw [← hA]; exact (by simp [ev_ne, x11_4])
  have x12_6 : a12.eval (.tmp 6) = .int .i64 9 := by rw [← hA]; exact (by simp [ev_ne, x11_6])
  have x12_8 : a12.eval (.tmp 8) = .int .i64 2 := by rw [← hA]; exact (by simp [ev_ne, x11_8])
  have x12_11 : a12.eval (.tmp 11) = .int .i64 2 := by rw [← hA]; exact (by simp [ev_ne, x11_11])
  have x12_14 : a12.eval (.tmp 14) = .int .i64 2 := by rw [← hA]; exact (by simp [ev_same, size_put, hz_a11])
  have hd_a12 : a12.defers = [] := by rw [← hA]; simp only [defers_put, hd_a11]
  clear hA
  clear hb1 hb2 hB3 hs W23 W24
  have hs29 : SalesAt (W25.alloc (.cells (salesL (List.replicate 9 ⟨0, 0, 0, 0, 0⟩)).toArray 61)) (W25.alloc (.cells (salesL (List.replicate 9 ⟨0, 0, 0, 0, 0⟩)).toArray 61)).heap.size (some ⟨W25.heap.size, 0, none⟩) (List.replicate 9 ⟨0, 0, 0, 0, 0⟩) := by
    obtain ⟨A, c, e, hs⟩ := sales_of_owns (sales_owned W25 (List.replicate 9 ⟨0, 0, 0, 0, 0⟩) (by decide))
    cases e
    exact hs
  refine wpIn_seq (region_l 8 (wideF_plain _) (by kernel_rfl) (by kernel_rfl) ?_)
  intro K hK
  refine ListK.mkS (i := 0) (u := .int .i64 9) (u' := .int .i64 9) rfl rfl rfl (mk29_9 W25) ?_
  refine ListK.bld (i := 1) (ps := #[(0, .int .i64 1), (2, .slice (some ⟨W25.heap.size, 0, none⟩) 9 9)]) (v := .agg #[.int .i64 1, .int .i64 0, .slice (some ⟨W25.heap.size, 0, none⟩) 9 9]) rfl (by simp [ev_same, ev_const, hz_a12]) (bd31_1 _ _ _ _) ?_
  refine ListK.call (i := 2) (vs := #[.agg #[.int .i64 1, .int .i64 0, .slice (some ⟨W25.heap.size, 0, none⟩) 9 9]]) rfl (enters_of Try.func24 (by kernel_rfl) rfl) (by simp [ev_same, size_put, hz_a12]) (((ex_blame (xs := []) (e0 := 3) hs29 (by decide) (by decide +kernel) (by decide +kernel))).mono ?_)
  rintro _ W26 ⟨vn, rfl, -, hb2⟩
  refine ⟨_, rfl, ?_⟩
  refine ListK.move (i := 3) (v := .tuple #[vn, .int .i64 3]) rfl (by simp [ev_same, size_put, hz_a12]) ?_
  refine ListK.extract (i := 4) (u := .tuple #[vn, .int .i64 3]) (v := vn) rfl (by simp [ev_same, size_put, hz_a12]) (ex0 _ _ _) ?_
  refine ListK.extract (i := 5) (u := .tuple #[vn, .int .i64 3]) (v := .int .i64 3) rfl (by simp [ev_same, ev_ne, size_put, hz_a12]) (ex1 _ _ _) ?_
  refine ListK.assign (i := 6) (v := vn) rfl (by simp [ev_same, ev_ne, size_put, hz_a12]) ?_
  refine ListK.assign (i := 7) (v := .int .i64 3) rfl (by simp [ev_same, ev_ne, size_put, hz_a12]) ?_
  refine ListK.done (hK _ _ ?_)
  clear hK K
  have hB3 := (below_new W25 (.cells (salesL (List.replicate 9 ⟨0, 0, 0, 0, 0⟩)).toArray 61)).trans (hb2.mono (by simp))
  replace hB := hB.trans (hB3.mono hB.size)
  generalize hA : Act.put _ _ _ = a13
  have hz_a13 : a13.tmps.size = 218 := by rw [← hA]; simp only [size_put, hz_a12]
  have x13_2 : a13.eval (.tmp 2) = .int .i64 9 := by rw [← hA]; exact (by simp [ev_ne, x12_2])
  have x13_4 : a13.eval (.tmp 4) = .int .i64 2 := by rw [← hA]; exact (by simp [ev_ne, x12_4])
  have x13_6 : a13.eval (.tmp 6) = .int .i64 9 := by rw [← hA]; exact (by simp [ev_ne, x12_6])
  have x13_8 : a13.eval (.tmp 8) = .int .i64 2 := by rw [← hA]; exact (by simp [ev_ne, x12_8])
  have x13_11 : a13.eval (.tmp 11) = .int .i64 2 := by rw [← hA]; exact (by simp [ev_ne, x12_11])
  have x13_14 : a13.eval (.tmp 14) = .int .i64 2 := by rw [← hA]; exact (by simp [ev_ne, x12_14])
  have x13_16 : a13.eval (.tmp 16) = .int .i64 3 := by rw [← hA]; exact (by simp [ev_same, size_put, hz_a12])
  have hd_a13 : a13.defers = [] := by rw [← hA]; simp only [defers_put, hd_a12]
  clear hA
  clear hb2 hB3 hs29 W25
  refine wpIn_seq (region_l 13 (wideF_plain _) (by kernel_rfl) (by kernel_rfl) ?_)
  intro K hK
  refine ListK.call (i := 0) (vs := #[.int .i64 1, .int .i64 1, .int .i64 3, .int .i64 1, .int .i64 1]) rfl (enters_of Try.func37 (by kernel_rfl) rfl) (by simp [ev_const]) (((mksale_any _ _ _ _ _ W26)).mono ?_)
  rintro _ W27 ⟨rfl, hb27⟩
  refine ⟨_, rfl, ?_⟩
  refine ListK.bsl (i := 1) (ps := #[(0, saleV ⟨1, 1, 3, 1, 1⟩)]) (v := .slice (some ⟨W27.heap.size, 0, none⟩) 1 1) rfl (by simp [ev_same, hz_a13]) (bs29_1v _ W27) ?_
  refine ListK.call (i := 2) (vs := #[.slice (some ⟨W27.heap.size, 0, none⟩) 1 1]) rfl (enters_of Try.func35 (by kernel_rfl) rfl) (by simp [ev_same, size_put, hz_a13]) (((own_any W27.heap.size _ _ (Whole.new W27 61 _) ownL rfl)).mono ?_)
  rintro _ W28 ⟨A28, c28, rfl, hs28, hb28⟩
  refine ⟨_, rfl, ?_⟩
  refine ListK.call (i := 3) (vs := #[.int .i64 1, .int .i64 0, .int .i64 3, .int .i64 100, .int .i64 101]) rfl (enters_of Try.func37 (by kernel_rfl) rfl) (by simp [ev_const]) (((mksale_any _ _ _ _ _ W28)).mono ?_)
  rintro _ W29 ⟨rfl, hb29⟩
  refine ⟨_, rfl, ?_⟩
  refine ListK.bsl (i := 4) (ps := #[(0, saleV ⟨1, 0, 3, 100, 101⟩)]) (v := .slice (some ⟨W29.heap.size, 0, none⟩) 1 1) rfl (by simp [ev_same, size_put, hz_a13]) (bs29_1v _ W29) ?_
  refine ListK.call (i := 5) (vs := #[.slice (some ⟨W29.heap.size, 0, none⟩) 1 1]) rfl (enters_of Try.func35 (by kernel_rfl) rfl) (by simp [ev_same, size_put, hz_a13]) (((own_any W29.heap.size _ _ (Whole.new W29 61 _) lateL rfl)).mono ?_)
  rintro _ W30 ⟨A30, c30, rfl, hs30, hb30⟩
  refine ⟨_, rfl, ?_⟩
  refine ListK.call (i := 6) (vs := #[.slice none 0 0]) rfl (enters_of Try.func35 (by kernel_rfl) rfl) (by simp [ev_const]) (((four_nil W30)).mono ?_)
  rintro _ W31 ⟨A31, c31, rfl, hs31, hb31⟩
  have hB3 : Below W26.heap.size W26 W28 := (hb27.alloc hb27.size _).trans (hb28.mono (by have := hb27.size; simp; omega))
  have hB4 : Below W28.heap.size W28 W30 := (hb29.alloc hb29.size _).trans (hb30.mono (by have := hb29.size; simp; omega))
  obtain ⟨T, hT, hbT, r17, r18, r19⟩ := three31 W31
  generalize hn : W31.heap.size = n at *
  obtain ⟨s17, e17⟩ := put31 r17 4 10 A28 ownL.length c28
  have r18a := e17.whole (fun e => by have : n + 1 = n := e; omega) r18
  have r19a := e17.whole (fun e => by have : n + 2 = n := e; omega) r19
  obtain ⟨s18, e18⟩ := put31 r18a 4 10 A30 lateL.length c30
  have r19b := e18.whole (fun e => by have : n + 2 = n + 1 := e; omega) r19a
  have s17b := e18.whole (fun e => by have : n = n + 1 := e; omega) s17
  obtain ⟨s19, e19⟩ := put31 r19b 4 10 A31 fourL.length c31
  have s17c := e19.whole (fun e => by have : n = n + 2 := e; omega) s17b
  have s18c := e19.whole (fun e => by have : n + 1 = n + 2 := e; omega) s18
  refine ⟨_, rfl, ?_⟩
  refine ListK.alloc (i := 7) rfl (al31n hn) ?_
  refine ListK.alloc (i := 8) rfl (al31n (n := n + 1) (by rw [World.size_alloc, hn])) ?_
  refine ListK.alloc (i := 9) rfl (al31n (n := n + 2) (by rw [World.size_alloc, World.size_alloc, hn])) ?_
  refine ListK.store (i := 10) (u := .pointer (some ⟨n, 0, none⟩)) (u' := .agg #[.int .i64 4, .int .i64 10, .slice A28 ownL.length c28]) rfl (by simp [ev_same, ev_ne, size_put, hz_a13]) (by simp [ev_same, ev_ne, size_put, hz_a13]) (by rw [← hT]; exact st31 (r17.cell 0) (r17.cell 1) (r17.cell 2) (r17.frozen 0) (r17.frozen 1) (r17.frozen 2)) ?_
  refine ListK.store (i := 11) (u := .pointer (some ⟨(n + 1), 0, none⟩)) (u' := .agg #[.int .i64 4, .int .i64 10, .slice A30 lateL.length c30]) rfl (by simp [ev_same, ev_ne, size_put, hz_a13]) (by simp [ev_same, ev_ne, size_put, hz_a13]) (st31 (r18a.cell 0) (r18a.cell 1) (r18a.cell 2) (r18a.frozen 0) (r18a.frozen 1) (r18a.frozen 2)) ?_
  refine ListK.store (i := 12) (u := .pointer (some ⟨(n + 2), 0, none⟩)) (u' := .agg #[.int .i64 4, .int .i64 10, .slice A31 fourL.length c31]) rfl (by simp [ev_same, size_put, hz_a13]) (by simp [ev_same, ev_ne, size_put, hz_a13]) (st31 (r19b.cell 0) (r19b.cell 1) (r19b.cell 2) (r19b.frozen 0) (r19b.frozen 1) (r19b.frozen 2)) ?_
  refine ListK.done (hK _ _ ?_)
  clear hK K
  have hbX := Else.up (Else.up (Else.up (by rw [hn]; exact hbT) e17 (fun k hk e => by have : k = n := e; omega)) e18 (fun k hk e => by have : k = n + 1 := e; omega)) e19 (fun k hk e => by have : k = n + 2 := e; omega)
  have hbn := hbX
  rw [hn] at hbn
  have h17 : SalesAt W31 n A28 ownL := by rw [← hn]; exact (hs28.up hB4).up hb31
  have h18 : SalesAt W31 n A30 lateL := by rw [← hn]; exact hs30.up hb31
  have h19 : SalesAt W31 n A31 fourL := hs31
  replace h17 := h17.below hbn (Nat.le_refl _)
  replace h18 := h18.below hbn (Nat.le_refl _)
  replace h19 := h19.below hbn (Nat.le_refl _)
  have hnW := hbn.size
  rw [hn] at hnW
  have hWn : W.heap.size ≤ n := by rw [← hn]; exact Nat.le_trans (Nat.le_trans hB.size (Nat.le_trans hB3.size hB4.size)) hb31.size
  replace hB := hB.trans ((hB3.trans ((hB4.trans ((hb31.trans (hbX.mono hb31.size)).mono hB4.size)).mono hB3.size)).mono hB.size)
  generalize World.setCell _ _ (.slice A31 fourL.length c31) = W32 at *
  generalize hA : Act.put _ _ _ = a14
  have hz_a14 : a14.tmps.size = 218 := by rw [← hA]; simp only [size_put, hz_a13]
  have x14_2 : a14.eval (.tmp 2) = .int .i64 9 := by rw [← hA]; exact (by simp [ev_ne, x13_2])
  have x14_4 : a14.eval (.tmp 4) = .int .i64 2 := by rw [← hA]; exact (by simp [ev_ne, x13_4])
  have x14_6 : a14.eval (.tmp 6) = .int .i64 9 := by rw [← hA]; exact (by simp [ev_ne, x13_6])
  have x14_8 : a14.eval (.tmp 8) = .int .i64 2 := by rw [← hA]; exact (by simp [ev_ne, x13_8])
  have x14_11 : a14.eval (.tmp 11) = .int .i64 2 := by rw [← hA]; exact (by simp [ev_ne, x13_11])
  have x14_14 : a14.eval (.tmp 14) = .int .i64 2 := by rw [← hA]; exact (by simp [ev_ne, x13_14])
  have x14_16 : a14.eval (.tmp 16) = .int .i64 3 := by rw [← hA]; exact (by simp [ev_ne, x13_16])
  have x14_17 : a14.eval (.tmp 17) = .pointer (some ⟨n, 0, none⟩) := by rw [← hA]; exact (by simp [ev_same, ev_ne, size_put, hz_a13])
  have x14_18 : a14.eval (.tmp 18) = .pointer (some ⟨(n + 1), 0, none⟩) := by rw [← hA]; exact (by simp [ev_same, ev_ne, size_put, hz_a13])
  have x14_19 : a14.eval (.tmp 19) = .pointer (some ⟨(n + 2), 0, none⟩) := by rw [← hA]; exact (by simp [ev_same, size_put, hz_a13])
  have hd_a14 : a14.defers = [] := by rw [← hA]; simp only [defers_put, hd_a13]
  clear hA
  clear hb27 hb29 hbn hbT hB3 hB4 hb31 hbX e17 e18 e19 s17 s17b s18 r17 r18 r19 r18a r19a r19b hs28 hs30 hs31
  refine wpIn_seq (region_l 2 (wideF_plain _) (by kernel_rfl) (by kernel_rfl) ?_)
  intro K hK
  refine ListK.field (i := 0) (u := .pointer (some ⟨(n + 2), 0, none⟩)) (v := .pointer (some ⟨(n + 2), 1, none⟩)) rfl (by simp [x14_19]) (fa31_1 _) ?_
  refine ListK.store (i := 1) (u := .pointer (some ⟨(n + 2), 1, none⟩)) (u' := .int .i64 1001) rfl (by simp [ev_same, hz_a14]) (by simp [ev_const]) (st3 (s19.cell 1) (s19.frozen 1)) ?_
  refine ListK.done (hK _ _ ?_)
  clear hK K
  have s19' := s19.set 1 (.int .i64 1001)
  have e20 : Else (fun k => k = n + 2) W32 (W32.setCell ⟨n + 2, 1, none⟩ (.int .i64 1001)) := (Else.refl (fun k => k = n + 2) W32).setCell (p := ⟨n + 2, 1, none⟩) (.inl rfl) _
  have s17' := e20.whole (fun e => by have : n = n + 2 := e; omega) s17c
  have s18' := e20.whole (fun e => by have : n + 1 = n + 2 := e; omega) s18c
  have hb33 : Below n W32 (W32.setCell ⟨n + 2, 1, none⟩ (.int .i64 1001)) := e20.below hnW (fun k hk e => by have : k = n + 2 := e; omega)
  have hsz33 := hb33.size
  replace h17 := (h17.below hb33 (Nat.le_refl _)).more (Nat.le_trans hnW hsz33)
  replace h18 := (h18.below hb33 (Nat.le_refl _)).more (Nat.le_trans hnW hsz33)
  replace h19 := (h19.below hb33 (Nat.le_refl _)).more (Nat.le_trans hnW hsz33)
  replace hB := hB.trans (hb33.mono hWn)
  generalize W32.setCell ⟨n + 2, 1, none⟩ (.int .i64 1001) = W33 at *
  clear s17c s18c s19 e20 hb33 hsz33 hnW W32
  refine wpIn_seq (region_l 9 (wideF_plain _) (by kernel_rfl) (by kernel_rfl) ?_)
  intro K hK
  refine ListK.bld (i := 0) (ps := #[(0, .int .i64 1)]) (v := .agg #[.int .i64 1, .int .i64 0, .slice none 0 0]) rfl (by simp [ev_const]) (bd31_2 _) ?_
  refine ListK.call (i := 1) (vs := #[.agg #[.int .i64 1, .int .i64 0, .slice none 0 0]]) rfl (enters_of Try.func23 (by kernel_rfl) rfl) (by simp [ev_same, size_put, hz_a14]) (((ex_order (L := []) (e0 := 0) (sales_nil W33 _ none) (by decide) (by decide +kernel))).mono ?_)
  rintro _ W34 ⟨vo2, vd2, xs2, ds2, rfl, r1, r2, ho2, hb2⟩
  obtain ⟨rfl, rfl⟩ := ord_nil (by decide +kernel) ho2
  obtain ⟨A20, c20, rfl⟩ := r1.nil_form
  obtain ⟨A21, c21, rfl⟩ := r2.nil_form
  refine ⟨_, rfl, ?_⟩
  refine ListK.move (i := 2) (v := .tuple #[.slice A20 0 c20, .slice A21 0 c21, .int .i64 0]) rfl (by simp [ev_same, size_put, hz_a14]) ?_
  refine ListK.extract (i := 3) (u := .tuple #[.slice A20 0 c20, .slice A21 0 c21, .int .i64 0]) (v := .slice A20 0 c20) rfl (by simp [ev_same, size_put, hz_a14]) (ex3_0 _ _ _ _) ?_
  refine ListK.extract (i := 4) (u := .tuple #[.slice A20 0 c20, .slice A21 0 c21, .int .i64 0]) (v := .slice A21 0 c21) rfl (by simp [ev_same, ev_ne, size_put, hz_a14]) (ex3_1 _ _ _ _) ?_
  refine ListK.extract (i := 5) (u := .tuple #[.slice A20 0 c20, .slice A21 0 c21, .int .i64 0]) (v := .int .i64 0) rfl (by simp [ev_same, ev_ne, size_put, hz_a14]) (ex3_2 _ _ _ _) ?_
  refine ListK.assign (i := 6) (v := .slice A20 0 c20) rfl (by simp [ev_same, ev_ne, size_put, hz_a14]) ?_
  refine ListK.assign (i := 7) (v := .slice A21 0 c21) rfl (by simp [ev_same, ev_ne, size_put, hz_a14]) ?_
  refine ListK.assign (i := 8) (v := .int .i64 0) rfl (by simp [ev_same, ev_ne, size_put, hz_a14]) ?_
  refine ListK.done (hK _ _ ?_)
  clear hK K
  generalize hA : Act.put _ _ _ = a15
  have hz_a15 : a15.tmps.size = 218 := by rw [← hA]; simp only [size_put, hz_a14]
  have x15_2 : a15.eval (.tmp 2) = .int .i64 9 := by rw [← hA]; exact (by simp [ev_ne, x14_2])
  have x15_4 : a15.eval (.tmp 4) = .int .i64 2 := by rw [← hA]; exact (by simp [ev_ne, x14_4])
  have x15_6 : a15.eval (.tmp 6) = .int .i64 9 := by rw [← hA]; exact (by simp [ev_ne, x14_6])
  have x15_8 : a15.eval (.tmp 8) = .int .i64 2 := by rw [← hA]; exact (by simp [ev_ne, x14_8])
  have x15_11 : a15.eval (.tmp 11) = .int .i64 2 := by rw [← hA]; exact (by simp [ev_ne, x14_11])
  have x15_14 : a15.eval (.tmp 14) = .int .i64 2 := by rw [← hA]; exact (by simp [ev_ne, x14_14])
  have x15_16 : a15.eval (.tmp 16) = .int .i64 3 := by rw [← hA]; exact (by simp [ev_ne, x14_16])
  have x15_17 : a15.eval (.tmp 17) = .pointer (some ⟨n, 0, none⟩) := by rw [← hA]; exact (by simp [ev_ne, x14_17])
  have x15_18 : a15.eval (.tmp 18) = .pointer (some ⟨(n + 1), 0, none⟩) := by rw [← hA]; exact (by simp [ev_ne, x14_18])
  have x15_19 : a15.eval (.tmp 19) = .pointer (some ⟨(n + 2), 0, none⟩) := by rw [← hA]; exact (by simp [ev_ne, x14_19])
  have x15_20 : a15.eval (.tmp 20) = .slice A20 0 c20 := by rw [← hA]; exact (by simp [ev_same, ev_ne, size_put, hz_a14])
  have x15_21 : a15.eval (.tmp 21) = .slice A21 0 c21 := by rw [← hA]; exact (by simp [ev_same, ev_ne, size_put, hz_a14])
  have x15_22 : a15.eval (.tmp 22) = .int .i64 0 := by rw [← hA]; exact (by simp [ev_same, size_put, hz_a14])
  have hd_a15 : a15.defers = [] := by rw [← hA]; simp only [defers_put, hd_a14]
  clear hA
  replace hB := hB.trans (hb2.mono hB.size)
  replace h17 := h17.up hb2
  replace h18 := h18.up hb2
  replace h19 := h19.up hb2
  replace s17' := s17'.below hb2 s17'.lt
  replace s18' := s18'.below hb2 s18'.lt
  replace s19' := s19'.below hb2 s19'.lt
  clear hb2 ho2 r1 r2 W33
  refine wpIn_seq (region_l 62 (wideF_plain _) (by kernel_rfl) (by kernel_rfl) ?_)
  intro K hK
  refine ListK.move (i := 0) (v := .int .i64 9) rfl (by simp [x15_2]) ?_
  refine ListK.bin (i := 1) (u := .int .i64 9) (u' := .int .i64 9) (v := .bool true) rfl (by simp [ev_same, hz_a15]) (by simp [ev_const]) (eql27T rfl _) ?_
  refine ListK.move (i := 2) (v := .bool true) rfl (by simp [ev_same, size_put, hz_a15]) ?_
  refine ListK.move (i := 3) (v := .int .i64 2) rfl (by simp [ev_ne, x15_4]) ?_ (hw := wanted_g (e := 159) (b' := true) rfl (by simp [ev_same, size_put, hz_a15]) rfl)
  refine ListK.bin (i := 4) (u := .int .i64 2) (u' := .int .i64 2) (v := .bool true) rfl (by simp [ev_same, size_put, hz_a15]) (by simp [ev_const]) (eql27T rfl _) ?_ (hw := wanted_g (e := 159) (b' := true) rfl (by simp [ev_same, ev_ne, size_put, hz_a15]) rfl)
  refine ListK.pick (i := 5) (b := true) (v := .bool true) rfl (by simp [ev_same, ev_ne, size_put, hz_a15]) (by simp [ev_same, size_put, hz_a15]) ?_
  refine ListK.move (i := 6) (v := .bool true) rfl (by simp [ev_same, size_put, hz_a15]) ?_
  refine ListK.move (i := 7) (v := .int .i64 9) rfl (by simp [ev_ne, x15_6]) ?_ (hw := wanted_g (e := 163) (b' := true) rfl (by simp [ev_same, size_put, hz_a15]) rfl)
  refine ListK.bin (i := 8) (u := .int .i64 9) (u' := .int .i64 9) (v := .bool true) rfl (by simp [ev_same, size_put, hz_a15]) (by simp [ev_const]) (eql27T rfl _) ?_ (hw := wanted_g (e := 163) (b' := true) rfl (by simp [ev_same, ev_ne, size_put, hz_a15]) rfl)
  refine ListK.pick (i := 9) (b := true) (v := .bool true) rfl (by simp [ev_same, ev_ne, size_put, hz_a15]) (by simp [ev_same, size_put, hz_a15]) ?_
  refine ListK.move (i := 10) (v := .bool true) rfl (by simp [ev_same, size_put, hz_a15]) ?_
  refine ListK.move (i := 11) (v := .int .i64 2) rfl (by simp [ev_ne, x15_8]) ?_ (hw := wanted_g (e := 167) (b' := true) rfl (by simp [ev_same, size_put, hz_a15]) rfl)
  refine ListK.bin (i := 12) (u := .int .i64 2) (u' := .int .i64 2) (v := .bool true) rfl (by simp [ev_same, size_put, hz_a15]) (by simp [ev_const]) (eql27T rfl _) ?_ (hw := wanted_g (e := 167) (b' := true) rfl (by simp [ev_same, ev_ne, size_put, hz_a15]) rfl)
  refine ListK.pick (i := 13) (b := true) (v := .bool true) rfl (by simp [ev_same, ev_ne, size_put, hz_a15]) (by simp [ev_same, size_put, hz_a15]) ?_
  refine ListK.move (i := 14) (v := .bool true) rfl (by simp [ev_same, size_put, hz_a15]) ?_
  refine ListK.move (i := 15) (v := .int .i64 2) rfl (by simp [ev_ne, x15_11]) ?_ (hw := wanted_g (e := 171) (b' := true) rfl (by simp [ev_same, size_put, hz_a15]) rfl)
  refine ListK.bin (i := 16) (u := .int .i64 2) (u' := .int .i64 2) (v := .bool true) rfl (by simp [ev_same, size_put, hz_a15]) (by simp [ev_const]) (eql27T rfl _) ?_ (hw := wanted_g (e := 171) (b' := true) rfl (by simp [ev_same, ev_ne, size_put, hz_a15]) rfl)
  refine ListK.pick (i := 17) (b := true) (v := .bool true) rfl (by simp [ev_same, ev_ne, size_put, hz_a15]) (by simp [ev_same, size_put, hz_a15]) ?_
  refine ListK.move (i := 18) (v := .bool true) rfl (by simp [ev_same, size_put, hz_a15]) ?_
  refine ListK.move (i := 19) (v := .int .i64 2) rfl (by simp [ev_ne, x15_14]) ?_ (hw := wanted_g (e := 175) (b' := true) rfl (by simp [ev_same, size_put, hz_a15]) rfl)
  refine ListK.bin (i := 20) (u := .int .i64 2) (u' := .int .i64 2) (v := .bool true) rfl (by simp [ev_same, size_put, hz_a15]) (by simp [ev_const]) (eql27T rfl _) ?_ (hw := wanted_g (e := 175) (b' := true) rfl (by simp [ev_same, ev_ne, size_put, hz_a15]) rfl)
  refine ListK.pick (i := 21) (b := true) (v := .bool true) rfl (by simp [ev_same, ev_ne, size_put, hz_a15]) (by simp [ev_same, size_put, hz_a15]) ?_
  refine ListK.move (i := 22) (v := .bool true) rfl (by simp [ev_same, size_put, hz_a15]) ?_
  refine ListK.move (i := 23) (v := .int .i64 3) rfl (by simp [ev_ne, x15_16]) ?_ (hw := wanted_g (e := 179) (b' := true) rfl (by simp [ev_same, size_put, hz_a15]) rfl)
  refine ListK.bin (i := 24) (u := .int .i64 3) (u' := .int .i64 3) (v := .bool true) rfl (by simp [ev_same, size_put, hz_a15]) (by simp [ev_const]) (eql27T rfl _) ?_ (hw := wanted_g (e := 179) (b' := true) rfl (by simp [ev_same, ev_ne, size_put, hz_a15]) rfl)
  refine ListK.pick (i := 25) (b := true) (v := .bool true) rfl (by simp [ev_same, ev_ne, size_put, hz_a15]) (by simp [ev_same, size_put, hz_a15]) ?_
  refine ListK.move (i := 26) (v := .bool true) rfl (by simp [ev_same, size_put, hz_a15]) ?_
  refine ListK.load (i := 27) (p := ⟨n, 0, none⟩) (v := .agg #[.int .i64 4, .int .i64 10, .slice A28 ownL.length c28]) rfl (by simp [ev_ne, x15_17]) (ld31' ⟨s17'.cell 0, s17'.cell 1, s17'.cell 2⟩) ?_ (hw := wanted_g (e := 183) (b' := true) rfl (by simp [ev_same, size_put, hz_a15]) rfl)
  refine ListK.call (i := 28) (vs := #[.agg #[.int .i64 4, .int .i64 10, .slice A28 ownL.length c28]]) rfl (enters_of Try.func17 (by kernel_rfl) rfl) (by simp [ev_same, size_put, hz_a15]) (((check_w (f := 1) h17 (Below.refl _ _) (by decide) (by decide +kernel))).mono ?_) (hw := wanted_g (e := 183) (b' := true) rfl (by simp [ev_same, ev_ne, size_put, hz_a15]) rfl)
  rintro _ W35 ⟨_, rfl, rfl, hbc28⟩
  have h18a := h18.up hbc28
  have h19a := h19.up hbc28
  have s18'a := s18'.below hbc28 s18'.lt
  have s19'a := s19'.below hbc28 s19'.lt
  refine ⟨_, rfl, ?_⟩
  refine ListK.bin (i := 29) (u := .int .i64 1) (u' := .int .i64 1) (v := .bool true) rfl (by simp [ev_same, size_put, hz_a15]) (by simp [ev_const]) (eql27T rfl _) ?_ (hw := wanted_g (e := 183) (b' := true) rfl (by simp [ev_same, ev_ne, size_put, hz_a15]) rfl)
  refine ListK.pick (i := 30) (b := true) (v := .bool true) rfl (by simp [ev_same, ev_ne, size_put, hz_a15]) (by simp [ev_same, size_put, hz_a15]) ?_
  refine ListK.move (i := 31) (v := .bool true) rfl (by simp [ev_same, size_put, hz_a15]) ?_
  refine ListK.load (i := 32) (p := ⟨(n + 1), 0, none⟩) (v := .agg #[.int .i64 4, .int .i64 10, .slice A30 lateL.length c30]) rfl (by simp [ev_ne, x15_18]) (ld31' ⟨s18'a.cell 0, s18'a.cell 1, s18'a.cell 2⟩) ?_ (hw := wanted_g (e := 188) (b' := true) rfl (by simp [ev_same, size_put, hz_a15]) rfl)
  refine ListK.call (i := 33) (vs := #[.agg #[.int .i64 4, .int .i64 10, .slice A30 lateL.length c30]]) rfl (enters_of Try.func17 (by kernel_rfl) rfl) (by simp [ev_same, size_put, hz_a15]) (((check_w (f := 1) h18a (Below.refl _ _) (by decide) (by decide +kernel))).mono ?_) (hw := wanted_g (e := 188) (b' := true) rfl (by simp [ev_same, ev_ne, size_put, hz_a15]) rfl)
  rintro _ W36 ⟨_, rfl, rfl, hbc33⟩
  have h19b := h19a.up hbc33
  have s19'b := s19'a.below hbc33 s19'a.lt
  refine ⟨_, rfl, ?_⟩
  refine ListK.bin (i := 34) (u := .int .i64 1) (u' := .int .i64 1) (v := .bool true) rfl (by simp [ev_same, size_put, hz_a15]) (by simp [ev_const]) (eql27T rfl _) ?_ (hw := wanted_g (e := 188) (b' := true) rfl (by simp [ev_same, ev_ne, size_put, hz_a15]) rfl)
  refine ListK.pick (i := 35) (b := true) (v := .bool true) rfl (by simp [ev_same, ev_ne, size_put, hz_a15]) (by simp [ev_same, size_put, hz_a15]) ?_
  refine ListK.move (i := 36) (v := .bool true) rfl (by simp [ev_same, size_put, hz_a15]) ?_
  refine ListK.load (i := 37) (p := ⟨(n + 2), 0, none⟩) (v := .agg #[.int .i64 4, .int .i64 1001, .slice A31 fourL.length c31]) rfl (by simp [ev_ne, x15_19]) (ld31' ⟨s19'b.cell 0, s19'b.cell 1, s19'b.cell 2⟩) ?_ (hw := wanted_g (e := 193) (b' := true) rfl (by simp [ev_same, size_put, hz_a15]) rfl)
  refine ListK.call (i := 38) (vs := #[.agg #[.int .i64 4, .int .i64 1001, .slice A31 fourL.length c31]]) rfl (enters_of Try.func17 (by kernel_rfl) rfl) (by simp [ev_same, size_put, hz_a15]) (((check_w (f := 1) h19b (Below.refl _ _) (by decide) (by decide +kernel))).mono ?_) (hw := wanted_g (e := 193) (b' := true) rfl (by simp [ev_same, ev_ne, size_put, hz_a15]) rfl)
  rintro _ W37 ⟨_, rfl, rfl, hbc38⟩
  refine ⟨_, rfl, ?_⟩
  refine ListK.bin (i := 39) (u := .int .i64 1) (u' := .int .i64 1) (v := .bool true) rfl (by simp [ev_same, size_put, hz_a15]) (by simp [ev_const]) (eql27T rfl _) ?_ (hw := wanted_g (e := 193) (b' := true) rfl (by simp [ev_same, ev_ne, size_put, hz_a15]) rfl)
  refine ListK.pick (i := 40) (b := true) (v := .bool true) rfl (by simp [ev_same, ev_ne, size_put, hz_a15]) (by simp [ev_same, size_put, hz_a15]) ?_
  refine ListK.move (i := 41) (v := .bool true) rfl (by simp [ev_same, size_put, hz_a15]) ?_
  refine ListK.bldW (i := 42) (ps := #[]) (v := .agg #[.int .i64 0, .int .i64 0, .slice none 0 0]) rfl (by simp) (bd31_0 _) ?_ (hw := wanted_g (e := 198) (b' := true) rfl (by simp [ev_same, size_put, hz_a15]) rfl)
  refine ListK.call (i := 43) (vs := #[.agg #[.int .i64 0, .int .i64 0, .slice none 0 0]]) rfl (enters_of Try.func17 (by kernel_rfl) rfl) (by simp [ev_same, size_put, hz_a15]) (((check_w (f := 1) (sales_nil W37 _ none) (Below.refl _ _) (by decide) (by decide +kernel))).mono ?_) (hw := wanted_g (e := 198) (b' := true) rfl (by simp [ev_same, ev_ne, size_put, hz_a15]) rfl)
  rintro _ W38 ⟨_, rfl, rfl, hbc43⟩
  refine ⟨_, rfl, ?_⟩
  refine ListK.bin (i := 44) (u := .int .i64 1) (u' := .int .i64 1) (v := .bool true) rfl (by simp [ev_same, size_put, hz_a15]) (by simp [ev_const]) (eql27T rfl _) ?_ (hw := wanted_g (e := 198) (b' := true) rfl (by simp [ev_same, ev_ne, size_put, hz_a15]) rfl)
  refine ListK.pick (i := 45) (b := true) (v := .bool true) rfl (by simp [ev_same, ev_ne, size_put, hz_a15]) (by simp [ev_same, size_put, hz_a15]) ?_
  refine ListK.move (i := 46) (v := .bool true) rfl (by simp [ev_same, size_put, hz_a15]) ?_
  refine ListK.move (i := 47) (v := .int .i64 0) rfl (by simp [ev_ne, x15_22]) ?_ (hw := wanted_g (e := 203) (b' := true) rfl (by simp [ev_same, size_put, hz_a15]) rfl)
  refine ListK.bin (i := 48) (u := .int .i64 0) (u' := .int .i64 0) (v := .bool true) rfl (by simp [ev_same, size_put, hz_a15]) (by simp [ev_const]) (eql27T rfl _) ?_ (hw := wanted_g (e := 203) (b' := true) rfl (by simp [ev_same, ev_ne, size_put, hz_a15]) rfl)
  refine ListK.pick (i := 49) (b := true) (v := .bool true) rfl (by simp [ev_same, ev_ne, size_put, hz_a15]) (by simp [ev_same, size_put, hz_a15]) ?_
  refine ListK.move (i := 50) (v := .bool true) rfl (by simp [ev_same, size_put, hz_a15]) ?_
  refine ListK.move (i := 51) (v := .slice A20 0 c20) rfl (by simp [ev_ne, x15_20]) ?_ (hw := wanted_g (e := 207) (b' := true) rfl (by simp [ev_same, size_put, hz_a15]) rfl)
  refine ListK.lenW (i := 52) (u := .slice A20 0 c20) (v := .int .i64 0) rfl (by simp [ev_same, size_put, hz_a15]) (ln25 _ _ _ _ _) rfl ?_ (hw := wanted_g (e := 207) (b' := true) rfl (by simp [ev_same, ev_ne, size_put, hz_a15]) rfl)
  refine ListK.move (i := 53) (v := .slice A21 0 c21) rfl (by simp [ev_ne, x15_21]) ?_ (hw := wanted_g (e := 207) (b' := true) rfl (by simp [ev_same, ev_ne, size_put, hz_a15]) rfl)
  refine ListK.lenW (i := 54) (u := .slice A21 0 c21) (v := .int .i64 0) rfl (by simp [ev_same, size_put, hz_a15]) (ln25 _ _ _ _ _) rfl ?_ (hw := wanted_g (e := 207) (b' := true) rfl (by simp [ev_same, ev_ne, size_put, hz_a15]) rfl)
  refine ListK.bin (i := 55) (u := .int .i64 0) (u' := .int .i64 0) (v := .int .i64 0) rfl (by simp [ev_same, ev_ne, size_put, hz_a15]) (by simp [ev_same, size_put, hz_a15]) (add3z _) ?_ (hw := wanted_g (e := 207) (b' := true) rfl (by simp [ev_same, ev_ne, size_put, hz_a15]) rfl)
  refine ListK.bin (i := 56) (u := .int .i64 0) (u' := .int .i64 0) (v := .bool true) rfl (by simp [ev_same, size_put, hz_a15]) (by simp [ev_const]) (eql3T rfl _) ?_ (hw := wanted_g (e := 207) (b' := true) rfl (by simp [ev_same, ev_ne, size_put, hz_a15]) rfl)
  refine ListK.pick (i := 57) (b := true) (v := .bool true) rfl (by simp [ev_same, ev_ne, size_put, hz_a15]) (by simp [ev_same, size_put, hz_a15]) ?_
  refine ListK.move (i := 58) (v := .bool true) rfl (by simp [ev_same, size_put, hz_a15]) ?_
  refine ListK.call (i := 59) (vs := #[]) rfl (enters_of Try.func16 (by kernel_rfl) rfl) (by simp) (((wakes_any W38)).mono ?_) (hw := wanted_g (e := 215) (b' := true) rfl (by simp [ev_same, size_put, hz_a15]) rfl)
  rintro _ W39 ⟨rfl, hbw⟩
  refine ⟨_, rfl, ?_⟩
  refine ListK.pick (i := 60) (b := true) (v := .bool true) rfl (by simp [ev_same, ev_ne, size_put, hz_a15]) (by simp [ev_same, size_put, hz_a15]) ?_
  refine ListK.assign (i := 61) (v := .bool true) rfl (by simp [ev_same, size_put, hz_a15]) ?_
  refine ListK.done (hK _ _ (wpIn_ret ?_))
  show bodyPost Try.prog Try.f7 (fun e w' => e = .returned (.bool true) ∧ Below W.heap.size W w') Exit.ret _ _
  refine bodyPost_ret (v := .bool true) (res1 Try.results7 ?_) ?_ ⟨rfl, ((((hB.trans (hbc28.mono hB.size)).trans (hbc33.mono (Nat.le_trans hB.size hbc28.size))).trans (hbc38.mono (Nat.le_trans hB.size (Nat.le_trans hbc28.size hbc33.size)))).trans (hbc43.mono (Nat.le_trans hB.size (Nat.le_trans hbc28.size (Nat.le_trans hbc33.size hbc38.size))))).trans (hbw.mono (Nat.le_trans hB.size (Nat.le_trans hbc28.size (Nat.le_trans hbc33.size (Nat.le_trans hbc38.size hbc43.size)))))⟩
  · exact (by simp [ev_same, size_put, hz_a15])
  · simp only [defers_put, hd_a15]
end Go.Proofs.Ytfcnombmphophaa
