/- Texts for the laws of package recall, part 4: contracts of the program's functions, each for every input that its words name. -/
import Derived.Test.YtfcnombmphophaaK3

set_option linter.unusedVariables false
set_option maxRecDepth 10000

namespace Go.Proofs.Ytfcnombmphophaa
open Go.RowKit Go.Shelf
theorem four_nil (W : World) : Calls Try.prog 35 #[.slice none 0 0] W (QP W fourL) := by
  have := four_gen (.slice none 0 0) [] W (.inl ⟨rfl, rfl⟩)
  rwa [List.append_nil] at this
theorem four_one (s : Sale) (b : Nat) (W : World) (h : Whole W b 61 (saleC s)) : Calls Try.prog 35 #[.slice (some ⟨b, 0, none⟩) 1 1] W (QP W (fourL ++ [s])) :=
  four_gen _ [s] W (.inr ⟨s, b, rfl, rfl, h⟩)
theorem whole_ints {W : World} {p : Nat} (ys : List Int) (h : Whole W p 3 (ys.map (Value.int .i64)).toArray) : IntsAt W W.heap.size (some ⟨p, 0, none⟩) ys := by
  intro k x hx
  refine ⟨p, 0, rfl, h.lt, ?_⟩
  rw [Nat.zero_add, h.cell]
  simp [hx]
theorem ints_lit {W : World} {v : Value} {xs : List Int} {p : Nat} (ys : List Int) (h : RI W v xs) (hw : Whole W p 3 (ys.map (Value.int .i64)).toArray) (hl : xs.length ≤ 10000) (hs : sameL xs ys = true) :
    Calls Try.prog 25 #[v, .slice (some ⟨p, 0, none⟩) ys.length ys.length] W fun e w' => e = .returned (.bool true) ∧ Below W.heap.size W w' := by
  obtain ⟨A, c, rfl, _, hi⟩ := h
  have := ints_any A (some ⟨p, 0, none⟩) c ys.length xs ys W hl hi (whole_ints ys hw)
  rw [hs] at this
  exact this
theorem eql27T {x y : Operand} {m n : Int} (h : m = n) (w : World) : (do eqGuard .eql 27 x y (.int .i64 m) (.int .i64 n); binOp .eql 27 (.int .i64 m) (.int .i64 n) : Sem Value).run Try.prog w = .ok (.bool true) w := by
  subst h
  go_simp
theorem eql46 {x y : Operand} (a b c d : Int) (w : World) : (do eqGuard .eql 46 x y (.agg #[.int .i64 a, .int .i64 b]) (.agg #[.int .i64 c, .int .i64 d]); binOp .eql 46 (.agg #[.int .i64 a, .int .i64 b]) (.agg #[.int .i64 c, .int .i64 d]) : Sem Value).run Try.prog w = .ok (.bool (a == c && b == d)) w := by
  cases h : (a == c) <;> cases h2 : (b == d) <;> go_simp
theorem bs25_4 (a b c d : Int) (w : World) : (Instr.buildSlice 25 4 #[(0, .int .i64 a), (1, .int .i64 b), (2, .int .i64 c), (3, .int .i64 d)]).run Try.prog w = .ok (.slice (some ⟨w.heap.size, 0, none⟩) 4 4) (w.alloc (.cells #[.int .i64 a, .int .i64 b, .int .i64 c, .int .i64 d] 3)) := by
  kernel_rfl
section
variable {P : Program} {ops : Array Oper} {K : Act → World → Prop} {Kp : Nat → World → World → Prop} {fuel : Nat} {listed : Array Bool} {a : Act} {w : World} {i j d : Nat} {ty : TypeId} {pos : String} {aft : Array Edge} {gd : Option (Nat × Bool)}
theorem StepK.buildG {t : TypeId} {n : Nat} {parts : Array (Nat × Operand)} {ps : Array (Nat × Value)} {v : Value} {w' : World} (hi : ops[i]? = some ⟨some d, .buildSlice t n parts, ty, pos, aft, gd⟩)
    (hp : parts.map (fun (i, x) => (i, a.eval x)) = ps) (hv : (Instr.buildSlice t n ps).run P w = .ok v w') (hk : Kp i w w')
    (h : AnyK P ops K Kp fuel (listed.setIfInBounds i true) (a.put (some d) v) w') (hw : Region.wanted ⟨some d, .buildSlice t n parts, ty, pos, aft, gd⟩ (yielded ops a.tmps) = true := by rfl) : StepK P ops K Kp fuel listed a w i := by
  unfold StepK opG
  simp only [hi]
  rw [if_pos hw]
  simp only [Oper.wp, execOp, hp]; simp [hv, Oper.upon]; exact ⟨hk, h⟩
end
section
attribute [local irreducible] AnyK StepK
noncomputable def opsU6 : Array Oper := (Try.f16.body.bind (regionOf 6)).getD #[]
set_option maxHeartbeats 2000000 in
theorem regionU6 {F : Fence} {n : Nat} (hF : WideF F Try.prog) {Q : Exit → Act → World → Prop} {a : Act} {w : World} {p1 p3 : Nat} {vc vs vl vo vd : Value} (hsz : a.tmps.size = 91)
    (t1 : a.eval (.tmp 1) = .pointer (some ⟨p1, 0, none⟩)) (t2 : a.eval (.tmp 2) = .int .i64 0) (t3 : a.eval (.tmp 3) = .pointer (some ⟨p3, 0, none⟩)) (t4 : a.eval (.tmp 4) = .int .i64 0) (t5 : a.eval (.tmp 5) = vc) (t6 : a.eval (.tmp 6) = vs) (t7 : a.eval (.tmp 7) = .int .i64 0) (t8 : a.eval (.tmp 8) = vl) (t9 : a.eval (.tmp 9) = .int .i64 0) (t10 : a.eval (.tmp 10) = vo) (t11 : a.eval (.tmp 11) = vd) (t12 : a.eval (.tmp 12) = .int .i64 0)
    (m0 : w.cell? ⟨p1, 0, none⟩ = some (.int .i64 1)) (m1 : w.cell? ⟨p1, 1, none⟩ = some (.int .i64 2)) (m2 : w.cell? ⟨p3, 0, none⟩ = some (.int .i64 0)) (m3 : w.cell? ⟨p3, 1, none⟩ = some (.int .i64 7)) (hvc : RI w vc [0, 1, 2, 3]) (hvs : RI w vs [1, 2]) (hvl : RI w vl [4]) (hpr : ∀ A c W, Below w.heap.size w W → SalesAt W W.heap.size A fourL → Calls Try.prog 19 #[.agg #[.int .i64 4, .int .i64 10, .slice A fourL.length c], vo, vd] W fun e w' => e = .returned (.bool true) ∧ Below W.heap.size W w')
    (hK : ∀ a' W', Below w.heap.size w W' → a'.tmps.size = 91 → a'.defers = a.defers → a'.eval (.tmp 0) = .bool true → Q .normal a' W') :
    (Code.region 6 opsU6 true).wpIn F n Try.prog Q a w := by
  have hR : (fun w : World => w.cell? ⟨p1, 0, none⟩ = some (.int .i64 1) ∧ w.cell? ⟨p1, 1, none⟩ = some (.int .i64 2) ∧ w.cell? ⟨p3, 0, none⟩ = some (.int .i64 0) ∧ w.cell? ⟨p3, 1, none⟩ = some (.int .i64 7)) w.drew := ⟨m0, m1, m2, m3⟩
  have hB : Below w.heap.size w w.drew := (Below.refl _ _).drew
  refine region_K (KpR (fun w => w.cell? ⟨p1, 0, none⟩ = some (.int .i64 1) ∧ w.cell? ⟨p1, 1, none⟩ = some (.int .i64 2) ∧ w.cell? ⟨p3, 0, none⟩ = some (.int .i64 0) ∧ w.cell? ⟨p3, 1, none⟩ = some (.int .i64 7)) (fun _ => false)) hF (by kernel_rfl) Try.mixed ?_
  change AnyK _ _ _ _ 50 (Array.replicate 50 false) _ _
  generalize w.drew = W at *
  refine AnyK.move (i := 0) may_o (v := .int .i64 0) (by simp [t2]) hR ?_
  refine AnyK.bin (i := 1) may_o (u := .int .i64 0) (u' := .int .i64 (0)) (v := .bool true) (by simp [hsz]) (by simp) (fun w => eql27T rfl w) hR ?_
  refine AnyK.move (i := 2) may_o (v := .bool true) (by simp [hsz]) hR ?_
  refine AnyK.load (i := 3) may_o (p := ⟨p1, 0, none⟩) (v := .agg #[.int .i64 1, .int .i64 2]) (by simp [t1]) (fun w hw => ld46 ⟨hw.1, hw.2.1⟩) hR (hw := (by exact wanted_g (e := 44) (b' := true) rfl (by simp [hsz]) rfl)) ?_
  refine AnyK.pick1 (i := 4) (by kernel_rfl) ?_
  refine StepK.call (i := 4) (f := 36) (vs := #[.int .i64 (1), .int .i64 (2)]) rfl (enters_of Try.func36 (by kernel_rfl) rfl) (by simp) (by simp) ((between_any 1 2 _).mono ?_) (hw := (by exact wanted_g (e := 44) (b' := true) rfl (by simp [hsz]) rfl))
  rintro _ W4 ⟨rfl, hb4⟩
  refine ⟨_, rfl, (fun _ hw => ⟨(hb4.cell (block_lt_of_cell hw.1)).trans hw.1, (hb4.cell (block_lt_of_cell hw.2.1)).trans hw.2.1, (hb4.cell (block_lt_of_cell hw.2.2.1)).trans hw.2.2.1, (hb4.cell (block_lt_of_cell hw.2.2.2)).trans hw.2.2.2⟩), ?_⟩
  replace hR : (fun w : World => w.cell? ⟨p1, 0, none⟩ = some (.int .i64 1) ∧ w.cell? ⟨p1, 1, none⟩ = some (.int .i64 2) ∧ w.cell? ⟨p3, 0, none⟩ = some (.int .i64 0) ∧ w.cell? ⟨p3, 1, none⟩ = some (.int .i64 7)) W4 := ⟨(hb4.cell (block_lt_of_cell hR.1)).trans hR.1, (hb4.cell (block_lt_of_cell hR.2.1)).trans hR.2.1, (hb4.cell (block_lt_of_cell hR.2.2.1)).trans hR.2.2.1, (hb4.cell (block_lt_of_cell hR.2.2.2)).trans hR.2.2.2⟩
  replace hB := hB.trans (hb4.mono hB.size)
  clear hb4 W
  obtain ⟨W, rfl⟩ : ∃ W, W = W4 := ⟨_, rfl⟩
  refine AnyK.bin (i := 5) may_o (u := .agg #[.int .i64 1, .int .i64 2]) (u' := .agg #[.int .i64 1, .int .i64 2]) (v := .bool true) (by simp [hsz]) (by simp [hsz]) (fun w => eql46 1 2 1 2 w) hR (hw := (by exact wanted_g (e := 44) (b' := true) rfl (by simp [hsz]) rfl)) ?_
  refine AnyK.pick (i := 6) may_o (b := true) (v := .bool true) (by simp [hsz]) (by simp [hsz]) hR ?_
  refine AnyK.move (i := 7) may_o (v := .bool true) (by simp [hsz]) hR ?_
  refine AnyK.move (i := 8) may_o (v := .int .i64 0) (by simp [t4]) hR (hw := (by exact wanted_g (e := 49) (b' := true) rfl (by simp [hsz]) rfl)) ?_
  refine AnyK.bin (i := 9) may_o (u := .int .i64 0) (u' := .int .i64 (0)) (v := .bool true) (by simp [hsz]) (by simp) (fun w => eql27T rfl w) hR (hw := (by exact wanted_g (e := 49) (b' := true) rfl (by simp [hsz]) rfl)) ?_
  refine AnyK.pick (i := 10) may_o (b := true) (v := .bool true) (by simp [hsz]) (by simp [hsz]) hR ?_
  refine AnyK.move (i := 11) may_o (v := .bool true) (by simp [hsz]) hR ?_
  refine AnyK.load (i := 12) may_o (p := ⟨p3, 0, none⟩) (v := .agg #[.int .i64 0, .int .i64 7]) (by simp [t3]) (fun w hw => ld46 ⟨hw.2.2.1, hw.2.2.2⟩) hR (hw := (by exact wanted_g (e := 53) (b' := true) rfl (by simp [hsz]) rfl)) ?_
  refine AnyK.pick1 (i := 13) (by kernel_rfl) ?_
  refine StepK.call (i := 13) (f := 36) (vs := #[.int .i64 (0), .int .i64 (7)]) rfl (enters_of Try.func36 (by kernel_rfl) rfl) (by simp) (by simp) ((between_any 0 7 _).mono ?_) (hw := (by exact wanted_g (e := 53) (b' := true) rfl (by simp [hsz]) rfl))
  rintro _ W13 ⟨rfl, hb13⟩
  refine ⟨_, rfl, (fun _ hw => ⟨(hb13.cell (block_lt_of_cell hw.1)).trans hw.1, (hb13.cell (block_lt_of_cell hw.2.1)).trans hw.2.1, (hb13.cell (block_lt_of_cell hw.2.2.1)).trans hw.2.2.1, (hb13.cell (block_lt_of_cell hw.2.2.2)).trans hw.2.2.2⟩), ?_⟩
  replace hR : (fun w : World => w.cell? ⟨p1, 0, none⟩ = some (.int .i64 1) ∧ w.cell? ⟨p1, 1, none⟩ = some (.int .i64 2) ∧ w.cell? ⟨p3, 0, none⟩ = some (.int .i64 0) ∧ w.cell? ⟨p3, 1, none⟩ = some (.int .i64 7)) W13 := ⟨(hb13.cell (block_lt_of_cell hR.1)).trans hR.1, (hb13.cell (block_lt_of_cell hR.2.1)).trans hR.2.1, (hb13.cell (block_lt_of_cell hR.2.2.1)).trans hR.2.2.1, (hb13.cell (block_lt_of_cell hR.2.2.2)).trans hR.2.2.2⟩
  replace hB := hB.trans (hb13.mono hB.size)
  clear hb13 W
  obtain ⟨W, rfl⟩ : ∃ W, W = W13 := ⟨_, rfl⟩
  refine AnyK.bin (i := 14) may_o (u := .agg #[.int .i64 0, .int .i64 7]) (u' := .agg #[.int .i64 0, .int .i64 7]) (v := .bool true) (by simp [hsz]) (by simp [hsz]) (fun w => eql46 0 7 0 7 w) hR (hw := (by exact wanted_g (e := 53) (b' := true) rfl (by simp [hsz]) rfl)) ?_
  refine AnyK.pick (i := 15) may_o (b := true) (v := .bool true) (by simp [hsz]) (by simp [hsz]) hR ?_
  refine AnyK.move (i := 16) may_o (v := .bool true) (by simp [hsz]) hR ?_
  refine AnyK.move (i := 17) may_o (v := .int .i64 0) (by simp [t7]) hR (hw := (by exact wanted_g (e := 58) (b' := true) rfl (by simp [hsz]) rfl)) ?_
  refine AnyK.bin (i := 18) may_o (u := .int .i64 0) (u' := .int .i64 (0)) (v := .bool true) (by simp [hsz]) (by simp) (fun w => eql27T rfl w) hR (hw := (by exact wanted_g (e := 58) (b' := true) rfl (by simp [hsz]) rfl)) ?_
  refine AnyK.pick (i := 19) may_o (b := true) (v := .bool true) (by simp [hsz]) (by simp [hsz]) hR ?_
  refine AnyK.move (i := 20) may_o (v := .bool true) (by simp [hsz]) hR ?_
  refine AnyK.move (i := 21) may_o (v := vc) (by simp [t5]) hR (hw := (by exact wanted_g (e := 62) (b' := true) rfl (by simp [hsz]) rfl)) ?_
  refine AnyK.pick1 (i := 22) (by kernel_rfl) ?_
  refine StepK.buildG (i := 22) (ps := #[(0, .int .i64 (0)), (1, .int .i64 (1)), (2, .int .i64 (2)), (3, .int .i64 (3))]) rfl (by simp) (bs25_4 _ _ _ _ _) (fun _ hw => ⟨cell_alloc_l _ hw.1, cell_alloc_l _ hw.2.1, cell_alloc_l _ hw.2.2.1, cell_alloc_l _ hw.2.2.2⟩) ?_ (hw := (by exact wanted_g (e := 62) (b' := true) rfl (by simp [hsz]) rfl))
  have n22 := Whole.new W 3 #[.int .i64 (0), .int .i64 (1), .int .i64 (2), .int .i64 (3)]
  replace hR : (fun w : World => w.cell? ⟨p1, 0, none⟩ = some (.int .i64 1) ∧ w.cell? ⟨p1, 1, none⟩ = some (.int .i64 2) ∧ w.cell? ⟨p3, 0, none⟩ = some (.int .i64 0) ∧ w.cell? ⟨p3, 1, none⟩ = some (.int .i64 7)) (W.alloc (.cells #[.int .i64 (0), .int .i64 (1), .int .i64 (2), .int .i64 (3)] 3)) := ⟨cell_alloc_l _ hR.1, cell_alloc_l _ hR.2.1, cell_alloc_l _ hR.2.2.1, cell_alloc_l _ hR.2.2.2⟩
  replace hB := hB.alloc hB.size (.cells #[.int .i64 (0), .int .i64 (1), .int .i64 (2), .int .i64 (3)] 3)
  generalize hp22 : W.heap.size = p22 at *
  generalize W.alloc (.cells #[.int .i64 (0), .int .i64 (1), .int .i64 (2), .int .i64 (3)] 3) = W22 at *
  clear hp22 W
  obtain ⟨W, rfl⟩ : ∃ W, W = W22 := ⟨_, rfl⟩
  refine AnyK.pick1 (i := 23) (by kernel_rfl) ?_
  refine StepK.call (i := 23) (f := 25) (vs := #[vc, .slice (some ⟨p22, 0, none⟩) 4 4]) rfl (enters_of Try.func25 (by kernel_rfl) rfl) (by simp) (by simp [hsz]) ((ints_lit [0, 1, 2, 3] (hvc.below hB) n22 (by decide) rfl).mono ?_) (hw := (by exact wanted_g (e := 62) (b' := true) rfl (by simp [hsz]) rfl))
  rintro _ W23 ⟨rfl, hb23⟩
  refine ⟨_, rfl, (fun _ hw => ⟨(hb23.cell (block_lt_of_cell hw.1)).trans hw.1, (hb23.cell (block_lt_of_cell hw.2.1)).trans hw.2.1, (hb23.cell (block_lt_of_cell hw.2.2.1)).trans hw.2.2.1, (hb23.cell (block_lt_of_cell hw.2.2.2)).trans hw.2.2.2⟩), ?_⟩
  replace hR : (fun w : World => w.cell? ⟨p1, 0, none⟩ = some (.int .i64 1) ∧ w.cell? ⟨p1, 1, none⟩ = some (.int .i64 2) ∧ w.cell? ⟨p3, 0, none⟩ = some (.int .i64 0) ∧ w.cell? ⟨p3, 1, none⟩ = some (.int .i64 7)) W23 := ⟨(hb23.cell (block_lt_of_cell hR.1)).trans hR.1, (hb23.cell (block_lt_of_cell hR.2.1)).trans hR.2.1, (hb23.cell (block_lt_of_cell hR.2.2.1)).trans hR.2.2.1, (hb23.cell (block_lt_of_cell hR.2.2.2)).trans hR.2.2.2⟩
  replace hB := hB.trans (hb23.mono hB.size)
  clear n22
  clear hb23 W
  obtain ⟨W, rfl⟩ : ∃ W, W = W23 := ⟨_, rfl⟩
  refine AnyK.pick (i := 24) may_o (b := true) (v := .bool true) (by simp [hsz]) (by simp [hsz]) hR ?_
  refine AnyK.move (i := 25) may_o (v := .bool true) (by simp [hsz]) hR ?_
  refine AnyK.move (i := 26) may_o (v := vs) (by simp [t6]) hR (hw := (by exact wanted_g (e := 67) (b' := true) rfl (by simp [hsz]) rfl)) ?_
  refine AnyK.pick1 (i := 27) (by kernel_rfl) ?_
  refine StepK.buildG (i := 27) (ps := #[(0, .int .i64 (1)), (1, .int .i64 (2))]) rfl (by simp) (bs25_2 _ _ _) (fun _ hw => ⟨cell_alloc_l _ hw.1, cell_alloc_l _ hw.2.1, cell_alloc_l _ hw.2.2.1, cell_alloc_l _ hw.2.2.2⟩) ?_ (hw := (by exact wanted_g (e := 67) (b' := true) rfl (by simp [hsz]) rfl))
  have n27 := Whole.new W 3 #[.int .i64 (1), .int .i64 (2)]
  replace hR : (fun w : World => w.cell? ⟨p1, 0, none⟩ = some (.int .i64 1) ∧ w.cell? ⟨p1, 1, none⟩ = some (.int .i64 2) ∧ w.cell? ⟨p3, 0, none⟩ = some (.int .i64 0) ∧ w.cell? ⟨p3, 1, none⟩ = some (.int .i64 7)) (W.alloc (.cells #[.int .i64 (1), .int .i64 (2)] 3)) := ⟨cell_alloc_l _ hR.1, cell_alloc_l _ hR.2.1, cell_alloc_l _ hR.2.2.1, cell_alloc_l _ hR.2.2.2⟩
  replace hB := hB.alloc hB.size (.cells #[.int .i64 (1), .int .i64 (2)] 3)
  generalize hp27 : W.heap.size = p27 at *
  generalize W.alloc (.cells #[.int .i64 (1), .int .i64 (2)] 3) = W27 at *
  clear hp27 W
  obtain ⟨W, rfl⟩ : ∃ W, W = W27 := ⟨_, rfl⟩
  refine AnyK.pick1 (i := 28) (by kernel_rfl) ?_
  refine StepK.call (i := 28) (f := 25) (vs := #[vs, .slice (some ⟨p27, 0, none⟩) 2 2]) rfl (enters_of Try.func25 (by kernel_rfl) rfl) (by simp) (by simp [hsz]) ((ints_lit [1, 2] (hvs.below hB) n27 (by decide) rfl).mono ?_) (hw := (by exact wanted_g (e := 67) (b' := true) rfl (by simp [hsz]) rfl))
  rintro _ W28 ⟨rfl, hb28⟩
  refine ⟨_, rfl, (fun _ hw => ⟨(hb28.cell (block_lt_of_cell hw.1)).trans hw.1, (hb28.cell (block_lt_of_cell hw.2.1)).trans hw.2.1, (hb28.cell (block_lt_of_cell hw.2.2.1)).trans hw.2.2.1, (hb28.cell (block_lt_of_cell hw.2.2.2)).trans hw.2.2.2⟩), ?_⟩
  replace hR : (fun w : World => w.cell? ⟨p1, 0, none⟩ = some (.int .i64 1) ∧ w.cell? ⟨p1, 1, none⟩ = some (.int .i64 2) ∧ w.cell? ⟨p3, 0, none⟩ = some (.int .i64 0) ∧ w.cell? ⟨p3, 1, none⟩ = some (.int .i64 7)) W28 := ⟨(hb28.cell (block_lt_of_cell hR.1)).trans hR.1, (hb28.cell (block_lt_of_cell hR.2.1)).trans hR.2.1, (hb28.cell (block_lt_of_cell hR.2.2.1)).trans hR.2.2.1, (hb28.cell (block_lt_of_cell hR.2.2.2)).trans hR.2.2.2⟩
  replace hB := hB.trans (hb28.mono hB.size)
  clear n27
  clear hb28 W
  obtain ⟨W, rfl⟩ : ∃ W, W = W28 := ⟨_, rfl⟩
  refine AnyK.pick (i := 29) may_o (b := true) (v := .bool true) (by simp [hsz]) (by simp [hsz]) hR ?_
  refine AnyK.move (i := 30) may_o (v := .bool true) (by simp [hsz]) hR ?_
  refine AnyK.move (i := 31) may_o (v := .int .i64 0) (by simp [t9]) hR (hw := (by exact wanted_g (e := 72) (b' := true) rfl (by simp [hsz]) rfl)) ?_
  refine AnyK.bin (i := 32) may_o (u := .int .i64 0) (u' := .int .i64 (0)) (v := .bool true) (by simp [hsz]) (by simp) (fun w => eql27T rfl w) hR (hw := (by exact wanted_g (e := 72) (b' := true) rfl (by simp [hsz]) rfl)) ?_
  refine AnyK.pick (i := 33) may_o (b := true) (v := .bool true) (by simp [hsz]) (by simp [hsz]) hR ?_
  refine AnyK.move (i := 34) may_o (v := .bool true) (by simp [hsz]) hR ?_
  refine AnyK.move (i := 35) may_o (v := vl) (by simp [t8]) hR (hw := (by exact wanted_g (e := 76) (b' := true) rfl (by simp [hsz]) rfl)) ?_
  refine AnyK.pick1 (i := 36) (by kernel_rfl) ?_
  refine StepK.buildG (i := 36) (ps := #[(0, .int .i64 (4))]) rfl (by simp) (bs25_1 _ _) (fun _ hw => ⟨cell_alloc_l _ hw.1, cell_alloc_l _ hw.2.1, cell_alloc_l _ hw.2.2.1, cell_alloc_l _ hw.2.2.2⟩) ?_ (hw := (by exact wanted_g (e := 76) (b' := true) rfl (by simp [hsz]) rfl))
  have n36 := Whole.new W 3 #[.int .i64 (4)]
  replace hR : (fun w : World => w.cell? ⟨p1, 0, none⟩ = some (.int .i64 1) ∧ w.cell? ⟨p1, 1, none⟩ = some (.int .i64 2) ∧ w.cell? ⟨p3, 0, none⟩ = some (.int .i64 0) ∧ w.cell? ⟨p3, 1, none⟩ = some (.int .i64 7)) (W.alloc (.cells #[.int .i64 (4)] 3)) := ⟨cell_alloc_l _ hR.1, cell_alloc_l _ hR.2.1, cell_alloc_l _ hR.2.2.1, cell_alloc_l _ hR.2.2.2⟩
  replace hB := hB.alloc hB.size (.cells #[.int .i64 (4)] 3)
  generalize hp36 : W.heap.size = p36 at *
  generalize W.alloc (.cells #[.int .i64 (4)] 3) = W36 at *
  clear hp36 W
  obtain ⟨W, rfl⟩ : ∃ W, W = W36 := ⟨_, rfl⟩
  refine AnyK.pick1 (i := 37) (by kernel_rfl) ?_
  refine StepK.call (i := 37) (f := 25) (vs := #[vl, .slice (some ⟨p36, 0, none⟩) 1 1]) rfl (enters_of Try.func25 (by kernel_rfl) rfl) (by simp) (by simp [hsz]) ((ints_lit [4] (hvl.below hB) n36 (by decide) rfl).mono ?_) (hw := (by exact wanted_g (e := 76) (b' := true) rfl (by simp [hsz]) rfl))
  rintro _ W37 ⟨rfl, hb37⟩
  refine ⟨_, rfl, (fun _ hw => ⟨(hb37.cell (block_lt_of_cell hw.1)).trans hw.1, (hb37.cell (block_lt_of_cell hw.2.1)).trans hw.2.1, (hb37.cell (block_lt_of_cell hw.2.2.1)).trans hw.2.2.1, (hb37.cell (block_lt_of_cell hw.2.2.2)).trans hw.2.2.2⟩), ?_⟩
  replace hR : (fun w : World => w.cell? ⟨p1, 0, none⟩ = some (.int .i64 1) ∧ w.cell? ⟨p1, 1, none⟩ = some (.int .i64 2) ∧ w.cell? ⟨p3, 0, none⟩ = some (.int .i64 0) ∧ w.cell? ⟨p3, 1, none⟩ = some (.int .i64 7)) W37 := ⟨(hb37.cell (block_lt_of_cell hR.1)).trans hR.1, (hb37.cell (block_lt_of_cell hR.2.1)).trans hR.2.1, (hb37.cell (block_lt_of_cell hR.2.2.1)).trans hR.2.2.1, (hb37.cell (block_lt_of_cell hR.2.2.2)).trans hR.2.2.2⟩
  replace hB := hB.trans (hb37.mono hB.size)
  clear n36
  clear hb37 W
  obtain ⟨W, rfl⟩ : ∃ W, W = W37 := ⟨_, rfl⟩
  refine AnyK.pick (i := 38) may_o (b := true) (v := .bool true) (by simp [hsz]) (by simp [hsz]) hR ?_
  refine AnyK.move (i := 39) may_o (v := .bool true) (by simp [hsz]) hR ?_
  refine AnyK.move (i := 40) may_o (v := .int .i64 0) (by simp [t12]) hR (hw := (by exact wanted_g (e := 81) (b' := true) rfl (by simp [hsz]) rfl)) ?_
  refine AnyK.bin (i := 41) may_o (u := .int .i64 0) (u' := .int .i64 (0)) (v := .bool true) (by simp [hsz]) (by simp) (fun w => eql27T rfl w) hR (hw := (by exact wanted_g (e := 81) (b' := true) rfl (by simp [hsz]) rfl)) ?_
  refine AnyK.pick (i := 42) may_o (b := true) (v := .bool true) (by simp [hsz]) (by simp [hsz]) hR ?_
  refine AnyK.move (i := 43) may_o (v := .bool true) (by simp [hsz]) hR ?_
  refine AnyK.move (i := 45) may_o (v := vo) (by simp [t10]) hR (hw := (by exact wanted_g (e := 85) (b' := true) rfl (by simp [hsz]) rfl)) ?_
  refine AnyK.move (i := 46) may_o (v := vd) (by simp [t11]) hR (hw := (by exact wanted_g (e := 85) (b' := true) rfl (by simp [hsz]) rfl)) ?_
  refine AnyK.pick1 (i := 44) (by kernel_rfl) ?_
  refine StepK.call (i := 44) (f := 35) (vs := #[.slice none 0 0]) rfl (enters_of Try.func35 (by kernel_rfl) rfl) (by simp) (by simp) ((four_nil _).mono ?_) (hw := (by exact wanted_g (e := 85) (b' := true) rfl (by simp [hsz]) rfl))
  rintro _ W44 ⟨A44, c44, rfl, hs44, hb44⟩
  refine ⟨_, rfl, (fun _ hw => ⟨(hb44.cell (block_lt_of_cell hw.1)).trans hw.1, (hb44.cell (block_lt_of_cell hw.2.1)).trans hw.2.1, (hb44.cell (block_lt_of_cell hw.2.2.1)).trans hw.2.2.1, (hb44.cell (block_lt_of_cell hw.2.2.2)).trans hw.2.2.2⟩), ?_⟩
  replace hR : (fun w : World => w.cell? ⟨p1, 0, none⟩ = some (.int .i64 1) ∧ w.cell? ⟨p1, 1, none⟩ = some (.int .i64 2) ∧ w.cell? ⟨p3, 0, none⟩ = some (.int .i64 0) ∧ w.cell? ⟨p3, 1, none⟩ = some (.int .i64 7)) W44 := ⟨(hb44.cell (block_lt_of_cell hR.1)).trans hR.1, (hb44.cell (block_lt_of_cell hR.2.1)).trans hR.2.1, (hb44.cell (block_lt_of_cell hR.2.2.1)).trans hR.2.2.1, (hb44.cell (block_lt_of_cell hR.2.2.2)).trans hR.2.2.2⟩
  replace hB := hB.trans (hb44.mono hB.size)
  clear hb44 W
  obtain ⟨W, rfl⟩ : ∃ W, W = W44 := ⟨_, rfl⟩
  refine AnyK.pick1 (i := 47) (by kernel_rfl) ?_
  refine StepK.call (i := 47) (f := 19) (vs := #[.agg #[.int .i64 4, .int .i64 10, .slice A44 fourL.length c44], vo, vd]) rfl (enters_of Try.func19 (by kernel_rfl) rfl) (by simp) (by simp [hsz]) ((hpr A44 c44 W hB hs44).mono ?_) (hw := (by exact wanted_g (e := 85) (b' := true) rfl (by simp [hsz]) rfl))
  rintro _ W47 ⟨rfl, hb47⟩
  refine ⟨_, rfl, (fun _ hw => ⟨(hb47.cell (block_lt_of_cell hw.1)).trans hw.1, (hb47.cell (block_lt_of_cell hw.2.1)).trans hw.2.1, (hb47.cell (block_lt_of_cell hw.2.2.1)).trans hw.2.2.1, (hb47.cell (block_lt_of_cell hw.2.2.2)).trans hw.2.2.2⟩), ?_⟩
  replace hR : (fun w : World => w.cell? ⟨p1, 0, none⟩ = some (.int .i64 1) ∧ w.cell? ⟨p1, 1, none⟩ = some (.int .i64 2) ∧ w.cell? ⟨p3, 0, none⟩ = some (.int .i64 0) ∧ w.cell? ⟨p3, 1, none⟩ = some (.int .i64 7)) W47 := ⟨(hb47.cell (block_lt_of_cell hR.1)).trans hR.1, (hb47.cell (block_lt_of_cell hR.2.1)).trans hR.2.1, (hb47.cell (block_lt_of_cell hR.2.2.1)).trans hR.2.2.1, (hb47.cell (block_lt_of_cell hR.2.2.2)).trans hR.2.2.2⟩
  replace hB := hB.trans (hb47.mono hB.size)
  clear hs44
  clear hb47 W
  obtain ⟨W, rfl⟩ : ∃ W, W = W47 := ⟨_, rfl⟩
  refine AnyK.pick (i := 48) may_o (b := true) (v := .bool true) (by simp [hsz]) (by simp [hsz]) hR ?_
  refine AnyK.assign (i := 49) may_o (v := .bool true) (by simp [hsz]) hR ?_
  refine AnyK.done (by kernel_rfl) (hK _ _ hB ?_ ?_ ?_)
  · simp only [size_put, hsz]
  · simp only [defers_put]
  · exact (by simp [hsz])

end
end Go.Proofs.Ytfcnombmphophaa
namespace Go.Proofs.Ytfcnombmphophaa
open Go.RowKit Go.Shelf
set_option maxRecDepth 100000 in
theorem wk_when {A : Option Addr} {c : Nat} {W : World} (hs : SalesAt W W.heap.size A fourL) : Calls Try.prog 29 #[.agg #[.int .i64 4, .int .i64 10, .slice A fourL.length c], .int .i64 0] W fun e w' => e = .returned (.tuple #[.agg #[.int .i64 1, .int .i64 2], .int .i64 0]) ∧ Below W.heap.size W w' := by
  have h := when_any 4 10 A fourL c 0 W (by decide) hs
  unfold WP at h
  rw [show whenV 4 10 fourL 0 = (1, 2) by decide +kernel, show whenE 4 10 fourL 0 = 0 by decide +kernel] at h
  exact h
set_option maxRecDepth 100000 in
theorem wk_holds {A : Option Addr} {c : Nat} {W : World} (hs : SalesAt W W.heap.size A fourL) : Calls Try.prog 32 #[.agg #[.int .i64 4, .int .i64 10, .slice A fourL.length c], .int .i64 3, .int .i64 4] W fun e w' => e = .returned (.tuple #[.agg #[.int .i64 0, .int .i64 7], .int .i64 0]) ∧ Below W.heap.size W w' := by
  have h := holds_api 4 10 A fourL c 3 4 W (by decide) hs
  unfold DP at h
  rw [show holdsV 4 10 fourL 3 4 = (0, 7) by decide +kernel, show holdsE 4 10 fourL 3 4 = 0 by decide +kernel] at h
  exact h
theorem RM.ri {W0 W : World} {ve vs : Value} {xe xs : List Int} (h : RM W0 ve vs xe xs W) : RI W ve xe ∧ RI W vs xs := ⟨OL.ints ⟨h.low, h.oe⟩, OL.ints ⟨h.low, h.os⟩⟩
set_option maxRecDepth 100000 in
theorem wk_reach {A : Option Addr} {c : Nat} {W : World} (hs : SalesAt W W.heap.size A fourL) : Calls Try.prog 33 #[.agg #[.int .i64 4, .int .i64 10, .slice A fourL.length c], .int .i64 2] W fun e w' => ∃ vc vs, e = .returned (.tuple #[vc, vs, .int .i64 0]) ∧ RI w' vc [0, 1, 2, 3] ∧ RI w' vs [1, 2] ∧ Below W.heap.size W w' := by
  refine (reach_any 4 10 A fourL c 2 W (by decide) hs).mono ?_
  rintro e w' ⟨ve, vs, rfl, h⟩
  rw [show reachE 4 10 fourL 2 = 0 by decide +kernel]
  rw [show reachC 4 10 fourL 2 = [0, 1, 2, 3] by decide +kernel, show reachS 4 10 fourL 2 = [1, 2] by decide +kernel] at h
  exact ⟨ve, vs, rfl, h.ri.1, h.ri.2, h.low⟩
def fiveL : List Sale := fourL ++ [⟨1, 0, 3, 1, 1⟩]
theorem four_five (b : Nat) (W : World) (h : Whole W b 61 (saleC ⟨1, 0, 3, 1, 1⟩)) : Calls Try.prog 35 #[.slice (some ⟨b, 0, none⟩) 1 1] W (QP W fiveL) := four_one _ b W h
set_option maxRecDepth 100000 in
theorem wk_blame {A : Option Addr} {c : Nat} {W : World} (hs : SalesAt W W.heap.size A fiveL) : Calls Try.prog 24 #[.agg #[.int .i64 4, .int .i64 10, .slice A fiveL.length c]] W fun e w' => ∃ vl, e = .returned (.tuple #[vl, .int .i64 0]) ∧ RI w' vl [4] ∧ Below W.heap.size W w' := by
  refine (blame_any 4 10 A _ c W (by decide) hs).mono ?_
  rintro e w' ⟨v, rfl, h, hb⟩
  rw [show fault 4 10 fiveL = 0 by decide +kernel]
  rw [show blameV 4 10 fiveL = [4] by decide +kernel] at h
  exact ⟨v, rfl, h, hb⟩
set_option maxRecDepth 100000 in
theorem wk_order {A : Option Addr} {c : Nat} {W : World} (hs : SalesAt W W.heap.size A fourL) : Calls Try.prog 23 #[.agg #[.int .i64 4, .int .i64 10, .slice A fourL.length c]] W fun e w' => ∃ vo vd xs ds, e = .returned (.tuple #[vo, vd, .int .i64 0]) ∧ RI w' vo xs ∧ RI w' vd ds ∧ proveB 4 10 fourL xs ds = true ∧ Below W.heap.size W w' := by
  have h0 : triedE 4 10 fourL true = 0 := by decide +kernel
  have hl : fourL.length ≤ 1000000 := by decide
  have h := order_any 4 10 A fourL c W hl hs
  generalize fourL = L at *
  refine h.mono ?_
  rintro e w' ⟨v1, v2, xs, ds, he, r1, r2, ho, hb⟩
  have hp := order_prove h0 ho
  clear ho
  exact ⟨v1, v2, xs, ds, by rw [he, h0], r1, r2, hp, hb⟩
theorem wk_prove {A : Option Addr} {c : Nat} {W W0 : World} {vo vd : Value} {xs ds : List Int} (h1 : RI W0 vo xs) (h2 : RI W0 vd ds) (hp : proveB 4 10 fourL xs ds = true) (hb : Below W0.heap.size W0 W) (hs : SalesAt W W.heap.size A fourL) :
    Calls Try.prog 19 #[.agg #[.int .i64 4, .int .i64 10, .slice A fourL.length c], vo, vd] W fun e w' => e = .returned (.bool true) ∧ Below W.heap.size W w' := by
  obtain ⟨A1, c1, rfl, _, i1⟩ := h1.below hb
  obtain ⟨A2, c2, rfl, _, i2⟩ := h2.below hb
  have h := prove_any 4 10 A A1 A2 fourL c c1 c2 xs ds W (by decide) hs i1 i2
  rw [hp] at h
  exact h
theorem sa46 {w : World} {x y : Int} : (Instr.storeAt 46 (.pointer (some ⟨w.heap.size, 0, none⟩)) (.agg #[.int .i64 x, .int .i64 y])).run Try.prog (w.alloc (.cells #[.int .i64 0, .int .i64 0] 46)) = .ok () (((w.alloc (.cells #[.int .i64 0, .int .i64 0] 46)).setCell ⟨w.heap.size, 0, none⟩ (.int .i64 x)).setCell ⟨w.heap.size, 1, none⟩ (.int .i64 y)) := by
  have h := Whole.new w 46 #[.int .i64 0, .int .i64 0]
  exact st46 (h.cell 0) (h.cell 1) (h.frozen 0) (h.frozen 1)
theorem put46 (w : World) (x y : Int) : Whole (((w.alloc (.cells #[.int .i64 0, .int .i64 0] 46)).setCell ⟨w.heap.size, 0, none⟩ (.int .i64 x)).setCell ⟨w.heap.size, 1, none⟩ (.int .i64 y)) w.heap.size 46 #[.int .i64 x, .int .i64 y] ∧
    Below w.heap.size w (((w.alloc (.cells #[.int .i64 0, .int .i64 0] 46)).setCell ⟨w.heap.size, 0, none⟩ (.int .i64 x)).setCell ⟨w.heap.size, 1, none⟩ (.int .i64 y)) :=
  ⟨((Whole.new w 46 #[.int .i64 0, .int .i64 0]).set 0 (.int .i64 x)).set 1 (.int .i64 y), (((Below.refl _ w).alloc (Nat.le_refl _) _).setCell (p := ⟨w.heap.size, 0, none⟩) (Nat.le_refl _) _).setCell (p := ⟨w.heap.size, 1, none⟩) (Nat.le_refl _) _⟩
theorem bs29_1v (s : Sale) (w : World) : (Instr.buildSlice 29 1 #[(0, saleV s)]).run Try.prog w = .ok (.slice (some ⟨w.heap.size, 0, none⟩) 1 1) (w.alloc (.cells (saleC s) 61)) := by
  kernel_rfl
theorem ex3_0 (u v x : Value) (w : World) : (Instr.extract (.tuple #[u, v, x]) 0).run Try.prog w = .ok u w := by
  go_simp
theorem ex3_1 (u v x : Value) (w : World) : (Instr.extract (.tuple #[u, v, x]) 1).run Try.prog w = .ok v w := by
  go_simp
theorem ex3_2 (u v x : Value) (w : World) : (Instr.extract (.tuple #[u, v, x]) 2).run Try.prog w = .ok x w := by
  go_simp

noncomputable def opsU0 : Array Oper := (Try.f16.body.bind (regionOf 0)).getD #[]
noncomputable def opsU1 : Array Oper := (Try.f16.body.bind (regionOf 1)).getD #[]
noncomputable def opsU2 : Array Oper := (Try.f16.body.bind (regionOf 2)).getD #[]
noncomputable def opsU3 : Array Oper := (Try.f16.body.bind (regionOf 3)).getD #[]
noncomputable def opsU4 : Array Oper := (Try.f16.body.bind (regionOf 4)).getD #[]
noncomputable def opsU5 : Array Oper := (Try.f16.body.bind (regionOf 5)).getD #[]
noncomputable def code16 : Code := .seq (.region 0 opsU0 false) (.seq (.region 1 opsU1 false) (.seq (.region 2 opsU2 false) (.seq (.region 3 opsU3 false) (.seq (.region 4 opsU4 false) (.seq (.region 5 opsU5 false) (.seq (.region 6 opsU6 true) .ret))))))
theorem body16 : Try.f16.body = some code16 := by kernel_rfl

set_option maxHeartbeats 2000000 in
theorem wakes_any (W : World) : Calls Try.prog 16 #[] W fun e w' => e = .returned (.bool true) ∧ Below W.heap.size W w' := by
  refine (callsIn_wide (n := 5)).1 (callsIn_of_wp Try.func16 body16 trivial ?_ rfl)
  obtain ⟨a, ha⟩ : ∃ a : Act, a = { tmps := #[] ++ Array.replicate (Try.f16.ntmps - (#[] : Array Value).size) undef, defers := [] } := ⟨_, rfl⟩
  have hsz : a.tmps.size = 91 := by rw [ha]; simp [Try.ntmps16]
  have hdf : a.defers = [] := by rw [ha]
  rw [← ha]
  clear ha
  unfold code16
  refine wpIn_seq (region_p 1 ?_)
  intro K hK
  refine ListK.assign (i := 0) (v := .bool false) rfl (by simp) ?_
  refine ListK.done (hK _ _ ?_)
  clear hK K
  generalize hA : Act.put _ _ _ = a0
  have hz_a0 : a0.tmps.size = 91 := by rw [← hA]; simp only [size_put, hsz]
  have hd_a0 : a0.defers = [] := by rw [← hA]; simp only [defers_put, hdf]
  clear hA
  refine wpIn_seq (region_p 8 ?_)
  intro K hK
  refine ListK.call (i := 0) (vs := #[.slice none 0 0]) rfl (enters_of Try.func35 (by kernel_rfl) rfl) (by simp) (((four_nil W)).mono ?_)
  rintro _ W1 ⟨A, c, rfl, hs, hb1⟩
  refine ⟨_, rfl, ?_⟩
  refine ListK.call (i := 1) (vs := #[.agg #[.int .i64 4, .int .i64 10, .slice A fourL.length c], .int .i64 0]) rfl (enters_of Try.func29 (by kernel_rfl) rfl) (by simp [hz_a0]) (((wk_when hs)).mono ?_)
  rintro _ W2 ⟨rfl, hb2⟩
  refine ⟨_, rfl, ?_⟩
  refine ListK.move (i := 2) (v := .tuple #[.agg #[.int .i64 1, .int .i64 2], .int .i64 0]) rfl (by simp [hz_a0]) ?_
  refine ListK.extract (i := 3) (u := .tuple #[.agg #[.int .i64 1, .int .i64 2], .int .i64 0]) (v := .agg #[.int .i64 1, .int .i64 2]) rfl (by simp [hz_a0]) (ex0 _ _ _) ?_
  refine ListK.extract (i := 4) (u := .tuple #[.agg #[.int .i64 1, .int .i64 2], .int .i64 0]) (v := .int .i64 0) rfl (by simp [hz_a0]) (ex1 _ _ _) ?_
  refine ListK.alloc (i := 5) rfl (al46 W2) ?_
  refine ListK.store (i := 6) (u := .pointer (some ⟨W2.heap.size, 0, none⟩)) (u' := .agg #[.int .i64 1, .int .i64 2]) rfl (by simp [hz_a0]) (by simp [hz_a0]) sa46 ?_
  refine ListK.assign (i := 7) (v := .int .i64 0) rfl (by simp [hz_a0]) ?_
  refine ListK.done (hK _ _ ?_)
  clear hK K
  have hB1 : Below W.heap.size W W2 := hb1.trans (hb2.mono hb1.size)
  obtain ⟨w1, hb3⟩ := put46 W2 1 2
  have hB2 := hB1.trans (hb3.mono hB1.size)
  generalize W2.heap.size = p1 at *
  generalize ((W2.alloc (.cells #[.int .i64 0, .int .i64 0] 46)).setCell ⟨p1, 0, none⟩ (.int .i64 1)).setCell ⟨p1, 1, none⟩ (.int .i64 2) = W3 at *
  generalize hA : Act.put _ _ _ = a1
  have hz_a1 : a1.tmps.size = 91 := by rw [← hA]; simp only [size_put, hz_a0]
  have u1 : a1.eval (.tmp 1) = .pointer (some ⟨p1, 0, none⟩) := by rw [← hA]; exact (by simp [hz_a0])
  have u2 : a1.eval (.tmp 2) = .int .i64 0 := by rw [← hA]; exact (by simp [hz_a0])
  have hd_a1 : a1.defers = [] := by rw [← hA]; simp only [defers_put, hd_a0]
  clear hA
  clear hb1 hb2 hb3 hB1 hs A c W1 W2
  refine wpIn_seq (region_p 8 ?_)
  intro K hK
  refine ListK.call (i := 0) (vs := #[.slice none 0 0]) rfl (enters_of Try.func35 (by kernel_rfl) rfl) (by simp) (((four_nil W3)).mono ?_)
  rintro _ W4 ⟨A, c, rfl, hs, hb1⟩
  refine ⟨_, rfl, ?_⟩
  refine ListK.call (i := 1) (vs := #[.agg #[.int .i64 4, .int .i64 10, .slice A fourL.length c], .int .i64 3, .int .i64 4]) rfl (enters_of Try.func32 (by kernel_rfl) rfl) (by simp [hz_a1]) (((wk_holds hs)).mono ?_)
  rintro _ W5 ⟨rfl, hb2⟩
  refine ⟨_, rfl, ?_⟩
  refine ListK.move (i := 2) (v := .tuple #[.agg #[.int .i64 0, .int .i64 7], .int .i64 0]) rfl (by simp [hz_a1]) ?_
  refine ListK.extract (i := 3) (u := .tuple #[.agg #[.int .i64 0, .int .i64 7], .int .i64 0]) (v := .agg #[.int .i64 0, .int .i64 7]) rfl (by simp [hz_a1]) (ex0 _ _ _) ?_
  refine ListK.extract (i := 4) (u := .tuple #[.agg #[.int .i64 0, .int .i64 7], .int .i64 0]) (v := .int .i64 0) rfl (by simp [hz_a1]) (ex1 _ _ _) ?_
  refine ListK.alloc (i := 5) rfl (al46 W5) ?_
  refine ListK.store (i := 6) (u := .pointer (some ⟨W5.heap.size, 0, none⟩)) (u' := .agg #[.int .i64 0, .int .i64 7]) rfl (by simp [hz_a1]) (by simp [hz_a1]) sa46 ?_
  refine ListK.assign (i := 7) (v := .int .i64 0) rfl (by simp [hz_a1]) ?_
  refine ListK.done (hK _ _ ?_)
  clear hK K
  have hB1 : Below W3.heap.size W3 W5 := hb1.trans (hb2.mono hb1.size)
  obtain ⟨w3, hb3⟩ := put46 W5 0 7
  have hB3 := hB1.trans (hb3.mono hB1.size)
  replace w1 := w1.below hB3 w1.lt
  replace hB2 := hB2.trans (hB3.mono hB2.size)
  generalize W5.heap.size = p3 at *
  generalize ((W5.alloc (.cells #[.int .i64 0, .int .i64 0] 46)).setCell ⟨p3, 0, none⟩ (.int .i64 0)).setCell ⟨p3, 1, none⟩ (.int .i64 7) = W6 at *
  generalize hA : Act.put _ _ _ = a2
  have hz_a2 : a2.tmps.size = 91 := by rw [← hA]; simp only [size_put, hz_a1]
  have v1 : a2.eval (.tmp 1) = .pointer (some ⟨p1, 0, none⟩) := by rw [← hA]; exact (by simp [u1])
  have v2 : a2.eval (.tmp 2) = .int .i64 0 := by rw [← hA]; exact (by simp [u2])
  have v3 : a2.eval (.tmp 3) = .pointer (some ⟨p3, 0, none⟩) := by rw [← hA]; exact (by simp [hz_a1])
  have v4 : a2.eval (.tmp 4) = .int .i64 0 := by rw [← hA]; exact (by simp [hz_a1])
  have hd_a2 : a2.defers = [] := by rw [← hA]; simp only [defers_put, hd_a1]
  clear hA
  clear hb1 hb2 hb3 hB1 hB3 hs A c W3 W4 W5
  refine wpIn_seq (region_p 9 ?_)
  intro K hK
  refine ListK.call (i := 0) (vs := #[.slice none 0 0]) rfl (enters_of Try.func35 (by kernel_rfl) rfl) (by simp) (((four_nil W6)).mono ?_)
  rintro _ W7 ⟨A, c, rfl, hs, hb1⟩
  refine ⟨_, rfl, ?_⟩
  refine ListK.call (i := 1) (vs := #[.agg #[.int .i64 4, .int .i64 10, .slice A fourL.length c], .int .i64 2]) rfl (enters_of Try.func33 (by kernel_rfl) rfl) (by simp [hz_a2]) (((wk_reach hs)).mono ?_)
  rintro _ W8 ⟨vc, vs, rfl, hvc, hvs, hb2⟩
  refine ⟨_, rfl, ?_⟩
  refine ListK.move (i := 2) (v := .tuple #[vc, vs, .int .i64 0]) rfl (by simp [hz_a2]) ?_
  refine ListK.extract (i := 3) (u := .tuple #[vc, vs, .int .i64 0]) (v := vc) rfl (by simp [hz_a2]) (ex3_0 _ _ _ _) ?_
  refine ListK.extract (i := 4) (u := .tuple #[vc, vs, .int .i64 0]) (v := vs) rfl (by simp [hz_a2]) (ex3_1 _ _ _ _) ?_
  refine ListK.extract (i := 5) (u := .tuple #[vc, vs, .int .i64 0]) (v := .int .i64 0) rfl (by simp [hz_a2]) (ex3_2 _ _ _ _) ?_
  refine ListK.assign (i := 6) (v := vc) rfl (by simp [hz_a2]) ?_
  refine ListK.assign (i := 7) (v := vs) rfl (by simp [hz_a2]) ?_
  refine ListK.assign (i := 8) (v := .int .i64 0) rfl (by simp [hz_a2]) ?_
  refine ListK.done (hK _ _ ?_)
  clear hK K
  have hB3 : Below W6.heap.size W6 W8 := hb1.trans (hb2.mono hb1.size)
  replace w1 := w1.below hB3 w1.lt
  replace w3 := w3.below hB3 w3.lt
  replace hB2 := hB2.trans (hB3.mono hB2.size)
  generalize hA : Act.put _ _ _ = a3
  have hz_a3 : a3.tmps.size = 91 := by rw [← hA]; simp only [size_put, hz_a2]
  have q1 : a3.eval (.tmp 1) = .pointer (some ⟨p1, 0, none⟩) := by rw [← hA]; exact (by simp [v1])
  have q2 : a3.eval (.tmp 2) = .int .i64 0 := by rw [← hA]; exact (by simp [v2])
  have q3 : a3.eval (.tmp 3) = .pointer (some ⟨p3, 0, none⟩) := by rw [← hA]; exact (by simp [v3])
  have q4 : a3.eval (.tmp 4) = .int .i64 0 := by rw [← hA]; exact (by simp [v4])
  have q5 : a3.eval (.tmp 5) = vc := by rw [← hA]; exact (by simp [hz_a2])
  have q6 : a3.eval (.tmp 6) = vs := by rw [← hA]; exact (by simp [hz_a2])
  have q7 : a3.eval (.tmp 7) = .int .i64 0 := by rw [← hA]; exact (by simp [hz_a2])
  have hd_a3 : a3.defers = [] := by rw [← hA]; simp only [defers_put, hd_a2]
  clear hA
  clear hb1 hb2 hB3 hs A c W6 W7
  refine wpIn_seq (region_p 9 ?_)
  intro K hK
  refine ListK.call (i := 0) (vs := #[.int .i64 1, .int .i64 0, .int .i64 3, .int .i64 1, .int .i64 1]) rfl (enters_of Try.func37 (by kernel_rfl) rfl) (by simp) (((mksale_any _ _ _ _ _ W8)).mono ?_)
  rintro _ W9 ⟨rfl, hb0⟩
  refine ⟨_, rfl, ?_⟩
  refine ListK.bsl (i := 1) (ps := #[(0, saleV ⟨1, 0, 3, 1, 1⟩)]) (v := .slice (some ⟨W9.heap.size, 0, none⟩) 1 1) rfl (by simp [hz_a3]) (bs29_1v _ W9) ?_
  refine ListK.call (i := 2) (vs := #[.slice (some ⟨W9.heap.size, 0, none⟩) 1 1]) rfl (enters_of Try.func35 (by kernel_rfl) rfl) (by simp [hz_a3]) (((four_five W9.heap.size _ (Whole.new W9 61 _))).mono ?_)
  rintro _ W10 ⟨A, c, rfl, hs, hb1⟩
  refine ⟨_, rfl, ?_⟩
  refine ListK.call (i := 3) (vs := #[.agg #[.int .i64 4, .int .i64 10, .slice A fiveL.length c]]) rfl (enters_of Try.func24 (by kernel_rfl) rfl) (by simp [hz_a3]) (((wk_blame hs)).mono ?_)
  rintro _ W11 ⟨vl, rfl, hvl, hb2⟩
  refine ⟨_, rfl, ?_⟩
  refine ListK.move (i := 4) (v := .tuple #[vl, .int .i64 0]) rfl (by simp [hz_a3]) ?_
  refine ListK.extract (i := 5) (u := .tuple #[vl, .int .i64 0]) (v := vl) rfl (by simp [hz_a3]) (ex0 _ _ _) ?_
  refine ListK.extract (i := 6) (u := .tuple #[vl, .int .i64 0]) (v := .int .i64 0) rfl (by simp [hz_a3]) (ex1 _ _ _) ?_
  refine ListK.assign (i := 7) (v := vl) rfl (by simp [hz_a3]) ?_
  refine ListK.assign (i := 8) (v := .int .i64 0) rfl (by simp [hz_a3]) ?_
  refine ListK.done (hK _ _ ?_)
  clear hK K
  have hB3 : Below W8.heap.size W8 W11 := ((hb0.alloc hb0.size _).trans (hb1.mono (by have := hb0.size; simp; omega))).trans (hb2.mono (by have := hb0.size; have := hb1.size; simp at this; omega))
  replace w1 := w1.below hB3 w1.lt
  replace w3 := w3.below hB3 w3.lt
  replace hvc := hvc.below hB3
  replace hvs := hvs.below hB3
  replace hB2 := hB2.trans (hB3.mono hB2.size)
  generalize hA : Act.put _ _ _ = a4
  have hz_a4 : a4.tmps.size = 91 := by rw [← hA]; simp only [size_put, hz_a3]
  have x1 : a4.eval (.tmp 1) = .pointer (some ⟨p1, 0, none⟩) := by rw [← hA]; exact (by simp [q1])
  have x2 : a4.eval (.tmp 2) = .int .i64 0 := by rw [← hA]; exact (by simp [q2])
  have x3 : a4.eval (.tmp 3) = .pointer (some ⟨p3, 0, none⟩) := by rw [← hA]; exact (by simp [q3])
  have x4 : a4.eval (.tmp 4) = .int .i64 0 := by rw [← hA]; exact (by simp [q4])
  have x5 : a4.eval (.tmp 5) = vc := by rw [← hA]; exact (by simp [q5])
  have x6 : a4.eval (.tmp 6) = vs := by rw [← hA]; exact (by simp [q6])
  have x7 : a4.eval (.tmp 7) = .int .i64 0 := by rw [← hA]; exact (by simp [q7])
  have x8 : a4.eval (.tmp 8) = vl := by rw [← hA]; exact (by simp [hz_a3])
  have x9 : a4.eval (.tmp 9) = .int .i64 0 := by rw [← hA]; exact (by simp [hz_a3])
  have hd_a4 : a4.defers = [] := by rw [← hA]; simp only [defers_put, hd_a3]
  clear hA
  clear hb0 hb1 hb2 hB3 hs A c W8 W9 W10
  refine wpIn_seq (region_p 9 ?_)
  intro K hK
  refine ListK.call (i := 0) (vs := #[.slice none 0 0]) rfl (enters_of Try.func35 (by kernel_rfl) rfl) (by simp) (((four_nil W11)).mono ?_)
  rintro _ W12 ⟨A, c, rfl, hs, hb1⟩
  refine ⟨_, rfl, ?_⟩
  refine ListK.call (i := 1) (vs := #[.agg #[.int .i64 4, .int .i64 10, .slice A fourL.length c]]) rfl (enters_of Try.func23 (by kernel_rfl) rfl) (by simp [hz_a4]) (((wk_order hs)).mono ?_)
  rintro _ W13 ⟨vo, vd, xs, ds, rfl, hvo, hvd, hpr, hb2⟩
  refine ⟨_, rfl, ?_⟩
  refine ListK.move (i := 2) (v := .tuple #[vo, vd, .int .i64 0]) rfl (by simp [hz_a4]) ?_
  refine ListK.extract (i := 3) (u := .tuple #[vo, vd, .int .i64 0]) (v := vo) rfl (by simp [hz_a4]) (ex3_0 _ _ _ _) ?_
  refine ListK.extract (i := 4) (u := .tuple #[vo, vd, .int .i64 0]) (v := vd) rfl (by simp [hz_a4]) (ex3_1 _ _ _ _) ?_
  refine ListK.extract (i := 5) (u := .tuple #[vo, vd, .int .i64 0]) (v := .int .i64 0) rfl (by simp [hz_a4]) (ex3_2 _ _ _ _) ?_
  refine ListK.assign (i := 6) (v := vo) rfl (by simp [hz_a4]) ?_
  refine ListK.assign (i := 7) (v := vd) rfl (by simp [hz_a4]) ?_
  refine ListK.assign (i := 8) (v := .int .i64 0) rfl (by simp [hz_a4]) ?_
  refine ListK.done (hK _ _ ?_)
  clear hK K
  have hB3 : Below W11.heap.size W11 W13 := hb1.trans (hb2.mono hb1.size)
  replace w1 := w1.below hB3 w1.lt
  replace w3 := w3.below hB3 w3.lt
  replace hvc := hvc.below hB3
  replace hvs := hvs.below hB3
  replace hvl := hvl.below hB3
  replace hB2 := hB2.trans (hB3.mono hB2.size)
  generalize hA : Act.put _ _ _ = a5
  have hz_a5 : a5.tmps.size = 91 := by rw [← hA]; simp only [size_put, hz_a4]
  have y1 : a5.eval (.tmp 1) = .pointer (some ⟨p1, 0, none⟩) := by rw [← hA]; exact (by simp [x1])
  have y2 : a5.eval (.tmp 2) = .int .i64 0 := by rw [← hA]; exact (by simp [x2])
  have y3 : a5.eval (.tmp 3) = .pointer (some ⟨p3, 0, none⟩) := by rw [← hA]; exact (by simp [x3])
  have y4 : a5.eval (.tmp 4) = .int .i64 0 := by rw [← hA]; exact (by simp [x4])
  have y5 : a5.eval (.tmp 5) = vc := by rw [← hA]; exact (by simp [x5])
  have y6 : a5.eval (.tmp 6) = vs := by rw [← hA]; exact (by simp [x6])
  have y7 : a5.eval (.tmp 7) = .int .i64 0 := by rw [← hA]; exact (by simp [x7])
  have y8 : a5.eval (.tmp 8) = vl := by rw [← hA]; exact (by simp [x8])
  have y9 : a5.eval (.tmp 9) = .int .i64 0 := by rw [← hA]; exact (by simp [x9])
  have y10 : a5.eval (.tmp 10) = vo := by rw [← hA]; exact (by simp [hz_a4])
  have y11 : a5.eval (.tmp 11) = vd := by rw [← hA]; exact (by simp [hz_a4])
  have y12 : a5.eval (.tmp 12) = .int .i64 0 := by rw [← hA]; exact (by simp [hz_a4])
  have hd_a5 : a5.defers = [] := by rw [← hA]; simp only [defers_put, hd_a4]
  clear hA
  clear hb1 hb2 hB3 hs A c W11 W12
  refine wpIn_seq (regionU6 (wideF_plain _) hz_a5 y1 y2 y3 y4 y5 y6 y7 y8 y9 y10 y11 y12 (w1.cell 0) (w1.cell 1) (w3.cell 0) (w3.cell 1) hvc hvs hvl (fun A c W' hb hs => wk_prove hvo hvd hpr hb hs) ?_)
  intro a6 W14 hb hz6 hd6 h0
  refine wpIn_ret ?_
  show bodyPost Try.prog Try.f16 (fun e w' => e = .returned (.bool true) ∧ Below W.heap.size W w') Exit.ret _ _
  exact bodyPost_ret (v := .bool true) (res1 Try.results16 h0) (hd6.trans hd_a5) ⟨rfl, hB2.trans (hb.mono hB2.size)⟩
end Go.Proofs.Ytfcnombmphophaa
namespace Go.Proofs.Ytfcnombmphophaa
open Go.RowKit Go.Shelf
section
variable {P : Program} {ops : Array Oper} {Q : Exit → Act → World → Prop} {md : Region.Mode}
/-- How many operations are not listed yet. -/
def leftOf (listed : Array Bool) : Nat → Nat
  | 0 => 0
  | k + 1 => leftOf listed k + if listed.getD k true = false then 1 else 0
theorem leftOf_set {listed : Array Bool} {i : Nat} (h : listed.getD i true = false) : ∀ k, leftOf (listed.setIfInBounds i true) k + (if i < k then 1 else 0) = leftOf listed k
  | 0 => rfl
  | k + 1 => by
    have ih := leftOf_set h k
    have hi : i < listed.size := by
      by_cases hlt : i < listed.size
      · exact hlt
      · simp [hlt] at h
    have hu : ∀ A : Array Bool, leftOf A (k + 1) = leftOf A k + if A.getD k true = false then 1 else 0 := fun _ => rfl
    rw [hu, hu]
    by_cases e : k = i
    · subst e
      have e1 : (if k < k then 1 else 0) = 0 := if_neg (by omega)
      have e2 : (if k < k + 1 then 1 else 0) = 1 := if_pos (by omega)
      have e3 : (if (listed.setIfInBounds k true).getD k true = false then 1 else 0) = 0 := if_neg (by simp [hi])
      have e4 : (if listed.getD k true = false then 1 else 0) = 1 := if_pos h
      omega
    · have e0 : (listed.setIfInBounds i true).getD k true = listed.getD k true := by
        simp [Ne.symm e, Array.getD_eq_getD_getElem?]
      rw [e0]
      by_cases h2 : i < k
      · have e1 : (if i < k then 1 else 0) = 1 := if_pos h2
        have e2 : (if i < k + 1 then 1 else 0) = 1 := if_pos (by omega)
        omega
      · have e1 : (if i < k then 1 else 0) = 0 := if_neg h2
        have e2 : (if i < k + 1 then 1 else 0) = 0 := if_neg (by omega)
        omega
theorem AnyG.inv {Kp : Nat → World → World → Prop} (S : Array Bool → Act → World → Prop)
    (hstep : ∀ listed a w i, S listed a w → i ∈ Region.ready md ops listed → opG P ops Q i (fun a' w' => Kp i w w' ∧ S (listed.setIfInBounds i true) a' w') a w)
    (hdone : ∀ listed a w, S listed a w → Region.ready md ops listed = [] → Q .normal a w) : ∀ (fuel : Nat) (listed : Array Bool) (a : Act) (w : World), S listed a w → leftOf listed ops.size ≤ fuel → AnyG P md ops Q Kp fuel listed a w
  | 0, listed, a, w, hS, hf => by
    have hr : Region.ready md ops listed = [] := by
      cases h : Region.ready md ops listed with
      | nil => rfl
      | cons i r =>
        have hi : i ∈ Region.ready md ops listed := by rw [h]; exact List.mem_cons_self
        obtain ⟨h1, o, ho, _⟩ := mem_ready.1 hi
        have := leftOf_set h1 ops.size
        rw [if_pos (Array.getElem?_eq_some_iff.1 ho).1] at this
        omega
    exact ⟨hr, hdone _ _ _ hS hr⟩
  | fuel + 1, listed, a, w, hS, hf => by
    refine ⟨hdone _ _ _ hS, fun i hi => ?_⟩
    obtain ⟨h1, o, ho, _⟩ := mem_ready.1 hi
    have hl := leftOf_set h1 ops.size
    rw [if_pos (Array.getElem?_eq_some_iff.1 ho).1] at hl
    refine opG_mono ?_ (hstep listed a w i hS hi)
    rintro a' w' ⟨hk, hS'⟩
    exact ⟨hk, AnyG.inv S hstep hdone fuel _ a' w' hS' (by omega)⟩
end

/-- The words on the slots: number by number. -/
abbrev Words := List (Value → World → Prop)
def Words.at_ (L : Words) (i : Nat) : Value → World → Prop := (L[i]?).getD (fun _ _ => True)
def StableW (p : Value → World → Prop) : Prop := ∀ v w w', p v w → Below w.heap.size w w' → p v w'
/-- The slots that the operations write: all, once each. -/
def dstsB (ops : Array Oper) (N : Nat) : Bool := (List.range ops.size).all fun i => match ops[i]? with
  | some o => (match o.dst with | some d => decide (d < N) && (List.range ops.size).all (fun j => j == i || match ops[j]? with | some oj => oj.dst != some d | none => true) | none => false)
  | none => true
theorem dsts_spec {ops : Array Oper} {N i : Nat} {o : Oper} (h : dstsB ops N = true) (hi : ops[i]? = some o) : ∃ d, o.dst = some d ∧ d < N ∧ ∀ j oj, ops[j]? = some oj → j ≠ i → oj.dst ≠ some d := by
  have h1 := List.all_eq_true.1 h i (List.mem_range.2 (Array.getElem?_eq_some_iff.1 hi).1)
  simp only [hi] at h1
  cases hd : o.dst with
  | none => simp [hd] at h1
  | some d =>
    simp only [hd, Bool.and_eq_true, decide_eq_true_eq] at h1
    refine ⟨d, rfl, h1.1, fun j oj hj hne => ?_⟩
    have h2 := List.all_eq_true.1 h1.2 j (List.mem_range.2 (Array.getElem?_eq_some_iff.1 hj).1)
    simp only [hj, Bool.or_eq_true, beq_iff_eq, bne_iff_ne] at h2
    rcases h2 with h2 | h2
    · exact absurd h2 hne
    · exact h2

section
variable {P : Program} {ops : Array Oper} {L : Words}
/-- What an operation that is carried out must leave. -/
def OpW (P : Program) (p : Value → World → Prop) (o : Oper) (d : Nat) (a : Act) (w : World) : Prop :=
  o.wp P a w (fun a' w' => ∃ v, a' = a.put (some d) v ∧ p v w' ∧ Below w.heap.size w w') (fun _ _ _ => False)
def OpS (P : Program) (ops : Array Oper) (p : Value → World → Prop) (o : Oper) (d : Nat) (a : Act) (w : World) : Prop :=
  if Region.wanted o (yielded ops a.tmps) = true then OpW P p o d a w else p undef w
/-- An operation keeps its word, if those for which it waits keep theirs. -/
def OpOk (P : Program) (ops : Array Oper) (L : Words) (N : Nat) (a0 : Act) (w0 : World) (i : Nat) : Prop :=
  ∀ (o : Oper) (d : Tmp), ops[i]? = some o → o.dst = some d → ∀ (a : Act) (w : World), a.tmps.size = N → Below w0.heap.size w0 w → (∀ e : Tmp, (∀ (j : Nat) (oj : Oper), ops[j]? = some oj → oj.dst ≠ some e) → a.eval (.tmp e) = a0.eval (.tmp e)) →
    (∀ (j : Nat) (oj : Oper) (dj : Tmp), ops[j]? = some oj → oj.dst = some dj → waitsB .any o j = true → L.at_ j (a.eval (.tmp dj)) w) → OpS P ops (L.at_ i) o d a w
structure SInv (ops : Array Oper) (L : Words) (N : Nat) (a0 : Act) (w0 : World) (listed : Array Bool) (a : Act) (w : World) : Prop where
  sz : a.tmps.size = N
  df : a.defers = a0.defers
  low : Below w0.heap.size w0 w
  ls : listed.size = ops.size
  rest : ∀ e : Tmp, (∀ (j : Nat) (oj : Oper), ops[j]? = some oj → oj.dst ≠ some e) → a.eval (.tmp e) = a0.eval (.tmp e)
  slots : ∀ (j : Nat) (oj : Oper) (dj : Tmp), ops[j]? = some oj → oj.dst = some dj → listed[j]? = some true → L.at_ j (a.eval (.tmp dj)) w

theorem SInv.step {N : Nat} {a0 : Act} {w0 : World} {Q : Exit → Act → World → Prop} (hd : dstsB ops N = true) (hst : ∀ i, StableW (L.at_ i)) (hop : ∀ i, i < ops.size → OpOk P ops L N a0 w0 i)
    (hQ : LetsOut (fun _ _ _ => False) → LetsOut Q) {listed : Array Bool} {a : Act} {w : World} {i : Nat} (hS : SInv ops L N a0 w0 listed a w) (hi : i ∈ Region.ready .any ops listed) :
    opG P ops Q i (fun a' w' => True ∧ SInv ops L N a0 w0 (listed.setIfInBounds i true) a' w') a w := by
  obtain ⟨h1, o, ho, hall⟩ := mem_ready.1 hi
  obtain ⟨d, hod, hdN, hdu⟩ := dsts_spec hd ho
  have hlt := (Array.getElem?_eq_some_iff.1 ho).1
  have hdeps : ∀ j oj dj, ops[j]? = some oj → oj.dst = some dj → waitsB .any o j = true → L.at_ j (a.eval (.tmp dj)) w := by
    intro j oj dj hj hdj hw
    obtain ⟨e, he, hb, rfl⟩ := waits_iff.1 hw
    have h2 := hall e he hb
    refine hS.slots _ oj dj hj hdj ?_
    have hlt2 := (Array.getElem?_eq_some_iff.1 hj).1
    rw [← hS.ls] at hlt2
    simp [hlt2] at h2 ⊢
    exact h2
  have hok := hop i hlt o d ho hod a w hS.sz hS.low hS.rest hdeps
  have hput : ∀ v w', L.at_ i v w' → Below w.heap.size w w' → SInv ops L N a0 w0 (listed.setIfInBounds i true) (a.put (some d) v) w' := by
    intro v w' hv hb
    refine ⟨by rw [size_put]; exact hS.sz, by rw [defers_put]; exact hS.df, hS.low.trans (hb.mono hS.low.size), by simp [hS.ls], fun e he => ?_, fun j oj dj hj hdj hl => ?_⟩
    · rw [ev_ne (by rintro rfl; exact he i o ho hod)]
      exact hS.rest e he
    · by_cases e : j = i
      · subst e
        rw [ho] at hj
        cases hj
        rw [hod] at hdj
        cases hdj
        rw [ev_same (by rw [hS.sz]; exact hdN)]
        exact hv
      · have hne : dj ≠ d := by
          rintro rfl
          exact hdu j oj hj e hdj
        rw [ev_ne hne]
        have hl' : listed[j]? = some true := by
          rw [Array.getElem?_setIfInBounds, if_neg (Ne.symm e)] at hl
          exact hl
        exact hst j _ _ _ (hS.slots j oj dj hj hdj hl') hb
  unfold OpS at hok
  unfold opG
  simp only [ho]
  split
  · rename_i hw
    rw [if_pos hw] at hok
    unfold OpW at hok
    unfold Oper.wp at *
    generalize (execOp a.eval o).run P w = r at *
    cases r with
    | ok x w' =>
      cases x <;> simp only [Oper.upon] at hok ⊢ <;>
        first
          | (obtain ⟨v, e1, e2, e3⟩ := hok
             rw [e1]
             exact ⟨trivial, hput v _ e2 e3⟩)
          | (refine Calls.mono hok (fun e w'' he => ?_)
             cases e with
             | returned u =>
               obtain ⟨v, e1, e2, e3⟩ := he
               show True ∧ SInv ops L N a0 w0 _ (a.put o.dst u) w''
               rw [e1]
               exact ⟨trivial, hput v _ e2 e3⟩
             | panicked c => exact he.elim
             | outgrown => exact hQ he)
          | (refine Rows.mono hok (fun u w'' he => ?_)
             obtain ⟨v, e1, e2, e3⟩ := he
             rw [e1]
             exact ⟨trivial, hput v _ e2 e3⟩)
          | exact hok.elim
    | halt x w' => cases x <;> simp only [Oper.upon] at hok ⊢
  · rename_i hw
    rw [if_neg hw] at hok
    rw [hod]
    exact ⟨trivial, hput _ _ hok (Below.refl _ _)⟩
end
/-- Each operation waits for elder ones alone. -/
def forwardB (ops : Array Oper) : Bool := (List.range ops.size).all fun i => match ops[i]? with
  | some o => o.after.all fun e => !Region.binds .any e || decide (e.on < i)
  | none => true
theorem forward_spec {ops : Array Oper} (h : forwardB ops = true) {i : Nat} {o : Oper} (hi : ops[i]? = some o) : ∀ e ∈ o.after, Region.binds .any e = true → e.on < i := by
  intro e he hb
  have h1 := List.all_eq_true.1 h i (List.mem_range.2 (Array.getElem?_eq_some_iff.1 hi).1)
  simp only [hi] at h1
  rw [Array.all_eq_true'] at h1
  have h2 := h1 e he
  simp only [hb, Bool.not_true, Bool.false_or, decide_eq_true_eq] at h2
  exact h2
theorem all_listed {ops : Array Oper} (h : forwardB ops = true) {listed : Array Bool} (hl : listed.size = ops.size) (hr : Region.ready .any ops listed = []) : ∀ i, i < ops.size → listed[i]? = some true := by
  intro i
  induction i using Nat.strongRecOn with
  | _ i ih =>
    intro hi
    have ho : ops[i]? = some ops[i] := Array.getElem?_eq_getElem hi
    have hli : i < listed.size := by omega
    cases hv : listed[i] with
    | true => rw [Array.getElem?_eq_getElem hli, hv]
    | false =>
      have : i ∈ Region.ready .any ops listed := by
        refine mem_ready.2 ⟨by simp [hli, hv], ops[i], ho, fun e he hb => ?_⟩
        have h1 := forward_spec h ho e he hb
        have h2 := ih e.on h1 (by omega)
        simp [Array.getD_eq_getD_getElem?, h2]
      rw [hr] at this
      cases this
/-- No operation writes slot e. -/
def ndstB (ops : Array Oper) (e : Nat) : Bool := ops.all fun o => o.dst != some e
theorem ndst_spec {ops : Array Oper} {e : Nat} (h : ndstB ops e = true) : ∀ (j : Nat) (oj : Oper), ops[j]? = some oj → oj.dst ≠ some e := by
  intro j oj hj
  unfold ndstB at h
  have := (Array.all_eq_true.1 h) j (Array.getElem?_eq_some_iff.1 hj).1
  obtain ⟨hlt, he⟩ := Array.getElem?_eq_some_iff.1 hj
  rw [he] at this
  simpa using this
/-- All of the first k operations keep their words. -/
def OpsOk (P : Program) (ops : Array Oper) (L : Words) (N : Nat) (a0 : Act) (w0 : World) : Nat → Prop
  | 0 => True
  | k + 1 => OpsOk P ops L N a0 w0 k ∧ OpOk P ops L N a0 w0 k
theorem OpsOk.at_ {P : Program} {ops : Array Oper} {L : Words} {N : Nat} {a0 : Act} {w0 : World} : ∀ {k : Nat}, OpsOk P ops L N a0 w0 k → ∀ i, i < k → OpOk P ops L N a0 w0 i
  | k + 1, h, i, hi => by
    by_cases e : i = k
    · subst e
      exact h.2
    · exact OpsOk.at_ h.1 i (by omega)
def AllS : Words → Prop
  | [] => True
  | p :: L => StableW p ∧ AllS L
theorem AllS.at_ : ∀ {L : Words}, AllS L → ∀ i, StableW (L.at_ i)
  | [], _, i => fun _ _ _ h _ => by simp [Words.at_]
  | p :: L, h, 0 => h.1
  | p :: L, h, i + 1 => AllS.at_ h.2 i

section
variable {P : Program} {ops : Array Oper} {Q : Exit → Act → World → Prop} {a : Act} {w : World}
theorem region_S {F : Fence} {n id : Nat} (L : Words) (N : Nat) (hF : WideF F P) (hnd : Region.noDefer ops = true) (hm : P.follows .mixedOrders = true) (hds : dstsB ops N = true) (hfw : forwardB ops = true) (hst : AllS L) (hsz : a.tmps.size = N)
    (k : Nat) (hk : ops.size = k) (hop : OpsOk P ops L N a w.drew k)
    (hK : ∀ (a' : Act) (w' : World), a'.tmps.size = N → a'.defers = a.defers → Below w.heap.size w w' → (∀ e, ndstB ops e = true → a'.eval (.tmp e) = a.eval (.tmp e)) → (∀ (j d : Nat), (ops[j]?).bind (·.dst) = some d → L.at_ j (a'.eval (.tmp d)) w') → Q .normal a' w') :
    (Code.region id ops true).wpIn F n P Q a w := by
  refine region_K (fun _ _ _ => True) hF hnd hm ?_
  refine AnyG.inv (SInv ops L N a w.drew) ?_ ?_ _ _ _ _ ?_ ?_
  · intro listed a' w' i hS hi
    exact SInv.step hds hst.at_ (fun i hi => hop.at_ i (by omega)) (fun ⟨_, _, h⟩ => h.elim) hS hi
  · intro listed a' w' hS hr
    have hall := all_listed hfw hS.ls hr
    have hb : Below w.heap.size w w' := (Below.refl w.heap.size w).drew.trans hS.low
    refine hK a' w' hS.sz hS.df hb (fun e he => hS.rest e (ndst_spec he)) (fun j d hj => ?_)
    rw [Option.bind_eq_some_iff] at hj
    obtain ⟨oj, h1, h2⟩ := hj
    exact hS.slots j oj d h1 h2 (hall j (Array.getElem?_eq_some_iff.1 h1).1)
  · refine ⟨hsz, rfl, Below.refl _ _, by simp, fun _ _ => rfl, fun j oj dj _ _ hl => ?_⟩
    simp [Array.getElem?_replicate] at hl
  · have : ∀ (m k : Nat), leftOf (Array.replicate m false) k ≤ k := by
      intro m k
      induction k with
      | zero => exact Nat.le_refl _
      | succ k ih =>
        unfold leftOf
        split <;> omega
    exact this _ _
end

section
variable {P : Program} {ops : Array Oper} {L : Words} {N : Nat} {a0 : Act} {w0 : World} {i d : Nat} {ty : TypeId} {pos : String} {aft : Array Edge} {gd : Option (Nat × Bool)}
/-- What is known when operation i comes up. -/
structure Dp (ops : Array Oper) (L : Words) (N : Nat) (a0 : Act) (w0 : World) (i : Nat) (a : Act) (w : World) : Prop where
  sz : a.tmps.size = N
  low : Below w0.heap.size w0 w
  out : ∀ e, ndstB ops e = true → a.eval (.tmp e) = a0.eval (.tmp e)
  dep : ∀ (j d : Nat), (ops[j]?).bind (·.dst) = some d → (ops[i]?).map (fun o => waitsB .any o j) = some true → L.at_ j (a.eval (.tmp d)) w
/-- By the guard: A, or B. -/
def Gd (ops : Array Oper) (gd : Option (Nat × Bool)) (a : Act) (A B : Prop) : Prop := match gd with
  | none => A
  | some (j, b) => ∃ e c, (ops[j]?).bind (·.dst) = some e ∧ a.eval (.tmp e) = .bool c ∧ ((c == b) = true → A) ∧ ((c == b) = false → B)
theorem OpOk.gen {op : Op} (hi : ops[i]? = some ⟨some d, op, ty, pos, aft, gd⟩) (h : ∀ a w, Dp ops L N a0 w0 i a w → Gd ops gd a (OpW P (L.at_ i) ⟨some d, op, ty, pos, aft, gd⟩ d a w) (L.at_ i undef w)) : OpOk P ops L N a0 w0 i := by
  intro o d' ho hod a w hz hb hr hdep
  rw [hi] at ho
  cases ho
  cases hod
  have hg := h a w ⟨hz, hb, fun e he => hr e (ndst_spec he), fun j dj hj hw => by
    rw [Option.bind_eq_some_iff] at hj
    obtain ⟨oj, h1, h2⟩ := hj
    rw [hi] at hw
    simp at hw
    exact hdep j oj dj h1 h2 hw⟩
  unfold OpS
  cases gd with
  | none =>
    rw [if_pos (show Region.wanted _ _ = true from rfl)]
    exact hg
  | some jb =>
    obtain ⟨j, b⟩ := jb
    obtain ⟨e, c, h1, h2, h3, h4⟩ := hg
    have hw : Region.wanted ⟨some d, op, ty, pos, aft, some (j, b)⟩ (yielded ops a.tmps) = (c == b) := wanted_g h1 h2 rfl
    rw [hw]
    split
    · rename_i hc
      exact h3 hc
    · rename_i hc
      exact h4 (by simpa using hc)
variable {a : Act} {w w' : World} {p : Value → World → Prop} {v : Value}
theorem OpW.val {o : Oper} (hd : o.dst = some d) (hr : (execOp a.eval o).run P w = .ok (.value v) w') (hp : p v w') (hb : Below w.heap.size w w') : OpW P p o d a w := by
  unfold OpW
  simp only [Oper.wp, hr, Oper.upon, hd]
  exact ⟨v, rfl, hp, hb⟩
theorem OpW.move {x : Operand} (hx : a.eval x = v) (hp : p v w) : OpW P p ⟨some d, .move x, ty, pos, aft, gd⟩ d a w := OpW.val rfl (by simp [execOp, hx]) hp (Below.refl _ _)
theorem OpW.assign {x : Operand} (hx : a.eval x = v) (hp : p v w) : OpW P p ⟨some d, .assign x, ty, pos, aft, gd⟩ d a w := OpW.val rfl (by simp [execOp, hx]) hp (Below.refl _ _)
theorem OpW.load {t : TypeId} {x : Operand} {ad : Addr} (hx : a.eval x = .pointer (some ad)) (hv : (Instr.loadAt t (.pointer (some ad))).run P w = .ok v w) (hp : p v w) : OpW P p ⟨some d, .load t x, ty, pos, aft, gd⟩ d a w :=
  OpW.val rfl (by simp [execOp, hx, hv]) hp (Below.refl _ _)
theorem OpW.field {t : TypeId} {x : Operand} {f : Nat} {u : Value} (hx : a.eval x = u) (hv : (Instr.fieldAt t u f).run P w = .ok v w) (hp : p v w) : OpW P p ⟨some d, .fieldAddr t x f, ty, pos, aft, gd⟩ d a w :=
  OpW.val rfl (by simp [execOp, hx, hv]) hp (Below.refl _ _)
theorem OpW.index {t : TypeId} {x y : Operand} {u u' : Value} (hx : a.eval x = u) (hy : a.eval y = u') (hv : (Instr.indexAt t u u').run P w = .ok v w) (hp : p v w) : OpW P p ⟨some d, .indexAddr t x y, ty, pos, aft, gd⟩ d a w :=
  OpW.val rfl (by simp [execOp, hx, hy, hv]) hp (Below.refl _ _)
theorem OpW.bin {b : BinOp} {t t' : TypeId} {x y : Operand} {u u' : Value} (hx : a.eval x = u) (hy : a.eval y = u') (hv : (do eqGuard b t x y u u'; binOp b t u u' : Sem Value).run P w = .ok v w) (hp : p v w) : OpW P p ⟨some d, .binOp b t x y t', ty, pos, aft, gd⟩ d a w :=
  OpW.val rfl (by
    simp only [execOp, hx, hy]
    have := hv
    simp only [Sem.run_bind] at this ⊢
    rw [this]
    simp) hp (Below.refl _ _)
theorem OpW.un {b : UnOp} {t : TypeId} {x : Operand} {u : Value} (hx : a.eval x = u) (hv : (Op.unary b u).run P w = .ok v w) (hp : p v w) : OpW P p ⟨some d, .unOp b t x, ty, pos, aft, gd⟩ d a w :=
  OpW.val rfl (by simp [execOp, hx, hv]) hp (Below.refl _ _)
theorem OpW.pick {c x y : Operand} {b : Bool} (hc : a.eval c = .bool b) (hp : p (if b then a.eval x else a.eval y) w) : OpW P p ⟨some d, .pick c x y, ty, pos, aft, gd⟩ d a w :=
  OpW.val rfl (by simp [execOp, hc, asBool]) hp (Below.refl _ _)
theorem OpW.extract {x : Operand} {m : Nat} {u : Value} (hx : a.eval x = u) (hv : (Instr.extract u m).run P w = .ok v w) (hp : p v w) : OpW P p ⟨some d, .extract x m, ty, pos, aft, gd⟩ d a w :=
  OpW.val rfl (by simp [execOp, hx, hv]) hp (Below.refl _ _)
theorem OpW.bld {t : TypeId} {parts : Array (Nat × Operand)} {ps : Array (Nat × Value)} (hp : parts.map (fun (i, x) => (i, a.eval x)) = ps) (hv : (Instr.build t ps).run P w = .ok v w) (hq : p v w) : OpW P p ⟨some d, .build t parts, ty, pos, aft, gd⟩ d a w :=
  OpW.val rfl (by simp only [execOp, hp]; simp [hv]) hq (Below.refl _ _)
theorem OpW.bsl {t : TypeId} {m : Nat} {parts : Array (Nat × Operand)} {ps : Array (Nat × Value)} (hp : parts.map (fun (i, x) => (i, a.eval x)) = ps) (hv : (Instr.buildSlice t m ps).run P w = .ok v w') (hq : p v w') (hb : Below w.heap.size w w') : OpW P p ⟨some d, .buildSlice t m parts, ty, pos, aft, gd⟩ d a w :=
  OpW.val rfl (by simp only [execOp, hp]; simp [hv]) hq hb
theorem OpW.len {x : Operand} {tys : Array TypeId} {u : Value} (hx : a.eval x = u) (hv : (builtin .len tys ty #[false] #[u]).run P w = .ok (.value v) w) (hc : (match x with | .const _ => true | _ => false) = false) (hp : p v w) : OpW P p ⟨some d, .call { callee := .builtin .len, args := #[x], argTypes := tys }, ty, pos, aft, gd⟩ d a w :=
  OpW.val rfl (by cases x <;> simp_all [execOp, resolve, invoke]) hp (Below.refl _ _)
theorem OpW.call {f : FuncId} {args : Array Operand} {tys : Array TypeId} {vs : Array Value} (he : ∀ args w, (callFunc f args).run P w = .ok (.enter f args) w) (hp : args.map a.eval = vs)
    (h : Calls P f vs w fun e w' => ∃ v, e = .returned v ∧ p v w' ∧ Below w.heap.size w w') : OpW P p ⟨some d, .call { callee := .value (.func f), args := args, argTypes := tys }, ty, pos, aft, gd⟩ d a w := by
  unfold OpW
  simp only [Oper.wp, execOp, resolve, hp, Act.eval, Deferred.ofValue]
  simp [invoke, he, Oper.upon]
  refine h.mono ?_
  rintro e w' ⟨v, rfl, h1, h2⟩
  exact ⟨v, rfl, h1, h2⟩
theorem gd_none {A B : Prop} (h : A) : Gd ops none a A B := h
theorem gd_false {A B : Prop} {j e : Nat} {b c : Bool} (hj : (ops[j]?).bind (·.dst) = some e) (he : a.eval (.tmp e) = .bool c) (hn : (c == b) = false) (h : B) : Gd ops (some (j, b)) a A B := ⟨e, c, hj, he, fun h2 => (by rw [hn] at h2; cases h2), fun _ => h⟩
theorem Dp.cell (H : Dp ops L N a0 w0 i a w) {q : Addr} {u : Value} (hc : w0.cell? q = some u) : w.cell? q = some u := (H.low.cell (block_lt_of_cell hc)).trans hc
theorem gd_true {A B : Prop} {j e : Nat} {b : Bool} (hj : (ops[j]?).bind (·.dst) = some e) (he : a.eval (.tmp e) = .bool b) (h : A) : Gd ops (some (j, b)) a A B := ⟨e, b, hj, he, fun _ => h, fun h => by simp at h⟩
end
end Go.Proofs.Ytfcnombmphophaa
namespace Go.Proofs.Ytfcnombmphophaa
open Go.RowKit Go.Shelf
section
variable {P : Program} {ops : Array Oper} {L : Words} {N : Nat} {a0 : Act} {w0 : World}
/-- Each operation waits for those of which it knows something, and for elder ones alone: a plain region is one of the orders. -/
theorem SInv.list (hd : dstsB ops N = true) (hfw : forwardB ops = true) (hst : ∀ i, StableW (L.at_ i)) (K : Act → World → Prop) : ∀ (k i : Nat), i + k = ops.size → (hop : ∀ i, i < ops.size → OpOk P ops L N a0 w0 i) →
    (hK : ∀ a w, (∃ listed, SInv ops L N a0 w0 listed a w ∧ ∀ j, j < ops.size → listed[j]? = some true) → K a w) → ∀ (listed : Array Bool) (a : Act) (w : World), SInv ops L N a0 w0 listed a w → (∀ j, j < ops.size → listed[j]? = some (decide (j < i))) → ListK P ops K k i a w := by
  intro k
  induction k with
  | zero =>
    intro i hi hop hK listed a w hS hl
    have : ListK P ops K 0 i a w = K a w := by unfold ListK; rfl
    rw [this]
    exact hK a w ⟨listed, hS, fun j hj => by rw [hl j hj]; simp; omega⟩
  | succ k ih =>
    intro i hi hop hK listed a w hS hl
    have hlt : i < ops.size := by omega
    have ho : ops[i]? = some ops[i] := Array.getElem?_eq_getElem hlt
    have hready : i ∈ Region.ready .any ops listed := by
      refine mem_ready.2 ⟨?_, ops[i], ho, fun e he hb => ?_⟩
      · have := hl i hlt
        simp only [Nat.lt_irrefl, decide_false] at this
        simp [Array.getD_eq_getD_getElem?, this]
      · have h1 := forward_spec hfw ho e he hb
        have := hl e.on (by omega)
        simp only [h1, decide_true] at this
        simp [Array.getD_eq_getD_getElem?, this]
    have hs := SInv.step (Q := fun _ _ _ => False) hd hst hop (fun h => h) hS hready
    have : ListK P ops K (k + 1) i a w = opG P ops (fun _ _ _ => False) i (ListK P ops K k (i + 1)) a w := by unfold ListK; rfl
    rw [this]
    refine opG_mono ?_ hs
    rintro a' w' ⟨-, hS'⟩
    refine ih (i + 1) (by omega) hop hK _ a' w' hS' (fun j hj => ?_)
    rw [Array.getElem?_setIfInBounds]
    by_cases e : i = j
    · subst e
      rw [if_pos rfl, if_pos (by rw [hS.ls]; exact hj)]
      simp
    · rw [if_neg e, hl j hj]
      congr 1
      by_cases h2 : j < i
      · simp [h2, show j < i + 1 by omega]
      · simp [h2, show ¬ j < i + 1 by omega]
/-- A word that holds under a condition; else nothing was computed. -/
def Wd (C : Prop) (p : Value → World → Prop) : Value → World → Prop := fun v w => (C → p v w) ∧ (¬ C → v = undef)
theorem Wd.st {C : Prop} {p : Value → World → Prop} (h : StableW p) : StableW (Wd C p) := fun v w w' hv hb => ⟨fun hc => h v w w' (hv.1 hc) hb, hv.2⟩
theorem wanted_undef {op : Op} {b : Bool} {j e : Nat} {dd : Option Tmp} {a : Act} {ty : TypeId} {pos : String} {aft : Array Edge} (hj : (ops[j]?).bind (·.dst) = some e) (he : a.eval (.tmp e) = undef) : Region.wanted ⟨dd, op, ty, pos, aft, some (j, b)⟩ (yielded ops a.tmps) = false := by
  rw [Option.bind_eq_some_iff] at hj
  obtain ⟨oj, h1, h2⟩ := hj
  unfold Region.wanted yielded
  simp only [h1]
  simp only [Act.eval, Array.getD_eq_getD_getElem?] at he
  cases hq : a.tmps[e]? with
  | none => simp [h2, hq]
  | some u =>
    rw [hq] at he
    simp at he
    subst he
    simp [h2, hq, undef]
variable {i d : Nat} {ty : TypeId} {pos : String} {aft : Array Edge}
end
end Go.Proofs.Ytfcnombmphophaa
namespace Go.Proofs.Ytfcnombmphophaa
open Go.RowKit Go.Shelf
set_option maxHeartbeats 400000 in
theorem in_any (n lo hi : Int) (w : World) :
    Calls Try.prog 31 #[.int .i64 n, .int .i64 lo, .int .i64 hi] w fun e w' => e = .returned (.bool (inR n lo hi)) ∧ w = w' := by
  by_cases h1 : lo ≤ n
  · go_enter Try.func31, Try.ntmps31
    go_wp2
    go_ret
    exact ⟨by simp [inR, h1], rfl⟩
  · have hd : decide (lo ≤ n) = false := by simpa using h1
    go_enter Try.func31, Try.ntmps31
    go_wp2
    go_ret
    exact ⟨by simp [inR]; omega, rfl⟩
/-- Is a number in a list? -/
def hasI (l : List Int) (n : Int) : Bool := l.any (fun x => x == n)
theorem hasI_drop (l : List Int) (n : Int) (k : Nat) (hk : k < l.length) : hasI (l.drop k) n = (l[k] == n || hasI (l.drop (k + 1)) n) := by
  rw [List.drop_eq_getElem_cons hk]
  rfl
set_option maxHeartbeats 400000 in
theorem hasI_any (A : Option Addr) (c : Nat) (l : List Int) (n : Int) (w : World) (hl : l.length ≤ 1000000) (hs : IntsAt w w.heap.size A l) :
    Calls Try.prog 40 #[.slice A l.length c, .int .i64 n] w fun e w' => e = .returned (.bool (hasI l n)) ∧ w = w' := by
  have Hs := Lib.hid hs
  clear hs
  go_enter Try.func40, Try.ntmps40
  go_wp2
  go_loop [5] (fun i => ∃ k : Nat, k ≤ l.length ∧ i = .int .i64 k ∧ hasI l n = hasI (l.drop k) n) (fun i => l.length - (intOf i).toNat)
  case atStart => exact ⟨0, Nat.zero_le _, rfl, rfl⟩
  case round =>
    obtain ⟨k, hk, rfl, hgood⟩ := hrel
    by_cases hlt' : k < l.length
    · obtain ⟨b, off, rfl, hbB, c0⟩ := Hs.out k l[k] (List.getElem?_eq_getElem hlt')
      have HG := Lib.hid hgood
      clear hgood
      by_cases hx : l[k] = n
      · have hh : hasI l n = true := by rw [HG.out, hasI_drop l n k hlt']; simp [hx]
        have HH := Lib.hid hh
        clear hh
        go_wp2_with fail
        go_ret
        exact ⟨by rw [HH.out]; rfl, rfl⟩
      · have hh : hasI l n = hasI (l.drop (k + 1)) n := by rw [HG.out, hasI_drop l n k hlt']; simp [hx]
        have HH := Lib.hid hh
        clear hh
        go_wp2_with fail
        go_round
        case rel => exact ⟨k + 1, by omega, by simp, HH.out⟩
        case measure => simp [intOf]; omega
    · obtain rfl : k = l.length := by omega
      have HH := Lib.hid (show hasI l n = false from by rw [hgood, List.drop_length]; rfl)
      clear hgood
      go_wp2_with fail
      go_ret
      exact ⟨by rw [HH.out]; rfl, rfl⟩
theorem saleOk_ref (o : Int) (s : Sale) : saleOk o s = (inR s.src 0 (o - 1) && (inR s.dst 0 (o - 1) && (!decide (s.src = s.dst) && (inR s.many 1 1000 && (inR s.lo 0 s.hi && !decide (100 < s.hi)))))) := by
  rw [Bool.eq_iff_iff]
  simp only [saleOk, Bool.and_eq_true, inR_iff, decide_eq_true_eq, Bool.not_eq_true', decide_eq_false_iff_not]
  omega
theorem all_drop {α : Type} (p : α → Bool) (l : List α) (k : Nat) (hk : k < l.length) : (l.drop k).all p = (p l[k] && (l.drop (k + 1)).all p) := by
  rw [List.drop_eq_getElem_cons hk]
  rfl
set_option maxHeartbeats 2000000 in
theorem refFault_any (o t : Int) (A : Option Addr) (l : List Sale) (c : Nat) (w : World) (hl : l.length ≤ 12) (hs : SalesAt w w.heap.size A l) :
    Calls Try.prog 51 #[.agg #[.int .i64 o, .int .i64 t, .slice A l.length c]] w
      fun e w' => e = .returned (.int .i64 (fault o t l)) ∧ Below w.heap.size w w' := by
  have hB := (Below.refl w.heap.size w).alloc (Nat.le_refl _) (.cells #[.int .i64 o, .int .i64 t, .slice A l.length c] 24)
  have Hs := Lib.hid (hs.below hB (Nat.le_refl _))
  clear hs
  by_cases h8 : 8 < l.length
  · have HF := Lib.hid (fault_limit (o := o) (t := t) h8)
    go_enter Try.func51, Try.ntmps51
    go_wp2_with fail
    go_ret
    exact ⟨by rw [HF.out]; rfl, hB⟩
  · by_cases h1 : inR o 1 6 = true
    · have ho := inR_iff.1 h1
      by_cases h2 : inR t 0 1000 = true
      · go_enter Try.func51, Try.ntmps51
        go_wp2_with (first | (go_at_call 31; refine (in_any _ _ _ _).mono ?_; rintro e w' ⟨rfl, rfl⟩))
        go_loopw [3] (fun i wr => ∃ k : Nat, k ≤ l.length ∧ i = .int .i64 k ∧ l.all (saleOk o) = (l.drop k).all (saleOk o) ∧ Below (w.heap.size + 1) (w.alloc (.cells #[.int .i64 o, .int .i64 t, .slice A l.length c] 24)) wr) (fun i _ => l.length - (intOf i).toNat)
        case atStart => exact ⟨0, Nat.zero_le _, rfl, rfl, Below.refl _ _⟩
        case round =>
          obtain ⟨k, hk, rfl, hgood, hb⟩ := hrel
          have hz : w.heap.size + 1 ≤ wr.heap.size := by have := hb.size; simp at this; omega
          have q0 : wr.cell? ⟨w.heap.size, 0, none⟩ = some (.int .i64 o) := (hb.cell (p := ⟨w.heap.size, 0, none⟩) (by simp)).trans (by go_simp)
          have q2 : wr.cell? ⟨w.heap.size, 2, none⟩ = some (.slice A l.length c) := (hb.cell (p := ⟨w.heap.size, 2, none⟩) (by simp)).trans (by go_simp)
          have hB2 := hB.trans (hb.mono (by simp))
          by_cases hlt' : k < l.length
          · obtain ⟨b, off, rfl, hbB, c0, c1, c2, c3, c4⟩ := (Hs.out.more (by omega)).below hb (Nat.le_refl _) k l[k] (List.getElem?_eq_getElem hlt')
            have hg2 := all_drop (saleOk o) l k hlt'
            have HG := Lib.hid hgood
            have HG2 := Lib.hid hg2
            clear hgood hg2
            have hzz : w.heap.size < wr.heap.size := by omega
            have hbz : b < wr.heap.size := by omega
            generalize l[k] = s at *
            obtain ⟨sa, sb, sm, sx, sy⟩ := s
            simp only [] at c0 c1 c2 c3 c4
            by_cases hok : saleOk o ⟨sa, sb, sm, sx, sy⟩ = true
            · have HK := Lib.hid hok
              rw [saleOk_ref] at hok
              simp only [Bool.and_eq_true, Bool.not_eq_true', decide_eq_false_iff_not] at hok
              obtain ⟨e1, e2, e3', e4, e5, e6'⟩ := hok
              have e3 : (sa == sb) = false := by simpa using e3'
              have e6 : sy ≤ 100 := by omega
              clear e3' e6'
              go_wp2_with (first | (go_at_call 31; refine (in_any _ _ _ _).mono ?_; rintro e w' ⟨rfl, rfl⟩))
              exact ⟨⟨k + 1, by omega, by simp, by rw [HG.out, HG2.out, HK.out]; rfl, hb.alloc hz _⟩, by simp [intOf]; omega⟩
            · have hok' : saleOk o ⟨sa, sb, sm, sx, sy⟩ = false := by simpa using hok
              have HF := Lib.hid (fault_all (o := o) (t := t) (l := l) (by omega) (by rw [HG.out, HG2.out, hok']; rfl))
              have HK := Lib.hid hok'
              clear hok hok'
              go_wp2_with (first | (go_at_call 31; refine (in_any _ _ _ _).mono ?_; rintro e w' ⟨rfl, rfl⟩))
              all_goals first
                | (go_ret; exact ⟨by rw [HF.out]; rfl, hB2.alloc (by omega) _⟩)
                | (exfalso; have := HK.out; rw [saleOk_ref] at this; simp_all; omega)
                | (exfalso; have := HK.out; rw [saleOk_ref] at this; simp_all)
          · obtain rfl : k = l.length := by omega
            have HF := Lib.hid (fault_ok (o := o) (t := t) (l := l) (by omega) h1 h2 (by rw [hgood, List.drop_length]; rfl))
            clear hgood
            go_wp2_with fail
            go_ret
            exact ⟨by rw [HF.out]; rfl, hB2⟩
      · have h2' : inR t 0 1000 = false := by simpa using h2
        have HF := Lib.hid (fault_tot (o := o) (t := t) (l := l) (by omega) h2')
        clear h2
        go_enter Try.func51, Try.ntmps51
        go_wp2_with (first | (go_at_call 31; refine (in_any _ _ _ _).mono ?_; rintro e w' ⟨rfl, rfl⟩))
        go_ret
        exact ⟨by rw [HF.out]; rfl, hB⟩
    · have h1' : inR o 1 6 = false := by simpa using h1
      have HF := Lib.hid (fault_own (o := o) (t := t) (l := l) (by omega) h1')
      clear h1
      go_enter Try.func51, Try.ntmps51
      go_wp2_with (first | (go_at_call 31; refine (in_any _ _ _ _).mono ?_; rintro e w' ⟨rfl, rfl⟩))
      go_ret
      exact ⟨by rw [HF.out]; rfl, hB⟩
set_option maxHeartbeats 400000 in
theorem lawFault_any (o t : Int) (A : Option Addr) (l : List Sale) (c : Nat) (w : World) (hl : l.length ≤ 12) (hs : SalesAt w w.heap.size A l) :
    Calls Try.prog 21 #[.agg #[.int .i64 o, .int .i64 t, .slice A l.length c]] w
      fun e w' => e = .returned (.int .i64 (fault o t l)) ∧ Below w.heap.size w w' := by
  have hB := (Below.refl w.heap.size w).alloc (Nat.le_refl _) (.cells #[.int .i64 o, .int .i64 t, .slice A l.length c] 24)
  have Hs := Lib.hid ((hs.below hB (Nat.le_refl _)).more (by simp : w.heap.size ≤ (w.alloc (.cells #[.int .i64 o, .int .i64 t, .slice A l.length c] 24)).heap.size))
  clear hs
  go_enter Try.func21, Try.ntmps21
  go_wp2_with (go_at_call 51; refine (refFault_any o t A l c _ hl Hs.out).mono ?_; rintro e w' ⟨rfl, hb⟩)
  go_ret
  exact ⟨rfl, hB.trans (hb.mono (by simp))⟩
end Go.Proofs.Ytfcnombmphophaa
namespace Go.Proofs.Ytfcnombmphophaa
open Go.RowKit Go.Shelf
/-- What one sale does to an owner. -/
def stepR (l : List Sale) (ow : Int) (x d : Int) : Int :=
  let s := saleOf l d.toNat
  let y := if s.dst = ow then x + s.many else x
  if s.src = ow then y - s.many else y
def stockR (t : Int) (l : List Sale) (done : List Int) (ow : Int) : Int := done.foldl (stepR l ow) (if ow = 0 then t else 0)
theorem stepR_bound {l : List Sale} {ow x d M : Int} (h0 : 0 ≤ (saleOf l d.toNat).many) (h1 : (saleOf l d.toNat).many ≤ 1000) (h : -M ≤ x ∧ x ≤ M) : -(M + 2000) ≤ stepR l ow x d ∧ stepR l ow x d ≤ M + 2000 := by
  simp only [stepR]
  split <;> split <;> omega
set_option maxHeartbeats 2000000 in
theorem stockR_any (o t ow : Int) (A A1 : Option Addr) (l : List Sale) (done : List Int) (c c1 : Nat) (w : World) (hl : l.length ≤ 12) (hd : done.length ≤ 12) (ht0 : 0 ≤ t) (ht : t ≤ 1000) (hm : ∀ s, s ∈ l → 0 ≤ s.many ∧ s.many ≤ 1000)
    (hdn : ∀ d, d ∈ done → 0 ≤ d ∧ d < l.length) (hs : SalesAt w w.heap.size A l) (h1 : IntsAt w w.heap.size A1 done) :
    Calls Try.prog 69 #[.agg #[.int .i64 o, .int .i64 t, .slice A l.length c], .slice A1 done.length c1, .int .i64 ow] w
      fun e w' => e = .returned (.int .i64 (stockR t l done ow)) ∧ Below w.heap.size w w' := by
  have hB := (Below.refl w.heap.size w).alloc (Nat.le_refl _) (.cells #[.int .i64 o, .int .i64 t, .slice A l.length c] 24)
  have Hs := Lib.hid (hs.below hB (Nat.le_refl _))
  have H1 := Lib.hid (h1.below hB (Nat.le_refl _))
  have HM := Lib.hid hm
  have HD := Lib.hid hdn
  clear hs h1 hm hdn
  generalize hq : stockR t l done ow = res
  have hq' : res = done.foldl (stepR l ow) (if ow = 0 then t else 0) := by rw [← hq]; rfl
  have HQ := Lib.hid hq'
  clear hq hq'
  have HX : (ow == 0) = true ∧ Hid (res = done.foldl (stepR l ow) t) ∨ (ow == 0) = false ∧ Hid (res = done.foldl (stepR l ow) 0) := by
    have := HQ.out
    by_cases e : ow = 0
    · rw [if_pos e] at this
      exact .inl ⟨by simpa using e, Lib.hid this⟩
    · rw [if_neg e] at this
      exact .inr ⟨by simpa using e, Lib.hid this⟩
  clear HQ
  rcases HX with ⟨h0, HQ⟩ | ⟨h0, HQ⟩
  all_goals
    go_enter Try.func69, Try.ntmps69
    go_wp2_with fail
    go_loopw [7, 8] (fun n i wr => ∃ (k : Nat) (x : Int), k ≤ done.length ∧ n = .int .i64 x ∧ i = .int .i64 k ∧ res = (done.drop k).foldl (stepR l ow) x ∧ -(1000 + 2000 * (k : Int)) ≤ x ∧ x ≤ 1000 + 2000 * (k : Int) ∧ Below (w.heap.size + 1) (w.alloc (.cells #[.int .i64 o, .int .i64 t, .slice A l.length c] 24)) wr) (fun _ i _ => done.length - (intOf i).toNat)
    case atStart => exact ⟨0, _, Nat.zero_le _, rfl, rfl, HQ.out, by omega, by omega, Below.refl _ _⟩
    case round =>
      obtain ⟨k, x, hk, rfl, rfl, hgood, hx2, hx3, hb⟩ := hrel
      have hz : w.heap.size + 1 ≤ wr.heap.size := by have := hb.size; simp at this; omega
      have q2 : wr.cell? ⟨w.heap.size, 2, none⟩ = some (.slice A l.length c) := (hb.cell (p := ⟨w.heap.size, 2, none⟩) (by simp)).trans (by go_simp)
      have hB2 := hB.trans (hb.mono (by simp))
      by_cases hlt' : k < done.length
      · obtain ⟨b1, off1, rfl, hbB1, d0⟩ := (H1.out.more (by omega)).below hb (Nat.le_refl _) k done[k] (List.getElem?_eq_getElem hlt')
        have hdr := HD.out done[k] (List.getElem_mem hlt')
        have hstep : (done.drop k).foldl (stepR l ow) x = (done.drop (k + 1)).foldl (stepR l ow) (stepR l ow x done[k]) := by
          rw [List.drop_eq_getElem_cons hlt']
          rfl
        have hgl : l[(done[k]).toNat]? = some l[(done[k]).toNat] := List.getElem?_eq_getElem (by omega)
        obtain ⟨b, off, rfl, hbB, c0, c1, c2, c3, c4⟩ := (Hs.out.more (by omega)).below hb (Nat.le_refl _) (done[k]).toNat _ hgl
        have hmm := HM.out _ (List.getElem_mem (show (done[k]).toNat < l.length by omega))
        have hsl := saleOf_eq hgl
        have hbd := stepR_bound (l := l) (ow := ow) (x := x) (d := done[k]) (M := 1000 + 2000 * (k : Int)) (by rw [hsl]; omega) (by rw [hsl]; omega) ⟨hx2, hx3⟩
        have hse : stepR l ow x done[k] = (let s := l[(done[k]).toNat]'(by omega); let y := if s.dst = ow then x + s.many else x; if s.src = ow then y - s.many else y) := by simp only [stepR, hsl]
        rw [hstep] at hgood
        have HG := Lib.hid hgood
        clear hgood hstep
        have hzz : w.heap.size < wr.heap.size := by omega
        have hbz : b < wr.heap.size := by omega
        have hbz1 : b1 < wr.heap.size := by omega
        clear hsl hgl
        generalize l[(done[k]).toNat] = s at *
        obtain ⟨sa, sb, sm, sx, sy⟩ := s
        simp only [] at c0 c1 c2 c3 c4 hmm hse
        generalize stepR l ow x done[k] = x' at *
        generalize done[k] = dk at *
        obtain ⟨dn, rfl⟩ : ∃ n : Nat, dk = n := ⟨dk.toNat, by omega⟩
        simp only [Int.toNat_natCast] at c0 c1 c2 c3 c4
        have hdn : dn < l.length := by omega
        have HSE := Lib.hid hse
        have HBD := Lib.hid hbd
        clear hse hbd hdr
        go_wp2_with fail
        go_region
        go_wp2_with fail
        all_goals
          refine ⟨⟨k + 1, x', by omega, ?_, by simp, HG.out, by have := HBD.out; push_cast; omega, by have := HBD.out; push_cast; omega, (hb.alloc hz _).drew⟩, by simp [intOf]; omega⟩
          rw [HSE.out]
          simp_all
      · obtain rfl : k = done.length := by omega
        have hgood' : res = x := by rw [hgood, List.drop_length]; rfl
        subst hgood'
        clear hgood
        go_wp2_with fail
        go_ret
        exact ⟨rfl, hB2⟩
end Go.Proofs.Ytfcnombmphophaa
namespace Go.Proofs.Ytfcnombmphophaa
open Go.RowKit Go.Shelf
theorem fa24_0 {b o : Nat} (w : World) : (Instr.fieldAt 24 (.pointer (some ⟨b, o, none⟩)) 0).run Try.prog w = .ok (.pointer (some ⟨b, o, none⟩)) w := by
  go_simp
theorem fa24_1 {b o : Nat} (w : World) : (Instr.fieldAt 24 (.pointer (some ⟨b, o, none⟩)) 1).run Try.prog w = .ok (.pointer (some ⟨b, o + 1, none⟩)) w := by
  go_simp
theorem fa24_2 {b o : Nat} (w : World) : (Instr.fieldAt 24 (.pointer (some ⟨b, o, none⟩)) 2).run Try.prog w = .ok (.pointer (some ⟨b, o + 2, none⟩)) w := by
  go_simp
theorem fa73_0 {b o : Nat} (w : World) : (Instr.fieldAt 73 (.pointer (some ⟨b, o, none⟩)) 0).run Try.prog w = .ok (.pointer (some ⟨b, o, none⟩)) w := by
  go_simp
theorem fa73_1 {b o : Nat} (w : World) : (Instr.fieldAt 73 (.pointer (some ⟨b, o, none⟩)) 1).run Try.prog w = .ok (.pointer (some ⟨b, o + 1, none⟩)) w := by
  go_simp
theorem fa73_2 {b o : Nat} (w : World) : (Instr.fieldAt 73 (.pointer (some ⟨b, o, none⟩)) 2).run Try.prog w = .ok (.pointer (some ⟨b, o + 2, none⟩)) w := by
  go_simp
theorem fa73_3 {b o : Nat} (w : World) : (Instr.fieldAt 73 (.pointer (some ⟨b, o, none⟩)) 3).run Try.prog w = .ok (.pointer (some ⟨b, o + 3, none⟩)) w := by
  go_simp
theorem fa71_0 {b o : Nat} (w : World) : (Instr.fieldAt 71 (.pointer (some ⟨b, o, none⟩)) 0).run Try.prog w = .ok (.pointer (some ⟨b, o, none⟩)) w := by
  go_simp
theorem fa71_1 {b o : Nat} (w : World) : (Instr.fieldAt 71 (.pointer (some ⟨b, o, none⟩)) 1).run Try.prog w = .ok (.pointer (some ⟨b, o + 1, none⟩)) w := by
  go_simp
theorem ld22 {w : World} {p : Addr} {v : Value} (h : w.cell? p = some v) : (Instr.loadAt 22 (.pointer (some p))).run Try.prog w = .ok v w := by
  go_simp
theorem ld24 {w : World} {b : Nat} {u v x : Value} (h : w.cell? ⟨b, 0, none⟩ = some u ∧ w.cell? ⟨b, 1, none⟩ = some v ∧ w.cell? ⟨b, 2, none⟩ = some x) : (Instr.loadAt 24 (.pointer (some ⟨b, 0, none⟩))).run Try.prog w = .ok (.agg #[u, v, x]) w := by
  obtain ⟨h0, h1, h2⟩ := h
  go_simp
theorem ld73 {w : World} {b o : Nat} {s : Sale} (h0 : w.cell? ⟨b, o, none⟩ = some (.int .i64 s.src)) (h1 : w.cell? ⟨b, o + 1, none⟩ = some (.int .i64 s.dst)) (h2 : w.cell? ⟨b, o + 2, none⟩ = some (.int .i64 s.many)) (h3 : w.cell? ⟨b, o + 3, none⟩ = some (.int .i64 s.lo)) (h4 : w.cell? ⟨b, o + 4, none⟩ = some (.int .i64 s.hi)) :
    (Instr.loadAt 73 (.pointer (some ⟨b, o, none⟩))).run Try.prog w = .ok (saleV s) w := by
  go_simp
theorem ix22 {b o n c : Nat} {i : Nat} (h : i < n) (w : World) : (Instr.indexAt 22 (.slice (some ⟨b, o, none⟩) n c) (.int .i64 i)).run Try.prog w = .ok (.pointer (some ⟨b, o + i * 5, none⟩)) w := by
  go_simp
theorem ln22 (A : Option Addr) (n c : Nat) (ty : TypeId) (w : World) : (builtin .len #[22] ty #[false] #[.slice A n c]).run Try.prog w = .ok (.value (.int .i64 n)) w := by
  go_simp
theorem bx24 (w : World) (o t : Int) (A : Option Addr) (n c : Nat) : (Instr.box 24 (.agg #[.int .i64 o, .int .i64 t, .slice A n c])).run Try.prog w = .ok (.pointer (some ⟨w.heap.size, 0, none⟩)) (w.alloc (.cells #[.int .i64 o, .int .i64 t, .slice A n c] 24)) := by
  go_simp
theorem al73 (w : World) : (Instr.alloc 73 true (.tuple #[])).run Try.prog w = .ok (.pointer (some ⟨w.heap.size, 0, none⟩)) (w.alloc (.cells #[.int .i64 0, .int .i64 0, .int .i64 0, .int .i64 0, .int .i64 0] 73)) := by
  go_simp
theorem sa73 (w : World) (s : Sale) : (Instr.storeAt 73 (.pointer (some ⟨w.heap.size, 0, none⟩)) (saleV s)).run Try.prog (w.alloc (.cells #[.int .i64 0, .int .i64 0, .int .i64 0, .int .i64 0, .int .i64 0] 73)) = .ok () (w.alloc (.cells (saleC s) 73)) := by
  unfold saleV saleC
  go_simp
theorem geqT {x y : Operand} {m n : Int} (h : n ≤ m) (w : World) : (do eqGuard .geq 3 x y (.int .i64 m) (.int .i64 n); binOp .geq 3 (.int .i64 m) (.int .i64 n) : Sem Value).run Try.prog w = .ok (.bool true) w := by
  go_simp
theorem geqF {x y : Operand} {m n : Int} (h : ¬ n ≤ m) (w : World) : (do eqGuard .geq 3 x y (.int .i64 m) (.int .i64 n); binOp .geq 3 (.int .i64 m) (.int .i64 n) : Sem Value).run Try.prog w = .ok (.bool false) w := by
  go_simp
/-- A call that gives a value, wherever a world stands that is at most longer. -/
abbrev CV (w : World) (f : FuncId) (args : Array Value) (v : Value) : Prop := ∀ W1, Below w.heap.size w W1 → Calls Try.prog f args W1 fun e w' => ∃ u, e = .returned u ∧ u = v ∧ Below W1.heap.size W1 w'
theorem CV.drew {w : World} {f : FuncId} {args : Array Value} {v : Value} (h : CV w f args v) : CV w.drew f args v := fun W1 hb => h W1 (((Below.refl w.heap.size w).drew).trans hb)
/-- May a sale be next on a day? -/
def mayR (t : Int) (l : List Sale) (done : List Int) (last sale day : Int) : Bool :=
  !hasI done sale && (inR day (saleOf l sale.toNat).lo (saleOf l sale.toNat).hi && (decide (last ≤ day) && decide ((saleOf l sale.toNat).many ≤ stockR t l done (saleOf l sale.toNat).src)))
noncomputable def opsMy0 : Array Oper := (Try.f52.body.bind (regionOf 2)).getD #[]
def wordsMy0 (b5 b11 : Nat) (A A1 : Option Addr) (nl c n1 c1 : Nat) (o t la sl dy src mn lo hi sk : Int) : Words := [fun v _ => v = .slice A1 n1 c1, fun v _ => v = .int .i64 sl, fun v _ => v = .bool true, fun v _ => v = .bool false, fun v _ => v = .bool false, fun _ _ => True, fun _ _ => True, fun _ _ => True, fun _ _ => True, fun _ _ => True, fun _ _ => True, fun _ _ => True, fun _ _ => True, fun v _ => v = .bool false, fun v _ => v = .bool false, fun _ _ => True, fun _ _ => True, fun _ _ => True, fun v _ => v = .bool false, fun v _ => v = .bool false, fun _ _ => True, fun _ _ => True, fun _ _ => True, fun _ _ => True, fun _ _ => True, fun _ _ => True, fun _ _ => True, fun _ _ => True, fun v _ => v = .bool false, fun v _ => v = .bool false]
theorem okMy0_0 {b5 b11 : Nat} {A A1 : Option Addr} {nl c n1 c1 : Nat} {o t la sl dy src mn lo hi sk : Int} {a : Act} {w : World} (t1 : a.eval (.tmp 1) = .slice A1 n1 c1) (t2 : a.eval (.tmp 2) = .int .i64 la) (t3 : a.eval (.tmp 3) = .int .i64 sl) (t4 : a.eval (.tmp 4) = .int .i64 dy) (t5 : a.eval (.tmp 5) = .pointer (some ⟨b5, 0, none⟩)) (t11 : a.eval (.tmp 11) = .pointer (some ⟨b11, 0, none⟩)) (m0 : w.cell? ⟨b11, 0, none⟩ = some (.int .i64 src)) (m2 : w.cell? ⟨b11, 2, none⟩ = some (.int .i64 mn)) (m3 : w.cell? ⟨b11, 3, none⟩ = some (.int .i64 lo)) (m4 : w.cell? ⟨b11, 4, none⟩ = some (.int .i64 hi)) (q0 : w.cell? ⟨b5, 0, none⟩ = some (.int .i64 o)) (q1 : w.cell? ⟨b5, 1, none⟩ = some (.int .i64 t)) (q2 : w.cell? ⟨b5, 2, none⟩ = some (.slice A nl c)) (hh : CV w 40 #[.slice A1 n1 c1, .int .i64 sl] (.bool true)) : OpOk Try.prog opsMy0 (wordsMy0 b5 b11 A A1 nl c n1 c1 o t la sl dy src mn lo hi sk) 46 a w 0 := by
  refine OpOk.gen rfl (fun a1 w1 H => ?_)
  have e1 : a1.eval (.tmp 1) = .slice A1 n1 c1 := (H.out 1 (by kernel_rfl)).trans t1
  refine gd_none ?_
  exact OpW.move e1 rfl
theorem okMy0_1 {b5 b11 : Nat} {A A1 : Option Addr} {nl c n1 c1 : Nat} {o t la sl dy src mn lo hi sk : Int} {a : Act} {w : World} (t1 : a.eval (.tmp 1) = .slice A1 n1 c1) (t2 : a.eval (.tmp 2) = .int .i64 la) (t3 : a.eval (.tmp 3) = .int .i64 sl) (t4 : a.eval (.tmp 4) = .int .i64 dy) (t5 : a.eval (.tmp 5) = .pointer (some ⟨b5, 0, none⟩)) (t11 : a.eval (.tmp 11) = .pointer (some ⟨b11, 0, none⟩)) (m0 : w.cell? ⟨b11, 0, none⟩ = some (.int .i64 src)) (m2 : w.cell? ⟨b11, 2, none⟩ = some (.int .i64 mn)) (m3 : w.cell? ⟨b11, 3, none⟩ = some (.int .i64 lo)) (m4 : w.cell? ⟨b11, 4, none⟩ = some (.int .i64 hi)) (q0 : w.cell? ⟨b5, 0, none⟩ = some (.int .i64 o)) (q1 : w.cell? ⟨b5, 1, none⟩ = some (.int .i64 t)) (q2 : w.cell? ⟨b5, 2, none⟩ = some (.slice A nl c)) (hh : CV w 40 #[.slice A1 n1 c1, .int .i64 sl] (.bool true)) : OpOk Try.prog opsMy0 (wordsMy0 b5 b11 A A1 nl c n1 c1 o t la sl dy src mn lo hi sk) 46 a w 1 := by
  refine OpOk.gen rfl (fun a1 w1 H => ?_)
  have e3 : a1.eval (.tmp 3) = .int .i64 sl := (H.out 3 (by kernel_rfl)).trans t3
  refine gd_none ?_
  exact OpW.move e3 rfl
theorem okMy0_2 {b5 b11 : Nat} {A A1 : Option Addr} {nl c n1 c1 : Nat} {o t la sl dy src mn lo hi sk : Int} {a : Act} {w : World} (t1 : a.eval (.tmp 1) = .slice A1 n1 c1) (t2 : a.eval (.tmp 2) = .int .i64 la) (t3 : a.eval (.tmp 3) = .int .i64 sl) (t4 : a.eval (.tmp 4) = .int .i64 dy) (t5 : a.eval (.tmp 5) = .pointer (some ⟨b5, 0, none⟩)) (t11 : a.eval (.tmp 11) = .pointer (some ⟨b11, 0, none⟩)) (m0 : w.cell? ⟨b11, 0, none⟩ = some (.int .i64 src)) (m2 : w.cell? ⟨b11, 2, none⟩ = some (.int .i64 mn)) (m3 : w.cell? ⟨b11, 3, none⟩ = some (.int .i64 lo)) (m4 : w.cell? ⟨b11, 4, none⟩ = some (.int .i64 hi)) (q0 : w.cell? ⟨b5, 0, none⟩ = some (.int .i64 o)) (q1 : w.cell? ⟨b5, 1, none⟩ = some (.int .i64 t)) (q2 : w.cell? ⟨b5, 2, none⟩ = some (.slice A nl c)) (hh : CV w 40 #[.slice A1 n1 c1, .int .i64 sl] (.bool true)) : OpOk Try.prog opsMy0 (wordsMy0 b5 b11 A A1 nl c n1 c1 o t la sl dy src mn lo hi sk) 46 a w 2 := by
  refine OpOk.gen rfl (fun a1 w1 H => ?_)
  have d0 : a1.eval (.tmp 17) = .slice A1 n1 c1 := H.dep 0 17 rfl (by kernel_rfl)
  have d1 : a1.eval (.tmp 18) = .int .i64 sl := H.dep 1 18 rfl (by kernel_rfl)
  refine gd_none ?_
  exact OpW.call (vs := #[.slice A1 n1 c1, .int .i64 sl]) (enters_of Try.func40 (by kernel_rfl) rfl) (by simp [d0, d1]) (hh w1 H.low)
theorem okMy0_3 {b5 b11 : Nat} {A A1 : Option Addr} {nl c n1 c1 : Nat} {o t la sl dy src mn lo hi sk : Int} {a : Act} {w : World} (t1 : a.eval (.tmp 1) = .slice A1 n1 c1) (t2 : a.eval (.tmp 2) = .int .i64 la) (t3 : a.eval (.tmp 3) = .int .i64 sl) (t4 : a.eval (.tmp 4) = .int .i64 dy) (t5 : a.eval (.tmp 5) = .pointer (some ⟨b5, 0, none⟩)) (t11 : a.eval (.tmp 11) = .pointer (some ⟨b11, 0, none⟩)) (m0 : w.cell? ⟨b11, 0, none⟩ = some (.int .i64 src)) (m2 : w.cell? ⟨b11, 2, none⟩ = some (.int .i64 mn)) (m3 : w.cell? ⟨b11, 3, none⟩ = some (.int .i64 lo)) (m4 : w.cell? ⟨b11, 4, none⟩ = some (.int .i64 hi)) (q0 : w.cell? ⟨b5, 0, none⟩ = some (.int .i64 o)) (q1 : w.cell? ⟨b5, 1, none⟩ = some (.int .i64 t)) (q2 : w.cell? ⟨b5, 2, none⟩ = some (.slice A nl c)) (hh : CV w 40 #[.slice A1 n1 c1, .int .i64 sl] (.bool true)) : OpOk Try.prog opsMy0 (wordsMy0 b5 b11 A A1 nl c n1 c1 o t la sl dy src mn lo hi sk) 46 a w 3 := by
  refine OpOk.gen rfl (fun a1 w1 H => ?_)
  have d2 : a1.eval (.tmp 19) = .bool true := H.dep 2 19 rfl (by kernel_rfl)
  refine gd_none ?_
  exact OpW.un d2 (not4 _ _) rfl
theorem okMy0_4 {b5 b11 : Nat} {A A1 : Option Addr} {nl c n1 c1 : Nat} {o t la sl dy src mn lo hi sk : Int} {a : Act} {w : World} (t1 : a.eval (.tmp 1) = .slice A1 n1 c1) (t2 : a.eval (.tmp 2) = .int .i64 la) (t3 : a.eval (.tmp 3) = .int .i64 sl) (t4 : a.eval (.tmp 4) = .int .i64 dy) (t5 : a.eval (.tmp 5) = .pointer (some ⟨b5, 0, none⟩)) (t11 : a.eval (.tmp 11) = .pointer (some ⟨b11, 0, none⟩)) (m0 : w.cell? ⟨b11, 0, none⟩ = some (.int .i64 src)) (m2 : w.cell? ⟨b11, 2, none⟩ = some (.int .i64 mn)) (m3 : w.cell? ⟨b11, 3, none⟩ = some (.int .i64 lo)) (m4 : w.cell? ⟨b11, 4, none⟩ = some (.int .i64 hi)) (q0 : w.cell? ⟨b5, 0, none⟩ = some (.int .i64 o)) (q1 : w.cell? ⟨b5, 1, none⟩ = some (.int .i64 t)) (q2 : w.cell? ⟨b5, 2, none⟩ = some (.slice A nl c)) (hh : CV w 40 #[.slice A1 n1 c1, .int .i64 sl] (.bool true)) : OpOk Try.prog opsMy0 (wordsMy0 b5 b11 A A1 nl c n1 c1 o t la sl dy src mn lo hi sk) 46 a w 4 := by
  refine OpOk.gen rfl (fun a1 w1 H => ?_)
  have d3 : a1.eval (.tmp 20) = .bool false := H.dep 3 20 rfl (by kernel_rfl)
  refine gd_none ?_
  exact OpW.move d3 rfl
theorem okMy0_5 {b5 b11 : Nat} {A A1 : Option Addr} {nl c n1 c1 : Nat} {o t la sl dy src mn lo hi sk : Int} {a : Act} {w : World} (t1 : a.eval (.tmp 1) = .slice A1 n1 c1) (t2 : a.eval (.tmp 2) = .int .i64 la) (t3 : a.eval (.tmp 3) = .int .i64 sl) (t4 : a.eval (.tmp 4) = .int .i64 dy) (t5 : a.eval (.tmp 5) = .pointer (some ⟨b5, 0, none⟩)) (t11 : a.eval (.tmp 11) = .pointer (some ⟨b11, 0, none⟩)) (m0 : w.cell? ⟨b11, 0, none⟩ = some (.int .i64 src)) (m2 : w.cell? ⟨b11, 2, none⟩ = some (.int .i64 mn)) (m3 : w.cell? ⟨b11, 3, none⟩ = some (.int .i64 lo)) (m4 : w.cell? ⟨b11, 4, none⟩ = some (.int .i64 hi)) (q0 : w.cell? ⟨b5, 0, none⟩ = some (.int .i64 o)) (q1 : w.cell? ⟨b5, 1, none⟩ = some (.int .i64 t)) (q2 : w.cell? ⟨b5, 2, none⟩ = some (.slice A nl c)) (hh : CV w 40 #[.slice A1 n1 c1, .int .i64 sl] (.bool true)) : OpOk Try.prog opsMy0 (wordsMy0 b5 b11 A A1 nl c n1 c1 o t la sl dy src mn lo hi sk) 46 a w 5 := by
  refine OpOk.gen rfl (fun a1 w1 H => ?_)
  have d4 : a1.eval (.tmp 21) = .bool false := H.dep 4 21 rfl (by kernel_rfl)
  refine gd_false rfl d4 (by decide) ?_
  trivial
theorem okMy0_6 {b5 b11 : Nat} {A A1 : Option Addr} {nl c n1 c1 : Nat} {o t la sl dy src mn lo hi sk : Int} {a : Act} {w : World} (t1 : a.eval (.tmp 1) = .slice A1 n1 c1) (t2 : a.eval (.tmp 2) = .int .i64 la) (t3 : a.eval (.tmp 3) = .int .i64 sl) (t4 : a.eval (.tmp 4) = .int .i64 dy) (t5 : a.eval (.tmp 5) = .pointer (some ⟨b5, 0, none⟩)) (t11 : a.eval (.tmp 11) = .pointer (some ⟨b11, 0, none⟩)) (m0 : w.cell? ⟨b11, 0, none⟩ = some (.int .i64 src)) (m2 : w.cell? ⟨b11, 2, none⟩ = some (.int .i64 mn)) (m3 : w.cell? ⟨b11, 3, none⟩ = some (.int .i64 lo)) (m4 : w.cell? ⟨b11, 4, none⟩ = some (.int .i64 hi)) (q0 : w.cell? ⟨b5, 0, none⟩ = some (.int .i64 o)) (q1 : w.cell? ⟨b5, 1, none⟩ = some (.int .i64 t)) (q2 : w.cell? ⟨b5, 2, none⟩ = some (.slice A nl c)) (hh : CV w 40 #[.slice A1 n1 c1, .int .i64 sl] (.bool true)) : OpOk Try.prog opsMy0 (wordsMy0 b5 b11 A A1 nl c n1 c1 o t la sl dy src mn lo hi sk) 46 a w 6 := by
  refine OpOk.gen rfl (fun a1 w1 H => ?_)
  have d4 : a1.eval (.tmp 21) = .bool false := H.dep 4 21 rfl (by kernel_rfl)
  refine gd_false rfl d4 (by decide) ?_
  trivial
theorem okMy0_7 {b5 b11 : Nat} {A A1 : Option Addr} {nl c n1 c1 : Nat} {o t la sl dy src mn lo hi sk : Int} {a : Act} {w : World} (t1 : a.eval (.tmp 1) = .slice A1 n1 c1) (t2 : a.eval (.tmp 2) = .int .i64 la) (t3 : a.eval (.tmp 3) = .int .i64 sl) (t4 : a.eval (.tmp 4) = .int .i64 dy) (t5 : a.eval (.tmp 5) = .pointer (some ⟨b5, 0, none⟩)) (t11 : a.eval (.tmp 11) = .pointer (some ⟨b11, 0, none⟩)) (m0 : w.cell? ⟨b11, 0, none⟩ = some (.int .i64 src)) (m2 : w.cell? ⟨b11, 2, none⟩ = some (.int .i64 mn)) (m3 : w.cell? ⟨b11, 3, none⟩ = some (.int .i64 lo)) (m4 : w.cell? ⟨b11, 4, none⟩ = some (.int .i64 hi)) (q0 : w.cell? ⟨b5, 0, none⟩ = some (.int .i64 o)) (q1 : w.cell? ⟨b5, 1, none⟩ = some (.int .i64 t)) (q2 : w.cell? ⟨b5, 2, none⟩ = some (.slice A nl c)) (hh : CV w 40 #[.slice A1 n1 c1, .int .i64 sl] (.bool true)) : OpOk Try.prog opsMy0 (wordsMy0 b5 b11 A A1 nl c n1 c1 o t la sl dy src mn lo hi sk) 46 a w 7 := by
  refine OpOk.gen rfl (fun a1 w1 H => ?_)
  have d4 : a1.eval (.tmp 21) = .bool false := H.dep 4 21 rfl (by kernel_rfl)
  refine gd_false rfl d4 (by decide) ?_
  trivial
theorem okMy0_8 {b5 b11 : Nat} {A A1 : Option Addr} {nl c n1 c1 : Nat} {o t la sl dy src mn lo hi sk : Int} {a : Act} {w : World} (t1 : a.eval (.tmp 1) = .slice A1 n1 c1) (t2 : a.eval (.tmp 2) = .int .i64 la) (t3 : a.eval (.tmp 3) = .int .i64 sl) (t4 : a.eval (.tmp 4) = .int .i64 dy) (t5 : a.eval (.tmp 5) = .pointer (some ⟨b5, 0, none⟩)) (t11 : a.eval (.tmp 11) = .pointer (some ⟨b11, 0, none⟩)) (m0 : w.cell? ⟨b11, 0, none⟩ = some (.int .i64 src)) (m2 : w.cell? ⟨b11, 2, none⟩ = some (.int .i64 mn)) (m3 : w.cell? ⟨b11, 3, none⟩ = some (.int .i64 lo)) (m4 : w.cell? ⟨b11, 4, none⟩ = some (.int .i64 hi)) (q0 : w.cell? ⟨b5, 0, none⟩ = some (.int .i64 o)) (q1 : w.cell? ⟨b5, 1, none⟩ = some (.int .i64 t)) (q2 : w.cell? ⟨b5, 2, none⟩ = some (.slice A nl c)) (hh : CV w 40 #[.slice A1 n1 c1, .int .i64 sl] (.bool true)) : OpOk Try.prog opsMy0 (wordsMy0 b5 b11 A A1 nl c n1 c1 o t la sl dy src mn lo hi sk) 46 a w 8 := by
  refine OpOk.gen rfl (fun a1 w1 H => ?_)
  have d4 : a1.eval (.tmp 21) = .bool false := H.dep 4 21 rfl (by kernel_rfl)
  refine gd_false rfl d4 (by decide) ?_
  trivial
theorem okMy0_9 {b5 b11 : Nat} {A A1 : Option Addr} {nl c n1 c1 : Nat} {o t la sl dy src mn lo hi sk : Int} {a : Act} {w : World} (t1 : a.eval (.tmp 1) = .slice A1 n1 c1) (t2 : a.eval (.tmp 2) = .int .i64 la) (t3 : a.eval (.tmp 3) = .int .i64 sl) (t4 : a.eval (.tmp 4) = .int .i64 dy) (t5 : a.eval (.tmp 5) = .pointer (some ⟨b5, 0, none⟩)) (t11 : a.eval (.tmp 11) = .pointer (some ⟨b11, 0, none⟩)) (m0 : w.cell? ⟨b11, 0, none⟩ = some (.int .i64 src)) (m2 : w.cell? ⟨b11, 2, none⟩ = some (.int .i64 mn)) (m3 : w.cell? ⟨b11, 3, none⟩ = some (.int .i64 lo)) (m4 : w.cell? ⟨b11, 4, none⟩ = some (.int .i64 hi)) (q0 : w.cell? ⟨b5, 0, none⟩ = some (.int .i64 o)) (q1 : w.cell? ⟨b5, 1, none⟩ = some (.int .i64 t)) (q2 : w.cell? ⟨b5, 2, none⟩ = some (.slice A nl c)) (hh : CV w 40 #[.slice A1 n1 c1, .int .i64 sl] (.bool true)) : OpOk Try.prog opsMy0 (wordsMy0 b5 b11 A A1 nl c n1 c1 o t la sl dy src mn lo hi sk) 46 a w 9 := by
  refine OpOk.gen rfl (fun a1 w1 H => ?_)
  have d4 : a1.eval (.tmp 21) = .bool false := H.dep 4 21 rfl (by kernel_rfl)
  refine gd_false rfl d4 (by decide) ?_
  trivial
theorem okMy0_10 {b5 b11 : Nat} {A A1 : Option Addr} {nl c n1 c1 : Nat} {o t la sl dy src mn lo hi sk : Int} {a : Act} {w : World} (t1 : a.eval (.tmp 1) = .slice A1 n1 c1) (t2 : a.eval (.tmp 2) = .int .i64 la) (t3 : a.eval (.tmp 3) = .int .i64 sl) (t4 : a.eval (.tmp 4) = .int .i64 dy) (t5 : a.eval (.tmp 5) = .pointer (some ⟨b5, 0, none⟩)) (t11 : a.eval (.tmp 11) = .pointer (some ⟨b11, 0, none⟩)) (m0 : w.cell? ⟨b11, 0, none⟩ = some (.int .i64 src)) (m2 : w.cell? ⟨b11, 2, none⟩ = some (.int .i64 mn)) (m3 : w.cell? ⟨b11, 3, none⟩ = some (.int .i64 lo)) (m4 : w.cell? ⟨b11, 4, none⟩ = some (.int .i64 hi)) (q0 : w.cell? ⟨b5, 0, none⟩ = some (.int .i64 o)) (q1 : w.cell? ⟨b5, 1, none⟩ = some (.int .i64 t)) (q2 : w.cell? ⟨b5, 2, none⟩ = some (.slice A nl c)) (hh : CV w 40 #[.slice A1 n1 c1, .int .i64 sl] (.bool true)) : OpOk Try.prog opsMy0 (wordsMy0 b5 b11 A A1 nl c n1 c1 o t la sl dy src mn lo hi sk) 46 a w 10 := by
  refine OpOk.gen rfl (fun a1 w1 H => ?_)
  have d4 : a1.eval (.tmp 21) = .bool false := H.dep 4 21 rfl (by kernel_rfl)
  refine gd_false rfl d4 (by decide) ?_
  trivial
theorem okMy0_11 {b5 b11 : Nat} {A A1 : Option Addr} {nl c n1 c1 : Nat} {o t la sl dy src mn lo hi sk : Int} {a : Act} {w : World} (t1 : a.eval (.tmp 1) = .slice A1 n1 c1) (t2 : a.eval (.tmp 2) = .int .i64 la) (t3 : a.eval (.tmp 3) = .int .i64 sl) (t4 : a.eval (.tmp 4) = .int .i64 dy) (t5 : a.eval (.tmp 5) = .pointer (some ⟨b5, 0, none⟩)) (t11 : a.eval (.tmp 11) = .pointer (some ⟨b11, 0, none⟩)) (m0 : w.cell? ⟨b11, 0, none⟩ = some (.int .i64 src)) (m2 : w.cell? ⟨b11, 2, none⟩ = some (.int .i64 mn)) (m3 : w.cell? ⟨b11, 3, none⟩ = some (.int .i64 lo)) (m4 : w.cell? ⟨b11, 4, none⟩ = some (.int .i64 hi)) (q0 : w.cell? ⟨b5, 0, none⟩ = some (.int .i64 o)) (q1 : w.cell? ⟨b5, 1, none⟩ = some (.int .i64 t)) (q2 : w.cell? ⟨b5, 2, none⟩ = some (.slice A nl c)) (hh : CV w 40 #[.slice A1 n1 c1, .int .i64 sl] (.bool true)) : OpOk Try.prog opsMy0 (wordsMy0 b5 b11 A A1 nl c n1 c1 o t la sl dy src mn lo hi sk) 46 a w 11 := by
  refine OpOk.gen rfl (fun a1 w1 H => ?_)
  have d4 : a1.eval (.tmp 21) = .bool false := H.dep 4 21 rfl (by kernel_rfl)
  refine gd_false rfl d4 (by decide) ?_
  trivial
theorem okMy0_12 {b5 b11 : Nat} {A A1 : Option Addr} {nl c n1 c1 : Nat} {o t la sl dy src mn lo hi sk : Int} {a : Act} {w : World} (t1 : a.eval (.tmp 1) = .slice A1 n1 c1) (t2 : a.eval (.tmp 2) = .int .i64 la) (t3 : a.eval (.tmp 3) = .int .i64 sl) (t4 : a.eval (.tmp 4) = .int .i64 dy) (t5 : a.eval (.tmp 5) = .pointer (some ⟨b5, 0, none⟩)) (t11 : a.eval (.tmp 11) = .pointer (some ⟨b11, 0, none⟩)) (m0 : w.cell? ⟨b11, 0, none⟩ = some (.int .i64 src)) (m2 : w.cell? ⟨b11, 2, none⟩ = some (.int .i64 mn)) (m3 : w.cell? ⟨b11, 3, none⟩ = some (.int .i64 lo)) (m4 : w.cell? ⟨b11, 4, none⟩ = some (.int .i64 hi)) (q0 : w.cell? ⟨b5, 0, none⟩ = some (.int .i64 o)) (q1 : w.cell? ⟨b5, 1, none⟩ = some (.int .i64 t)) (q2 : w.cell? ⟨b5, 2, none⟩ = some (.slice A nl c)) (hh : CV w 40 #[.slice A1 n1 c1, .int .i64 sl] (.bool true)) : OpOk Try.prog opsMy0 (wordsMy0 b5 b11 A A1 nl c n1 c1 o t la sl dy src mn lo hi sk) 46 a w 12 := by
  refine OpOk.gen rfl (fun a1 w1 H => ?_)
  have d4 : a1.eval (.tmp 21) = .bool false := H.dep 4 21 rfl (by kernel_rfl)
  refine gd_false rfl d4 (by decide) ?_
  trivial
theorem okMy0_13 {b5 b11 : Nat} {A A1 : Option Addr} {nl c n1 c1 : Nat} {o t la sl dy src mn lo hi sk : Int} {a : Act} {w : World} (t1 : a.eval (.tmp 1) = .slice A1 n1 c1) (t2 : a.eval (.tmp 2) = .int .i64 la) (t3 : a.eval (.tmp 3) = .int .i64 sl) (t4 : a.eval (.tmp 4) = .int .i64 dy) (t5 : a.eval (.tmp 5) = .pointer (some ⟨b5, 0, none⟩)) (t11 : a.eval (.tmp 11) = .pointer (some ⟨b11, 0, none⟩)) (m0 : w.cell? ⟨b11, 0, none⟩ = some (.int .i64 src)) (m2 : w.cell? ⟨b11, 2, none⟩ = some (.int .i64 mn)) (m3 : w.cell? ⟨b11, 3, none⟩ = some (.int .i64 lo)) (m4 : w.cell? ⟨b11, 4, none⟩ = some (.int .i64 hi)) (q0 : w.cell? ⟨b5, 0, none⟩ = some (.int .i64 o)) (q1 : w.cell? ⟨b5, 1, none⟩ = some (.int .i64 t)) (q2 : w.cell? ⟨b5, 2, none⟩ = some (.slice A nl c)) (hh : CV w 40 #[.slice A1 n1 c1, .int .i64 sl] (.bool true)) : OpOk Try.prog opsMy0 (wordsMy0 b5 b11 A A1 nl c n1 c1 o t la sl dy src mn lo hi sk) 46 a w 13 := by
  refine OpOk.gen rfl (fun a1 w1 H => ?_)
  have d4 : a1.eval (.tmp 21) = .bool false := H.dep 4 21 rfl (by kernel_rfl)
  refine gd_none ?_
  exact OpW.pick (b := false) d4 rfl
theorem okMy0_14 {b5 b11 : Nat} {A A1 : Option Addr} {nl c n1 c1 : Nat} {o t la sl dy src mn lo hi sk : Int} {a : Act} {w : World} (t1 : a.eval (.tmp 1) = .slice A1 n1 c1) (t2 : a.eval (.tmp 2) = .int .i64 la) (t3 : a.eval (.tmp 3) = .int .i64 sl) (t4 : a.eval (.tmp 4) = .int .i64 dy) (t5 : a.eval (.tmp 5) = .pointer (some ⟨b5, 0, none⟩)) (t11 : a.eval (.tmp 11) = .pointer (some ⟨b11, 0, none⟩)) (m0 : w.cell? ⟨b11, 0, none⟩ = some (.int .i64 src)) (m2 : w.cell? ⟨b11, 2, none⟩ = some (.int .i64 mn)) (m3 : w.cell? ⟨b11, 3, none⟩ = some (.int .i64 lo)) (m4 : w.cell? ⟨b11, 4, none⟩ = some (.int .i64 hi)) (q0 : w.cell? ⟨b5, 0, none⟩ = some (.int .i64 o)) (q1 : w.cell? ⟨b5, 1, none⟩ = some (.int .i64 t)) (q2 : w.cell? ⟨b5, 2, none⟩ = some (.slice A nl c)) (hh : CV w 40 #[.slice A1 n1 c1, .int .i64 sl] (.bool true)) : OpOk Try.prog opsMy0 (wordsMy0 b5 b11 A A1 nl c n1 c1 o t la sl dy src mn lo hi sk) 46 a w 14 := by
  refine OpOk.gen rfl (fun a1 w1 H => ?_)
  have d13 : a1.eval (.tmp 30) = .bool false := H.dep 13 30 rfl (by kernel_rfl)
  refine gd_none ?_
  exact OpW.move d13 rfl
theorem okMy0_15 {b5 b11 : Nat} {A A1 : Option Addr} {nl c n1 c1 : Nat} {o t la sl dy src mn lo hi sk : Int} {a : Act} {w : World} (t1 : a.eval (.tmp 1) = .slice A1 n1 c1) (t2 : a.eval (.tmp 2) = .int .i64 la) (t3 : a.eval (.tmp 3) = .int .i64 sl) (t4 : a.eval (.tmp 4) = .int .i64 dy) (t5 : a.eval (.tmp 5) = .pointer (some ⟨b5, 0, none⟩)) (t11 : a.eval (.tmp 11) = .pointer (some ⟨b11, 0, none⟩)) (m0 : w.cell? ⟨b11, 0, none⟩ = some (.int .i64 src)) (m2 : w.cell? ⟨b11, 2, none⟩ = some (.int .i64 mn)) (m3 : w.cell? ⟨b11, 3, none⟩ = some (.int .i64 lo)) (m4 : w.cell? ⟨b11, 4, none⟩ = some (.int .i64 hi)) (q0 : w.cell? ⟨b5, 0, none⟩ = some (.int .i64 o)) (q1 : w.cell? ⟨b5, 1, none⟩ = some (.int .i64 t)) (q2 : w.cell? ⟨b5, 2, none⟩ = some (.slice A nl c)) (hh : CV w 40 #[.slice A1 n1 c1, .int .i64 sl] (.bool true)) : OpOk Try.prog opsMy0 (wordsMy0 b5 b11 A A1 nl c n1 c1 o t la sl dy src mn lo hi sk) 46 a w 15 := by
  refine OpOk.gen rfl (fun a1 w1 H => ?_)
  have d14 : a1.eval (.tmp 31) = .bool false := H.dep 14 31 rfl (by kernel_rfl)
  refine gd_false rfl d14 (by decide) ?_
  trivial
theorem okMy0_16 {b5 b11 : Nat} {A A1 : Option Addr} {nl c n1 c1 : Nat} {o t la sl dy src mn lo hi sk : Int} {a : Act} {w : World} (t1 : a.eval (.tmp 1) = .slice A1 n1 c1) (t2 : a.eval (.tmp 2) = .int .i64 la) (t3 : a.eval (.tmp 3) = .int .i64 sl) (t4 : a.eval (.tmp 4) = .int .i64 dy) (t5 : a.eval (.tmp 5) = .pointer (some ⟨b5, 0, none⟩)) (t11 : a.eval (.tmp 11) = .pointer (some ⟨b11, 0, none⟩)) (m0 : w.cell? ⟨b11, 0, none⟩ = some (.int .i64 src)) (m2 : w.cell? ⟨b11, 2, none⟩ = some (.int .i64 mn)) (m3 : w.cell? ⟨b11, 3, none⟩ = some (.int .i64 lo)) (m4 : w.cell? ⟨b11, 4, none⟩ = some (.int .i64 hi)) (q0 : w.cell? ⟨b5, 0, none⟩ = some (.int .i64 o)) (q1 : w.cell? ⟨b5, 1, none⟩ = some (.int .i64 t)) (q2 : w.cell? ⟨b5, 2, none⟩ = some (.slice A nl c)) (hh : CV w 40 #[.slice A1 n1 c1, .int .i64 sl] (.bool true)) : OpOk Try.prog opsMy0 (wordsMy0 b5 b11 A A1 nl c n1 c1 o t la sl dy src mn lo hi sk) 46 a w 16 := by
  refine OpOk.gen rfl (fun a1 w1 H => ?_)
  have d14 : a1.eval (.tmp 31) = .bool false := H.dep 14 31 rfl (by kernel_rfl)
  refine gd_false rfl d14 (by decide) ?_
  trivial
theorem okMy0_17 {b5 b11 : Nat} {A A1 : Option Addr} {nl c n1 c1 : Nat} {o t la sl dy src mn lo hi sk : Int} {a : Act} {w : World} (t1 : a.eval (.tmp 1) = .slice A1 n1 c1) (t2 : a.eval (.tmp 2) = .int .i64 la) (t3 : a.eval (.tmp 3) = .int .i64 sl) (t4 : a.eval (.tmp 4) = .int .i64 dy) (t5 : a.eval (.tmp 5) = .pointer (some ⟨b5, 0, none⟩)) (t11 : a.eval (.tmp 11) = .pointer (some ⟨b11, 0, none⟩)) (m0 : w.cell? ⟨b11, 0, none⟩ = some (.int .i64 src)) (m2 : w.cell? ⟨b11, 2, none⟩ = some (.int .i64 mn)) (m3 : w.cell? ⟨b11, 3, none⟩ = some (.int .i64 lo)) (m4 : w.cell? ⟨b11, 4, none⟩ = some (.int .i64 hi)) (q0 : w.cell? ⟨b5, 0, none⟩ = some (.int .i64 o)) (q1 : w.cell? ⟨b5, 1, none⟩ = some (.int .i64 t)) (q2 : w.cell? ⟨b5, 2, none⟩ = some (.slice A nl c)) (hh : CV w 40 #[.slice A1 n1 c1, .int .i64 sl] (.bool true)) : OpOk Try.prog opsMy0 (wordsMy0 b5 b11 A A1 nl c n1 c1 o t la sl dy src mn lo hi sk) 46 a w 17 := by
  refine OpOk.gen rfl (fun a1 w1 H => ?_)
  have d14 : a1.eval (.tmp 31) = .bool false := H.dep 14 31 rfl (by kernel_rfl)
  refine gd_false rfl d14 (by decide) ?_
  trivial
theorem okMy0_18 {b5 b11 : Nat} {A A1 : Option Addr} {nl c n1 c1 : Nat} {o t la sl dy src mn lo hi sk : Int} {a : Act} {w : World} (t1 : a.eval (.tmp 1) = .slice A1 n1 c1) (t2 : a.eval (.tmp 2) = .int .i64 la) (t3 : a.eval (.tmp 3) = .int .i64 sl) (t4 : a.eval (.tmp 4) = .int .i64 dy) (t5 : a.eval (.tmp 5) = .pointer (some ⟨b5, 0, none⟩)) (t11 : a.eval (.tmp 11) = .pointer (some ⟨b11, 0, none⟩)) (m0 : w.cell? ⟨b11, 0, none⟩ = some (.int .i64 src)) (m2 : w.cell? ⟨b11, 2, none⟩ = some (.int .i64 mn)) (m3 : w.cell? ⟨b11, 3, none⟩ = some (.int .i64 lo)) (m4 : w.cell? ⟨b11, 4, none⟩ = some (.int .i64 hi)) (q0 : w.cell? ⟨b5, 0, none⟩ = some (.int .i64 o)) (q1 : w.cell? ⟨b5, 1, none⟩ = some (.int .i64 t)) (q2 : w.cell? ⟨b5, 2, none⟩ = some (.slice A nl c)) (hh : CV w 40 #[.slice A1 n1 c1, .int .i64 sl] (.bool true)) : OpOk Try.prog opsMy0 (wordsMy0 b5 b11 A A1 nl c n1 c1 o t la sl dy src mn lo hi sk) 46 a w 18 := by
  refine OpOk.gen rfl (fun a1 w1 H => ?_)
  have d14 : a1.eval (.tmp 31) = .bool false := H.dep 14 31 rfl (by kernel_rfl)
  refine gd_none ?_
  exact OpW.pick (b := false) d14 rfl
theorem okMy0_19 {b5 b11 : Nat} {A A1 : Option Addr} {nl c n1 c1 : Nat} {o t la sl dy src mn lo hi sk : Int} {a : Act} {w : World} (t1 : a.eval (.tmp 1) = .slice A1 n1 c1) (t2 : a.eval (.tmp 2) = .int .i64 la) (t3 : a.eval (.tmp 3) = .int .i64 sl) (t4 : a.eval (.tmp 4) = .int .i64 dy) (t5 : a.eval (.tmp 5) = .pointer (some ⟨b5, 0, none⟩)) (t11 : a.eval (.tmp 11) = .pointer (some ⟨b11, 0, none⟩)) (m0 : w.cell? ⟨b11, 0, none⟩ = some (.int .i64 src)) (m2 : w.cell? ⟨b11, 2, none⟩ = some (.int .i64 mn)) (m3 : w.cell? ⟨b11, 3, none⟩ = some (.int .i64 lo)) (m4 : w.cell? ⟨b11, 4, none⟩ = some (.int .i64 hi)) (q0 : w.cell? ⟨b5, 0, none⟩ = some (.int .i64 o)) (q1 : w.cell? ⟨b5, 1, none⟩ = some (.int .i64 t)) (q2 : w.cell? ⟨b5, 2, none⟩ = some (.slice A nl c)) (hh : CV w 40 #[.slice A1 n1 c1, .int .i64 sl] (.bool true)) : OpOk Try.prog opsMy0 (wordsMy0 b5 b11 A A1 nl c n1 c1 o t la sl dy src mn lo hi sk) 46 a w 19 := by
  refine OpOk.gen rfl (fun a1 w1 H => ?_)
  have d18 : a1.eval (.tmp 35) = .bool false := H.dep 18 35 rfl (by kernel_rfl)
  refine gd_none ?_
  exact OpW.move d18 rfl
theorem okMy0_20 {b5 b11 : Nat} {A A1 : Option Addr} {nl c n1 c1 : Nat} {o t la sl dy src mn lo hi sk : Int} {a : Act} {w : World} (t1 : a.eval (.tmp 1) = .slice A1 n1 c1) (t2 : a.eval (.tmp 2) = .int .i64 la) (t3 : a.eval (.tmp 3) = .int .i64 sl) (t4 : a.eval (.tmp 4) = .int .i64 dy) (t5 : a.eval (.tmp 5) = .pointer (some ⟨b5, 0, none⟩)) (t11 : a.eval (.tmp 11) = .pointer (some ⟨b11, 0, none⟩)) (m0 : w.cell? ⟨b11, 0, none⟩ = some (.int .i64 src)) (m2 : w.cell? ⟨b11, 2, none⟩ = some (.int .i64 mn)) (m3 : w.cell? ⟨b11, 3, none⟩ = some (.int .i64 lo)) (m4 : w.cell? ⟨b11, 4, none⟩ = some (.int .i64 hi)) (q0 : w.cell? ⟨b5, 0, none⟩ = some (.int .i64 o)) (q1 : w.cell? ⟨b5, 1, none⟩ = some (.int .i64 t)) (q2 : w.cell? ⟨b5, 2, none⟩ = some (.slice A nl c)) (hh : CV w 40 #[.slice A1 n1 c1, .int .i64 sl] (.bool true)) : OpOk Try.prog opsMy0 (wordsMy0 b5 b11 A A1 nl c n1 c1 o t la sl dy src mn lo hi sk) 46 a w 20 := by
  refine OpOk.gen rfl (fun a1 w1 H => ?_)
  have d19 : a1.eval (.tmp 36) = .bool false := H.dep 19 36 rfl (by kernel_rfl)
  refine gd_false rfl d19 (by decide) ?_
  trivial
theorem okMy0_21 {b5 b11 : Nat} {A A1 : Option Addr} {nl c n1 c1 : Nat} {o t la sl dy src mn lo hi sk : Int} {a : Act} {w : World} (t1 : a.eval (.tmp 1) = .slice A1 n1 c1) (t2 : a.eval (.tmp 2) = .int .i64 la) (t3 : a.eval (.tmp 3) = .int .i64 sl) (t4 : a.eval (.tmp 4) = .int .i64 dy) (t5 : a.eval (.tmp 5) = .pointer (some ⟨b5, 0, none⟩)) (t11 : a.eval (.tmp 11) = .pointer (some ⟨b11, 0, none⟩)) (m0 : w.cell? ⟨b11, 0, none⟩ = some (.int .i64 src)) (m2 : w.cell? ⟨b11, 2, none⟩ = some (.int .i64 mn)) (m3 : w.cell? ⟨b11, 3, none⟩ = some (.int .i64 lo)) (m4 : w.cell? ⟨b11, 4, none⟩ = some (.int .i64 hi)) (q0 : w.cell? ⟨b5, 0, none⟩ = some (.int .i64 o)) (q1 : w.cell? ⟨b5, 1, none⟩ = some (.int .i64 t)) (q2 : w.cell? ⟨b5, 2, none⟩ = some (.slice A nl c)) (hh : CV w 40 #[.slice A1 n1 c1, .int .i64 sl] (.bool true)) : OpOk Try.prog opsMy0 (wordsMy0 b5 b11 A A1 nl c n1 c1 o t la sl dy src mn lo hi sk) 46 a w 21 := by
  refine OpOk.gen rfl (fun a1 w1 H => ?_)
  have d19 : a1.eval (.tmp 36) = .bool false := H.dep 19 36 rfl (by kernel_rfl)
  refine gd_false rfl d19 (by decide) ?_
  trivial
theorem okMy0_22 {b5 b11 : Nat} {A A1 : Option Addr} {nl c n1 c1 : Nat} {o t la sl dy src mn lo hi sk : Int} {a : Act} {w : World} (t1 : a.eval (.tmp 1) = .slice A1 n1 c1) (t2 : a.eval (.tmp 2) = .int .i64 la) (t3 : a.eval (.tmp 3) = .int .i64 sl) (t4 : a.eval (.tmp 4) = .int .i64 dy) (t5 : a.eval (.tmp 5) = .pointer (some ⟨b5, 0, none⟩)) (t11 : a.eval (.tmp 11) = .pointer (some ⟨b11, 0, none⟩)) (m0 : w.cell? ⟨b11, 0, none⟩ = some (.int .i64 src)) (m2 : w.cell? ⟨b11, 2, none⟩ = some (.int .i64 mn)) (m3 : w.cell? ⟨b11, 3, none⟩ = some (.int .i64 lo)) (m4 : w.cell? ⟨b11, 4, none⟩ = some (.int .i64 hi)) (q0 : w.cell? ⟨b5, 0, none⟩ = some (.int .i64 o)) (q1 : w.cell? ⟨b5, 1, none⟩ = some (.int .i64 t)) (q2 : w.cell? ⟨b5, 2, none⟩ = some (.slice A nl c)) (hh : CV w 40 #[.slice A1 n1 c1, .int .i64 sl] (.bool true)) : OpOk Try.prog opsMy0 (wordsMy0 b5 b11 A A1 nl c n1 c1 o t la sl dy src mn lo hi sk) 46 a w 22 := by
  refine OpOk.gen rfl (fun a1 w1 H => ?_)
  have d19 : a1.eval (.tmp 36) = .bool false := H.dep 19 36 rfl (by kernel_rfl)
  refine gd_false rfl d19 (by decide) ?_
  trivial
theorem okMy0_23 {b5 b11 : Nat} {A A1 : Option Addr} {nl c n1 c1 : Nat} {o t la sl dy src mn lo hi sk : Int} {a : Act} {w : World} (t1 : a.eval (.tmp 1) = .slice A1 n1 c1) (t2 : a.eval (.tmp 2) = .int .i64 la) (t3 : a.eval (.tmp 3) = .int .i64 sl) (t4 : a.eval (.tmp 4) = .int .i64 dy) (t5 : a.eval (.tmp 5) = .pointer (some ⟨b5, 0, none⟩)) (t11 : a.eval (.tmp 11) = .pointer (some ⟨b11, 0, none⟩)) (m0 : w.cell? ⟨b11, 0, none⟩ = some (.int .i64 src)) (m2 : w.cell? ⟨b11, 2, none⟩ = some (.int .i64 mn)) (m3 : w.cell? ⟨b11, 3, none⟩ = some (.int .i64 lo)) (m4 : w.cell? ⟨b11, 4, none⟩ = some (.int .i64 hi)) (q0 : w.cell? ⟨b5, 0, none⟩ = some (.int .i64 o)) (q1 : w.cell? ⟨b5, 1, none⟩ = some (.int .i64 t)) (q2 : w.cell? ⟨b5, 2, none⟩ = some (.slice A nl c)) (hh : CV w 40 #[.slice A1 n1 c1, .int .i64 sl] (.bool true)) : OpOk Try.prog opsMy0 (wordsMy0 b5 b11 A A1 nl c n1 c1 o t la sl dy src mn lo hi sk) 46 a w 23 := by
  refine OpOk.gen rfl (fun a1 w1 H => ?_)
  have d19 : a1.eval (.tmp 36) = .bool false := H.dep 19 36 rfl (by kernel_rfl)
  refine gd_false rfl d19 (by decide) ?_
  trivial
theorem okMy0_24 {b5 b11 : Nat} {A A1 : Option Addr} {nl c n1 c1 : Nat} {o t la sl dy src mn lo hi sk : Int} {a : Act} {w : World} (t1 : a.eval (.tmp 1) = .slice A1 n1 c1) (t2 : a.eval (.tmp 2) = .int .i64 la) (t3 : a.eval (.tmp 3) = .int .i64 sl) (t4 : a.eval (.tmp 4) = .int .i64 dy) (t5 : a.eval (.tmp 5) = .pointer (some ⟨b5, 0, none⟩)) (t11 : a.eval (.tmp 11) = .pointer (some ⟨b11, 0, none⟩)) (m0 : w.cell? ⟨b11, 0, none⟩ = some (.int .i64 src)) (m2 : w.cell? ⟨b11, 2, none⟩ = some (.int .i64 mn)) (m3 : w.cell? ⟨b11, 3, none⟩ = some (.int .i64 lo)) (m4 : w.cell? ⟨b11, 4, none⟩ = some (.int .i64 hi)) (q0 : w.cell? ⟨b5, 0, none⟩ = some (.int .i64 o)) (q1 : w.cell? ⟨b5, 1, none⟩ = some (.int .i64 t)) (q2 : w.cell? ⟨b5, 2, none⟩ = some (.slice A nl c)) (hh : CV w 40 #[.slice A1 n1 c1, .int .i64 sl] (.bool true)) : OpOk Try.prog opsMy0 (wordsMy0 b5 b11 A A1 nl c n1 c1 o t la sl dy src mn lo hi sk) 46 a w 24 := by
  refine OpOk.gen rfl (fun a1 w1 H => ?_)
  have d19 : a1.eval (.tmp 36) = .bool false := H.dep 19 36 rfl (by kernel_rfl)
  refine gd_false rfl d19 (by decide) ?_
  trivial
theorem okMy0_25 {b5 b11 : Nat} {A A1 : Option Addr} {nl c n1 c1 : Nat} {o t la sl dy src mn lo hi sk : Int} {a : Act} {w : World} (t1 : a.eval (.tmp 1) = .slice A1 n1 c1) (t2 : a.eval (.tmp 2) = .int .i64 la) (t3 : a.eval (.tmp 3) = .int .i64 sl) (t4 : a.eval (.tmp 4) = .int .i64 dy) (t5 : a.eval (.tmp 5) = .pointer (some ⟨b5, 0, none⟩)) (t11 : a.eval (.tmp 11) = .pointer (some ⟨b11, 0, none⟩)) (m0 : w.cell? ⟨b11, 0, none⟩ = some (.int .i64 src)) (m2 : w.cell? ⟨b11, 2, none⟩ = some (.int .i64 mn)) (m3 : w.cell? ⟨b11, 3, none⟩ = some (.int .i64 lo)) (m4 : w.cell? ⟨b11, 4, none⟩ = some (.int .i64 hi)) (q0 : w.cell? ⟨b5, 0, none⟩ = some (.int .i64 o)) (q1 : w.cell? ⟨b5, 1, none⟩ = some (.int .i64 t)) (q2 : w.cell? ⟨b5, 2, none⟩ = some (.slice A nl c)) (hh : CV w 40 #[.slice A1 n1 c1, .int .i64 sl] (.bool true)) : OpOk Try.prog opsMy0 (wordsMy0 b5 b11 A A1 nl c n1 c1 o t la sl dy src mn lo hi sk) 46 a w 25 := by
  refine OpOk.gen rfl (fun a1 w1 H => ?_)
  have d19 : a1.eval (.tmp 36) = .bool false := H.dep 19 36 rfl (by kernel_rfl)
  refine gd_false rfl d19 (by decide) ?_
  trivial
theorem okMy0_26 {b5 b11 : Nat} {A A1 : Option Addr} {nl c n1 c1 : Nat} {o t la sl dy src mn lo hi sk : Int} {a : Act} {w : World} (t1 : a.eval (.tmp 1) = .slice A1 n1 c1) (t2 : a.eval (.tmp 2) = .int .i64 la) (t3 : a.eval (.tmp 3) = .int .i64 sl) (t4 : a.eval (.tmp 4) = .int .i64 dy) (t5 : a.eval (.tmp 5) = .pointer (some ⟨b5, 0, none⟩)) (t11 : a.eval (.tmp 11) = .pointer (some ⟨b11, 0, none⟩)) (m0 : w.cell? ⟨b11, 0, none⟩ = some (.int .i64 src)) (m2 : w.cell? ⟨b11, 2, none⟩ = some (.int .i64 mn)) (m3 : w.cell? ⟨b11, 3, none⟩ = some (.int .i64 lo)) (m4 : w.cell? ⟨b11, 4, none⟩ = some (.int .i64 hi)) (q0 : w.cell? ⟨b5, 0, none⟩ = some (.int .i64 o)) (q1 : w.cell? ⟨b5, 1, none⟩ = some (.int .i64 t)) (q2 : w.cell? ⟨b5, 2, none⟩ = some (.slice A nl c)) (hh : CV w 40 #[.slice A1 n1 c1, .int .i64 sl] (.bool true)) : OpOk Try.prog opsMy0 (wordsMy0 b5 b11 A A1 nl c n1 c1 o t la sl dy src mn lo hi sk) 46 a w 26 := by
  refine OpOk.gen rfl (fun a1 w1 H => ?_)
  have d19 : a1.eval (.tmp 36) = .bool false := H.dep 19 36 rfl (by kernel_rfl)
  refine gd_false rfl d19 (by decide) ?_
  trivial
theorem okMy0_27 {b5 b11 : Nat} {A A1 : Option Addr} {nl c n1 c1 : Nat} {o t la sl dy src mn lo hi sk : Int} {a : Act} {w : World} (t1 : a.eval (.tmp 1) = .slice A1 n1 c1) (t2 : a.eval (.tmp 2) = .int .i64 la) (t3 : a.eval (.tmp 3) = .int .i64 sl) (t4 : a.eval (.tmp 4) = .int .i64 dy) (t5 : a.eval (.tmp 5) = .pointer (some ⟨b5, 0, none⟩)) (t11 : a.eval (.tmp 11) = .pointer (some ⟨b11, 0, none⟩)) (m0 : w.cell? ⟨b11, 0, none⟩ = some (.int .i64 src)) (m2 : w.cell? ⟨b11, 2, none⟩ = some (.int .i64 mn)) (m3 : w.cell? ⟨b11, 3, none⟩ = some (.int .i64 lo)) (m4 : w.cell? ⟨b11, 4, none⟩ = some (.int .i64 hi)) (q0 : w.cell? ⟨b5, 0, none⟩ = some (.int .i64 o)) (q1 : w.cell? ⟨b5, 1, none⟩ = some (.int .i64 t)) (q2 : w.cell? ⟨b5, 2, none⟩ = some (.slice A nl c)) (hh : CV w 40 #[.slice A1 n1 c1, .int .i64 sl] (.bool true)) : OpOk Try.prog opsMy0 (wordsMy0 b5 b11 A A1 nl c n1 c1 o t la sl dy src mn lo hi sk) 46 a w 27 := by
  refine OpOk.gen rfl (fun a1 w1 H => ?_)
  have d19 : a1.eval (.tmp 36) = .bool false := H.dep 19 36 rfl (by kernel_rfl)
  refine gd_false rfl d19 (by decide) ?_
  trivial
theorem okMy0_28 {b5 b11 : Nat} {A A1 : Option Addr} {nl c n1 c1 : Nat} {o t la sl dy src mn lo hi sk : Int} {a : Act} {w : World} (t1 : a.eval (.tmp 1) = .slice A1 n1 c1) (t2 : a.eval (.tmp 2) = .int .i64 la) (t3 : a.eval (.tmp 3) = .int .i64 sl) (t4 : a.eval (.tmp 4) = .int .i64 dy) (t5 : a.eval (.tmp 5) = .pointer (some ⟨b5, 0, none⟩)) (t11 : a.eval (.tmp 11) = .pointer (some ⟨b11, 0, none⟩)) (m0 : w.cell? ⟨b11, 0, none⟩ = some (.int .i64 src)) (m2 : w.cell? ⟨b11, 2, none⟩ = some (.int .i64 mn)) (m3 : w.cell? ⟨b11, 3, none⟩ = some (.int .i64 lo)) (m4 : w.cell? ⟨b11, 4, none⟩ = some (.int .i64 hi)) (q0 : w.cell? ⟨b5, 0, none⟩ = some (.int .i64 o)) (q1 : w.cell? ⟨b5, 1, none⟩ = some (.int .i64 t)) (q2 : w.cell? ⟨b5, 2, none⟩ = some (.slice A nl c)) (hh : CV w 40 #[.slice A1 n1 c1, .int .i64 sl] (.bool true)) : OpOk Try.prog opsMy0 (wordsMy0 b5 b11 A A1 nl c n1 c1 o t la sl dy src mn lo hi sk) 46 a w 28 := by
  refine OpOk.gen rfl (fun a1 w1 H => ?_)
  have d19 : a1.eval (.tmp 36) = .bool false := H.dep 19 36 rfl (by kernel_rfl)
  refine gd_none ?_
  exact OpW.pick (b := false) d19 rfl
theorem okMy0_29 {b5 b11 : Nat} {A A1 : Option Addr} {nl c n1 c1 : Nat} {o t la sl dy src mn lo hi sk : Int} {a : Act} {w : World} (t1 : a.eval (.tmp 1) = .slice A1 n1 c1) (t2 : a.eval (.tmp 2) = .int .i64 la) (t3 : a.eval (.tmp 3) = .int .i64 sl) (t4 : a.eval (.tmp 4) = .int .i64 dy) (t5 : a.eval (.tmp 5) = .pointer (some ⟨b5, 0, none⟩)) (t11 : a.eval (.tmp 11) = .pointer (some ⟨b11, 0, none⟩)) (m0 : w.cell? ⟨b11, 0, none⟩ = some (.int .i64 src)) (m2 : w.cell? ⟨b11, 2, none⟩ = some (.int .i64 mn)) (m3 : w.cell? ⟨b11, 3, none⟩ = some (.int .i64 lo)) (m4 : w.cell? ⟨b11, 4, none⟩ = some (.int .i64 hi)) (q0 : w.cell? ⟨b5, 0, none⟩ = some (.int .i64 o)) (q1 : w.cell? ⟨b5, 1, none⟩ = some (.int .i64 t)) (q2 : w.cell? ⟨b5, 2, none⟩ = some (.slice A nl c)) (hh : CV w 40 #[.slice A1 n1 c1, .int .i64 sl] (.bool true)) : OpOk Try.prog opsMy0 (wordsMy0 b5 b11 A A1 nl c n1 c1 o t la sl dy src mn lo hi sk) 46 a w 29 := by
  refine OpOk.gen rfl (fun a1 w1 H => ?_)
  have d28 : a1.eval (.tmp 45) = .bool false := H.dep 28 45 rfl (by kernel_rfl)
  refine gd_none ?_
  exact OpW.assign d28 rfl
theorem regionMy0 {F : Fence} {n : Nat} (hF : WideF F Try.prog) {Q : Exit → Act → World → Prop} {b5 b11 : Nat} {A A1 : Option Addr} {nl c n1 c1 : Nat} {o t la sl dy src mn lo hi sk : Int} {a : Act} {w : World} (hsz : a.tmps.size = 46)
    (t1 : a.eval (.tmp 1) = .slice A1 n1 c1) (t2 : a.eval (.tmp 2) = .int .i64 la) (t3 : a.eval (.tmp 3) = .int .i64 sl) (t4 : a.eval (.tmp 4) = .int .i64 dy) (t5 : a.eval (.tmp 5) = .pointer (some ⟨b5, 0, none⟩)) (t11 : a.eval (.tmp 11) = .pointer (some ⟨b11, 0, none⟩)) (m0 : w.cell? ⟨b11, 0, none⟩ = some (.int .i64 src)) (m2 : w.cell? ⟨b11, 2, none⟩ = some (.int .i64 mn)) (m3 : w.cell? ⟨b11, 3, none⟩ = some (.int .i64 lo)) (m4 : w.cell? ⟨b11, 4, none⟩ = some (.int .i64 hi)) (q0 : w.cell? ⟨b5, 0, none⟩ = some (.int .i64 o)) (q1 : w.cell? ⟨b5, 1, none⟩ = some (.int .i64 t)) (q2 : w.cell? ⟨b5, 2, none⟩ = some (.slice A nl c)) (hh : CV w 40 #[.slice A1 n1 c1, .int .i64 sl] (.bool true))
    (hK : ∀ (a' : Act) (w' : World), a'.tmps.size = 46 → a'.defers = a.defers → Below w.heap.size w w' → (∀ e, ndstB opsMy0 e = true → a'.eval (.tmp e) = a.eval (.tmp e)) → (∀ (j d : Nat), (opsMy0[j]?).bind (·.dst) = some d → (wordsMy0 b5 b11 A A1 nl c n1 c1 o t la sl dy src mn lo hi sk).at_ j (a'.eval (.tmp d)) w') → Q .normal a' w') :
    (Code.region 2 opsMy0 true).wpIn F n Try.prog Q a w := by
  refine region_S (wordsMy0 b5 b11 A A1 nl c n1 c1 o t la sl dy src mn lo hi sk) 46 hF (by kernel_rfl) Try.mixed (by kernel_rfl) (by kernel_rfl) ?_ hsz 30 (by kernel_rfl) ?_ hK
  · exact ⟨(fun _ _ _ h _ => h), (fun _ _ _ h _ => h), (fun _ _ _ h _ => h), (fun _ _ _ h _ => h), (fun _ _ _ h _ => h), (fun _ _ _ _ _ => trivial), (fun _ _ _ _ _ => trivial), (fun _ _ _ _ _ => trivial), (fun _ _ _ _ _ => trivial), (fun _ _ _ _ _ => trivial), (fun _ _ _ _ _ => trivial), (fun _ _ _ _ _ => trivial), (fun _ _ _ _ _ => trivial), (fun _ _ _ h _ => h), (fun _ _ _ h _ => h), (fun _ _ _ _ _ => trivial), (fun _ _ _ _ _ => trivial), (fun _ _ _ _ _ => trivial), (fun _ _ _ h _ => h), (fun _ _ _ h _ => h), (fun _ _ _ _ _ => trivial), (fun _ _ _ _ _ => trivial), (fun _ _ _ _ _ => trivial), (fun _ _ _ _ _ => trivial), (fun _ _ _ _ _ => trivial), (fun _ _ _ _ _ => trivial), (fun _ _ _ _ _ => trivial), (fun _ _ _ _ _ => trivial), (fun _ _ _ h _ => h), (fun _ _ _ h _ => h), trivial⟩
  · exact ⟨⟨⟨⟨⟨⟨⟨⟨⟨⟨⟨⟨⟨⟨⟨⟨⟨⟨⟨⟨⟨⟨⟨⟨⟨⟨⟨⟨⟨⟨trivial, okMy0_0 t1 t2 t3 t4 t5 t11 m0 m2 m3 m4 q0 q1 q2 hh.drew⟩, okMy0_1 t1 t2 t3 t4 t5 t11 m0 m2 m3 m4 q0 q1 q2 hh.drew⟩, okMy0_2 t1 t2 t3 t4 t5 t11 m0 m2 m3 m4 q0 q1 q2 hh.drew⟩, okMy0_3 t1 t2 t3 t4 t5 t11 m0 m2 m3 m4 q0 q1 q2 hh.drew⟩, okMy0_4 t1 t2 t3 t4 t5 t11 m0 m2 m3 m4 q0 q1 q2 hh.drew⟩, okMy0_5 t1 t2 t3 t4 t5 t11 m0 m2 m3 m4 q0 q1 q2 hh.drew⟩, okMy0_6 t1 t2 t3 t4 t5 t11 m0 m2 m3 m4 q0 q1 q2 hh.drew⟩, okMy0_7 t1 t2 t3 t4 t5 t11 m0 m2 m3 m4 q0 q1 q2 hh.drew⟩, okMy0_8 t1 t2 t3 t4 t5 t11 m0 m2 m3 m4 q0 q1 q2 hh.drew⟩, okMy0_9 t1 t2 t3 t4 t5 t11 m0 m2 m3 m4 q0 q1 q2 hh.drew⟩, okMy0_10 t1 t2 t3 t4 t5 t11 m0 m2 m3 m4 q0 q1 q2 hh.drew⟩, okMy0_11 t1 t2 t3 t4 t5 t11 m0 m2 m3 m4 q0 q1 q2 hh.drew⟩, okMy0_12 t1 t2 t3 t4 t5 t11 m0 m2 m3 m4 q0 q1 q2 hh.drew⟩, okMy0_13 t1 t2 t3 t4 t5 t11 m0 m2 m3 m4 q0 q1 q2 hh.drew⟩, okMy0_14 t1 t2 t3 t4 t5 t11 m0 m2 m3 m4 q0 q1 q2 hh.drew⟩, okMy0_15 t1 t2 t3 t4 t5 t11 m0 m2 m3 m4 q0 q1 q2 hh.drew⟩, okMy0_16 t1 t2 t3 t4 t5 t11 m0 m2 m3 m4 q0 q1 q2 hh.drew⟩, okMy0_17 t1 t2 t3 t4 t5 t11 m0 m2 m3 m4 q0 q1 q2 hh.drew⟩, okMy0_18 t1 t2 t3 t4 t5 t11 m0 m2 m3 m4 q0 q1 q2 hh.drew⟩, okMy0_19 t1 t2 t3 t4 t5 t11 m0 m2 m3 m4 q0 q1 q2 hh.drew⟩, okMy0_20 t1 t2 t3 t4 t5 t11 m0 m2 m3 m4 q0 q1 q2 hh.drew⟩, okMy0_21 t1 t2 t3 t4 t5 t11 m0 m2 m3 m4 q0 q1 q2 hh.drew⟩, okMy0_22 t1 t2 t3 t4 t5 t11 m0 m2 m3 m4 q0 q1 q2 hh.drew⟩, okMy0_23 t1 t2 t3 t4 t5 t11 m0 m2 m3 m4 q0 q1 q2 hh.drew⟩, okMy0_24 t1 t2 t3 t4 t5 t11 m0 m2 m3 m4 q0 q1 q2 hh.drew⟩, okMy0_25 t1 t2 t3 t4 t5 t11 m0 m2 m3 m4 q0 q1 q2 hh.drew⟩, okMy0_26 t1 t2 t3 t4 t5 t11 m0 m2 m3 m4 q0 q1 q2 hh.drew⟩, okMy0_27 t1 t2 t3 t4 t5 t11 m0 m2 m3 m4 q0 q1 q2 hh.drew⟩, okMy0_28 t1 t2 t3 t4 t5 t11 m0 m2 m3 m4 q0 q1 q2 hh.drew⟩, okMy0_29 t1 t2 t3 t4 t5 t11 m0 m2 m3 m4 q0 q1 q2 hh.drew⟩
noncomputable def opsMy1 : Array Oper := (Try.f52.body.bind (regionOf 2)).getD #[]
def wordsMy1 (b5 b11 : Nat) (A A1 : Option Addr) (nl c n1 c1 : Nat) (o t la sl dy src mn lo hi sk : Int) : Words := [fun v _ => v = .slice A1 n1 c1, fun v _ => v = .int .i64 sl, fun v _ => v = .bool false, fun v _ => v = .bool true, fun v _ => v = .bool true, fun v _ => v = .int .i64 dy, fun v _ => v = .pointer (some ⟨b11, 3, none⟩), fun v _ => v = .pointer (some ⟨b11, 3, none⟩), fun v _ => v = .int .i64 lo, fun v _ => v = .pointer (some ⟨b11, 3, none⟩), fun v _ => v = .pointer (some ⟨b11, 4, none⟩), fun v _ => v = .int .i64 hi, fun v _ => v = .bool false, fun v _ => v = .bool false, fun v _ => v = .bool false, fun _ _ => True, fun _ _ => True, fun _ _ => True, fun v _ => v = .bool false, fun v _ => v = .bool false, fun _ _ => True, fun _ _ => True, fun _ _ => True, fun _ _ => True, fun _ _ => True, fun _ _ => True, fun _ _ => True, fun _ _ => True, fun v _ => v = .bool false, fun v _ => v = .bool false]
theorem okMy1_0 {b5 b11 : Nat} {A A1 : Option Addr} {nl c n1 c1 : Nat} {o t la sl dy src mn lo hi sk : Int} {a : Act} {w : World} (t1 : a.eval (.tmp 1) = .slice A1 n1 c1) (t2 : a.eval (.tmp 2) = .int .i64 la) (t3 : a.eval (.tmp 3) = .int .i64 sl) (t4 : a.eval (.tmp 4) = .int .i64 dy) (t5 : a.eval (.tmp 5) = .pointer (some ⟨b5, 0, none⟩)) (t11 : a.eval (.tmp 11) = .pointer (some ⟨b11, 0, none⟩)) (m0 : w.cell? ⟨b11, 0, none⟩ = some (.int .i64 src)) (m2 : w.cell? ⟨b11, 2, none⟩ = some (.int .i64 mn)) (m3 : w.cell? ⟨b11, 3, none⟩ = some (.int .i64 lo)) (m4 : w.cell? ⟨b11, 4, none⟩ = some (.int .i64 hi)) (q0 : w.cell? ⟨b5, 0, none⟩ = some (.int .i64 o)) (q1 : w.cell? ⟨b5, 1, none⟩ = some (.int .i64 t)) (q2 : w.cell? ⟨b5, 2, none⟩ = some (.slice A nl c)) (hh : CV w 40 #[.slice A1 n1 c1, .int .i64 sl] (.bool false)) (hi' : CV w 31 #[.int .i64 dy, .int .i64 lo, .int .i64 hi] (.bool false)) : OpOk Try.prog opsMy1 (wordsMy1 b5 b11 A A1 nl c n1 c1 o t la sl dy src mn lo hi sk) 46 a w 0 := by
  refine OpOk.gen rfl (fun a1 w1 H => ?_)
  have e1 : a1.eval (.tmp 1) = .slice A1 n1 c1 := (H.out 1 (by kernel_rfl)).trans t1
  refine gd_none ?_
  exact OpW.move e1 rfl
theorem okMy1_1 {b5 b11 : Nat} {A A1 : Option Addr} {nl c n1 c1 : Nat} {o t la sl dy src mn lo hi sk : Int} {a : Act} {w : World} (t1 : a.eval (.tmp 1) = .slice A1 n1 c1) (t2 : a.eval (.tmp 2) = .int .i64 la) (t3 : a.eval (.tmp 3) = .int .i64 sl) (t4 : a.eval (.tmp 4) = .int .i64 dy) (t5 : a.eval (.tmp 5) = .pointer (some ⟨b5, 0, none⟩)) (t11 : a.eval (.tmp 11) = .pointer (some ⟨b11, 0, none⟩)) (m0 : w.cell? ⟨b11, 0, none⟩ = some (.int .i64 src)) (m2 : w.cell? ⟨b11, 2, none⟩ = some (.int .i64 mn)) (m3 : w.cell? ⟨b11, 3, none⟩ = some (.int .i64 lo)) (m4 : w.cell? ⟨b11, 4, none⟩ = some (.int .i64 hi)) (q0 : w.cell? ⟨b5, 0, none⟩ = some (.int .i64 o)) (q1 : w.cell? ⟨b5, 1, none⟩ = some (.int .i64 t)) (q2 : w.cell? ⟨b5, 2, none⟩ = some (.slice A nl c)) (hh : CV w 40 #[.slice A1 n1 c1, .int .i64 sl] (.bool false)) (hi' : CV w 31 #[.int .i64 dy, .int .i64 lo, .int .i64 hi] (.bool false)) : OpOk Try.prog opsMy1 (wordsMy1 b5 b11 A A1 nl c n1 c1 o t la sl dy src mn lo hi sk) 46 a w 1 := by
  refine OpOk.gen rfl (fun a1 w1 H => ?_)
  have e3 : a1.eval (.tmp 3) = .int .i64 sl := (H.out 3 (by kernel_rfl)).trans t3
  refine gd_none ?_
  exact OpW.move e3 rfl
theorem okMy1_2 {b5 b11 : Nat} {A A1 : Option Addr} {nl c n1 c1 : Nat} {o t la sl dy src mn lo hi sk : Int} {a : Act} {w : World} (t1 : a.eval (.tmp 1) = .slice A1 n1 c1) (t2 : a.eval (.tmp 2) = .int .i64 la) (t3 : a.eval (.tmp 3) = .int .i64 sl) (t4 : a.eval (.tmp 4) = .int .i64 dy) (t5 : a.eval (.tmp 5) = .pointer (some ⟨b5, 0, none⟩)) (t11 : a.eval (.tmp 11) = .pointer (some ⟨b11, 0, none⟩)) (m0 : w.cell? ⟨b11, 0, none⟩ = some (.int .i64 src)) (m2 : w.cell? ⟨b11, 2, none⟩ = some (.int .i64 mn)) (m3 : w.cell? ⟨b11, 3, none⟩ = some (.int .i64 lo)) (m4 : w.cell? ⟨b11, 4, none⟩ = some (.int .i64 hi)) (q0 : w.cell? ⟨b5, 0, none⟩ = some (.int .i64 o)) (q1 : w.cell? ⟨b5, 1, none⟩ = some (.int .i64 t)) (q2 : w.cell? ⟨b5, 2, none⟩ = some (.slice A nl c)) (hh : CV w 40 #[.slice A1 n1 c1, .int .i64 sl] (.bool false)) (hi' : CV w 31 #[.int .i64 dy, .int .i64 lo, .int .i64 hi] (.bool false)) : OpOk Try.prog opsMy1 (wordsMy1 b5 b11 A A1 nl c n1 c1 o t la sl dy src mn lo hi sk) 46 a w 2 := by
  refine OpOk.gen rfl (fun a1 w1 H => ?_)
  have d0 : a1.eval (.tmp 17) = .slice A1 n1 c1 := H.dep 0 17 rfl (by kernel_rfl)
  have d1 : a1.eval (.tmp 18) = .int .i64 sl := H.dep 1 18 rfl (by kernel_rfl)
  refine gd_none ?_
  exact OpW.call (vs := #[.slice A1 n1 c1, .int .i64 sl]) (enters_of Try.func40 (by kernel_rfl) rfl) (by simp [d0, d1]) (hh w1 H.low)
theorem okMy1_3 {b5 b11 : Nat} {A A1 : Option Addr} {nl c n1 c1 : Nat} {o t la sl dy src mn lo hi sk : Int} {a : Act} {w : World} (t1 : a.eval (.tmp 1) = .slice A1 n1 c1) (t2 : a.eval (.tmp 2) = .int .i64 la) (t3 : a.eval (.tmp 3) = .int .i64 sl) (t4 : a.eval (.tmp 4) = .int .i64 dy) (t5 : a.eval (.tmp 5) = .pointer (some ⟨b5, 0, none⟩)) (t11 : a.eval (.tmp 11) = .pointer (some ⟨b11, 0, none⟩)) (m0 : w.cell? ⟨b11, 0, none⟩ = some (.int .i64 src)) (m2 : w.cell? ⟨b11, 2, none⟩ = some (.int .i64 mn)) (m3 : w.cell? ⟨b11, 3, none⟩ = some (.int .i64 lo)) (m4 : w.cell? ⟨b11, 4, none⟩ = some (.int .i64 hi)) (q0 : w.cell? ⟨b5, 0, none⟩ = some (.int .i64 o)) (q1 : w.cell? ⟨b5, 1, none⟩ = some (.int .i64 t)) (q2 : w.cell? ⟨b5, 2, none⟩ = some (.slice A nl c)) (hh : CV w 40 #[.slice A1 n1 c1, .int .i64 sl] (.bool false)) (hi' : CV w 31 #[.int .i64 dy, .int .i64 lo, .int .i64 hi] (.bool false)) : OpOk Try.prog opsMy1 (wordsMy1 b5 b11 A A1 nl c n1 c1 o t la sl dy src mn lo hi sk) 46 a w 3 := by
  refine OpOk.gen rfl (fun a1 w1 H => ?_)
  have d2 : a1.eval (.tmp 19) = .bool false := H.dep 2 19 rfl (by kernel_rfl)
  refine gd_none ?_
  exact OpW.un d2 (not4 _ _) rfl
theorem okMy1_4 {b5 b11 : Nat} {A A1 : Option Addr} {nl c n1 c1 : Nat} {o t la sl dy src mn lo hi sk : Int} {a : Act} {w : World} (t1 : a.eval (.tmp 1) = .slice A1 n1 c1) (t2 : a.eval (.tmp 2) = .int .i64 la) (t3 : a.eval (.tmp 3) = .int .i64 sl) (t4 : a.eval (.tmp 4) = .int .i64 dy) (t5 : a.eval (.tmp 5) = .pointer (some ⟨b5, 0, none⟩)) (t11 : a.eval (.tmp 11) = .pointer (some ⟨b11, 0, none⟩)) (m0 : w.cell? ⟨b11, 0, none⟩ = some (.int .i64 src)) (m2 : w.cell? ⟨b11, 2, none⟩ = some (.int .i64 mn)) (m3 : w.cell? ⟨b11, 3, none⟩ = some (.int .i64 lo)) (m4 : w.cell? ⟨b11, 4, none⟩ = some (.int .i64 hi)) (q0 : w.cell? ⟨b5, 0, none⟩ = some (.int .i64 o)) (q1 : w.cell? ⟨b5, 1, none⟩ = some (.int .i64 t)) (q2 : w.cell? ⟨b5, 2, none⟩ = some (.slice A nl c)) (hh : CV w 40 #[.slice A1 n1 c1, .int .i64 sl] (.bool false)) (hi' : CV w 31 #[.int .i64 dy, .int .i64 lo, .int .i64 hi] (.bool false)) : OpOk Try.prog opsMy1 (wordsMy1 b5 b11 A A1 nl c n1 c1 o t la sl dy src mn lo hi sk) 46 a w 4 := by
  refine OpOk.gen rfl (fun a1 w1 H => ?_)
  have d3 : a1.eval (.tmp 20) = .bool true := H.dep 3 20 rfl (by kernel_rfl)
  refine gd_none ?_
  exact OpW.move d3 rfl
theorem okMy1_5 {b5 b11 : Nat} {A A1 : Option Addr} {nl c n1 c1 : Nat} {o t la sl dy src mn lo hi sk : Int} {a : Act} {w : World} (t1 : a.eval (.tmp 1) = .slice A1 n1 c1) (t2 : a.eval (.tmp 2) = .int .i64 la) (t3 : a.eval (.tmp 3) = .int .i64 sl) (t4 : a.eval (.tmp 4) = .int .i64 dy) (t5 : a.eval (.tmp 5) = .pointer (some ⟨b5, 0, none⟩)) (t11 : a.eval (.tmp 11) = .pointer (some ⟨b11, 0, none⟩)) (m0 : w.cell? ⟨b11, 0, none⟩ = some (.int .i64 src)) (m2 : w.cell? ⟨b11, 2, none⟩ = some (.int .i64 mn)) (m3 : w.cell? ⟨b11, 3, none⟩ = some (.int .i64 lo)) (m4 : w.cell? ⟨b11, 4, none⟩ = some (.int .i64 hi)) (q0 : w.cell? ⟨b5, 0, none⟩ = some (.int .i64 o)) (q1 : w.cell? ⟨b5, 1, none⟩ = some (.int .i64 t)) (q2 : w.cell? ⟨b5, 2, none⟩ = some (.slice A nl c)) (hh : CV w 40 #[.slice A1 n1 c1, .int .i64 sl] (.bool false)) (hi' : CV w 31 #[.int .i64 dy, .int .i64 lo, .int .i64 hi] (.bool false)) : OpOk Try.prog opsMy1 (wordsMy1 b5 b11 A A1 nl c n1 c1 o t la sl dy src mn lo hi sk) 46 a w 5 := by
  refine OpOk.gen rfl (fun a1 w1 H => ?_)
  have d4 : a1.eval (.tmp 21) = .bool true := H.dep 4 21 rfl (by kernel_rfl)
  have e4 : a1.eval (.tmp 4) = .int .i64 dy := (H.out 4 (by kernel_rfl)).trans t4
  refine gd_true rfl d4 ?_
  exact OpW.move e4 rfl
theorem okMy1_6 {b5 b11 : Nat} {A A1 : Option Addr} {nl c n1 c1 : Nat} {o t la sl dy src mn lo hi sk : Int} {a : Act} {w : World} (t1 : a.eval (.tmp 1) = .slice A1 n1 c1) (t2 : a.eval (.tmp 2) = .int .i64 la) (t3 : a.eval (.tmp 3) = .int .i64 sl) (t4 : a.eval (.tmp 4) = .int .i64 dy) (t5 : a.eval (.tmp 5) = .pointer (some ⟨b5, 0, none⟩)) (t11 : a.eval (.tmp 11) = .pointer (some ⟨b11, 0, none⟩)) (m0 : w.cell? ⟨b11, 0, none⟩ = some (.int .i64 src)) (m2 : w.cell? ⟨b11, 2, none⟩ = some (.int .i64 mn)) (m3 : w.cell? ⟨b11, 3, none⟩ = some (.int .i64 lo)) (m4 : w.cell? ⟨b11, 4, none⟩ = some (.int .i64 hi)) (q0 : w.cell? ⟨b5, 0, none⟩ = some (.int .i64 o)) (q1 : w.cell? ⟨b5, 1, none⟩ = some (.int .i64 t)) (q2 : w.cell? ⟨b5, 2, none⟩ = some (.slice A nl c)) (hh : CV w 40 #[.slice A1 n1 c1, .int .i64 sl] (.bool false)) (hi' : CV w 31 #[.int .i64 dy, .int .i64 lo, .int .i64 hi] (.bool false)) : OpOk Try.prog opsMy1 (wordsMy1 b5 b11 A A1 nl c n1 c1 o t la sl dy src mn lo hi sk) 46 a w 6 := by
  refine OpOk.gen rfl (fun a1 w1 H => ?_)
  have d4 : a1.eval (.tmp 21) = .bool true := H.dep 4 21 rfl (by kernel_rfl)
  have e11 : a1.eval (.tmp 11) = .pointer (some ⟨b11, 0, none⟩) := (H.out 11 (by kernel_rfl)).trans t11
  refine gd_true rfl d4 ?_
  exact OpW.field e11 (fa73_3 _) rfl
theorem okMy1_7 {b5 b11 : Nat} {A A1 : Option Addr} {nl c n1 c1 : Nat} {o t la sl dy src mn lo hi sk : Int} {a : Act} {w : World} (t1 : a.eval (.tmp 1) = .slice A1 n1 c1) (t2 : a.eval (.tmp 2) = .int .i64 la) (t3 : a.eval (.tmp 3) = .int .i64 sl) (t4 : a.eval (.tmp 4) = .int .i64 dy) (t5 : a.eval (.tmp 5) = .pointer (some ⟨b5, 0, none⟩)) (t11 : a.eval (.tmp 11) = .pointer (some ⟨b11, 0, none⟩)) (m0 : w.cell? ⟨b11, 0, none⟩ = some (.int .i64 src)) (m2 : w.cell? ⟨b11, 2, none⟩ = some (.int .i64 mn)) (m3 : w.cell? ⟨b11, 3, none⟩ = some (.int .i64 lo)) (m4 : w.cell? ⟨b11, 4, none⟩ = some (.int .i64 hi)) (q0 : w.cell? ⟨b5, 0, none⟩ = some (.int .i64 o)) (q1 : w.cell? ⟨b5, 1, none⟩ = some (.int .i64 t)) (q2 : w.cell? ⟨b5, 2, none⟩ = some (.slice A nl c)) (hh : CV w 40 #[.slice A1 n1 c1, .int .i64 sl] (.bool false)) (hi' : CV w 31 #[.int .i64 dy, .int .i64 lo, .int .i64 hi] (.bool false)) : OpOk Try.prog opsMy1 (wordsMy1 b5 b11 A A1 nl c n1 c1 o t la sl dy src mn lo hi sk) 46 a w 7 := by
  refine OpOk.gen rfl (fun a1 w1 H => ?_)
  have d4 : a1.eval (.tmp 21) = .bool true := H.dep 4 21 rfl (by kernel_rfl)
  have d6 : a1.eval (.tmp 23) = .pointer (some ⟨b11, 3, none⟩) := H.dep 6 23 rfl (by kernel_rfl)
  refine gd_true rfl d4 ?_
  exact OpW.field d6 (fa71_0 _) rfl
theorem okMy1_8 {b5 b11 : Nat} {A A1 : Option Addr} {nl c n1 c1 : Nat} {o t la sl dy src mn lo hi sk : Int} {a : Act} {w : World} (t1 : a.eval (.tmp 1) = .slice A1 n1 c1) (t2 : a.eval (.tmp 2) = .int .i64 la) (t3 : a.eval (.tmp 3) = .int .i64 sl) (t4 : a.eval (.tmp 4) = .int .i64 dy) (t5 : a.eval (.tmp 5) = .pointer (some ⟨b5, 0, none⟩)) (t11 : a.eval (.tmp 11) = .pointer (some ⟨b11, 0, none⟩)) (m0 : w.cell? ⟨b11, 0, none⟩ = some (.int .i64 src)) (m2 : w.cell? ⟨b11, 2, none⟩ = some (.int .i64 mn)) (m3 : w.cell? ⟨b11, 3, none⟩ = some (.int .i64 lo)) (m4 : w.cell? ⟨b11, 4, none⟩ = some (.int .i64 hi)) (q0 : w.cell? ⟨b5, 0, none⟩ = some (.int .i64 o)) (q1 : w.cell? ⟨b5, 1, none⟩ = some (.int .i64 t)) (q2 : w.cell? ⟨b5, 2, none⟩ = some (.slice A nl c)) (hh : CV w 40 #[.slice A1 n1 c1, .int .i64 sl] (.bool false)) (hi' : CV w 31 #[.int .i64 dy, .int .i64 lo, .int .i64 hi] (.bool false)) : OpOk Try.prog opsMy1 (wordsMy1 b5 b11 A A1 nl c n1 c1 o t la sl dy src mn lo hi sk) 46 a w 8 := by
  refine OpOk.gen rfl (fun a1 w1 H => ?_)
  have d4 : a1.eval (.tmp 21) = .bool true := H.dep 4 21 rfl (by kernel_rfl)
  have d7 : a1.eval (.tmp 24) = .pointer (some ⟨b11, 3, none⟩) := H.dep 7 24 rfl (by kernel_rfl)
  refine gd_true rfl d4 ?_
  exact OpW.load d7 (ld3 (H.cell m3)) rfl
theorem okMy1_9 {b5 b11 : Nat} {A A1 : Option Addr} {nl c n1 c1 : Nat} {o t la sl dy src mn lo hi sk : Int} {a : Act} {w : World} (t1 : a.eval (.tmp 1) = .slice A1 n1 c1) (t2 : a.eval (.tmp 2) = .int .i64 la) (t3 : a.eval (.tmp 3) = .int .i64 sl) (t4 : a.eval (.tmp 4) = .int .i64 dy) (t5 : a.eval (.tmp 5) = .pointer (some ⟨b5, 0, none⟩)) (t11 : a.eval (.tmp 11) = .pointer (some ⟨b11, 0, none⟩)) (m0 : w.cell? ⟨b11, 0, none⟩ = some (.int .i64 src)) (m2 : w.cell? ⟨b11, 2, none⟩ = some (.int .i64 mn)) (m3 : w.cell? ⟨b11, 3, none⟩ = some (.int .i64 lo)) (m4 : w.cell? ⟨b11, 4, none⟩ = some (.int .i64 hi)) (q0 : w.cell? ⟨b5, 0, none⟩ = some (.int .i64 o)) (q1 : w.cell? ⟨b5, 1, none⟩ = some (.int .i64 t)) (q2 : w.cell? ⟨b5, 2, none⟩ = some (.slice A nl c)) (hh : CV w 40 #[.slice A1 n1 c1, .int .i64 sl] (.bool false)) (hi' : CV w 31 #[.int .i64 dy, .int .i64 lo, .int .i64 hi] (.bool false)) : OpOk Try.prog opsMy1 (wordsMy1 b5 b11 A A1 nl c n1 c1 o t la sl dy src mn lo hi sk) 46 a w 9 := by
  refine OpOk.gen rfl (fun a1 w1 H => ?_)
  have d4 : a1.eval (.tmp 21) = .bool true := H.dep 4 21 rfl (by kernel_rfl)
  have e11 : a1.eval (.tmp 11) = .pointer (some ⟨b11, 0, none⟩) := (H.out 11 (by kernel_rfl)).trans t11
  refine gd_true rfl d4 ?_
  exact OpW.field e11 (fa73_3 _) rfl
theorem okMy1_10 {b5 b11 : Nat} {A A1 : Option Addr} {nl c n1 c1 : Nat} {o t la sl dy src mn lo hi sk : Int} {a : Act} {w : World} (t1 : a.eval (.tmp 1) = .slice A1 n1 c1) (t2 : a.eval (.tmp 2) = .int .i64 la) (t3 : a.eval (.tmp 3) = .int .i64 sl) (t4 : a.eval (.tmp 4) = .int .i64 dy) (t5 : a.eval (.tmp 5) = .pointer (some ⟨b5, 0, none⟩)) (t11 : a.eval (.tmp 11) = .pointer (some ⟨b11, 0, none⟩)) (m0 : w.cell? ⟨b11, 0, none⟩ = some (.int .i64 src)) (m2 : w.cell? ⟨b11, 2, none⟩ = some (.int .i64 mn)) (m3 : w.cell? ⟨b11, 3, none⟩ = some (.int .i64 lo)) (m4 : w.cell? ⟨b11, 4, none⟩ = some (.int .i64 hi)) (q0 : w.cell? ⟨b5, 0, none⟩ = some (.int .i64 o)) (q1 : w.cell? ⟨b5, 1, none⟩ = some (.int .i64 t)) (q2 : w.cell? ⟨b5, 2, none⟩ = some (.slice A nl c)) (hh : CV w 40 #[.slice A1 n1 c1, .int .i64 sl] (.bool false)) (hi' : CV w 31 #[.int .i64 dy, .int .i64 lo, .int .i64 hi] (.bool false)) : OpOk Try.prog opsMy1 (wordsMy1 b5 b11 A A1 nl c n1 c1 o t la sl dy src mn lo hi sk) 46 a w 10 := by
  refine OpOk.gen rfl (fun a1 w1 H => ?_)
  have d4 : a1.eval (.tmp 21) = .bool true := H.dep 4 21 rfl (by kernel_rfl)
  have d9 : a1.eval (.tmp 26) = .pointer (some ⟨b11, 3, none⟩) := H.dep 9 26 rfl (by kernel_rfl)
  refine gd_true rfl d4 ?_
  exact OpW.field d9 (fa71_1 _) rfl
theorem okMy1_11 {b5 b11 : Nat} {A A1 : Option Addr} {nl c n1 c1 : Nat} {o t la sl dy src mn lo hi sk : Int} {a : Act} {w : World} (t1 : a.eval (.tmp 1) = .slice A1 n1 c1) (t2 : a.eval (.tmp 2) = .int .i64 la) (t3 : a.eval (.tmp 3) = .int .i64 sl) (t4 : a.eval (.tmp 4) = .int .i64 dy) (t5 : a.eval (.tmp 5) = .pointer (some ⟨b5, 0, none⟩)) (t11 : a.eval (.tmp 11) = .pointer (some ⟨b11, 0, none⟩)) (m0 : w.cell? ⟨b11, 0, none⟩ = some (.int .i64 src)) (m2 : w.cell? ⟨b11, 2, none⟩ = some (.int .i64 mn)) (m3 : w.cell? ⟨b11, 3, none⟩ = some (.int .i64 lo)) (m4 : w.cell? ⟨b11, 4, none⟩ = some (.int .i64 hi)) (q0 : w.cell? ⟨b5, 0, none⟩ = some (.int .i64 o)) (q1 : w.cell? ⟨b5, 1, none⟩ = some (.int .i64 t)) (q2 : w.cell? ⟨b5, 2, none⟩ = some (.slice A nl c)) (hh : CV w 40 #[.slice A1 n1 c1, .int .i64 sl] (.bool false)) (hi' : CV w 31 #[.int .i64 dy, .int .i64 lo, .int .i64 hi] (.bool false)) : OpOk Try.prog opsMy1 (wordsMy1 b5 b11 A A1 nl c n1 c1 o t la sl dy src mn lo hi sk) 46 a w 11 := by
  refine OpOk.gen rfl (fun a1 w1 H => ?_)
  have d4 : a1.eval (.tmp 21) = .bool true := H.dep 4 21 rfl (by kernel_rfl)
  have d10 : a1.eval (.tmp 27) = .pointer (some ⟨b11, 4, none⟩) := H.dep 10 27 rfl (by kernel_rfl)
  refine gd_true rfl d4 ?_
  exact OpW.load d10 (ld3 (H.cell m4)) rfl
theorem okMy1_12 {b5 b11 : Nat} {A A1 : Option Addr} {nl c n1 c1 : Nat} {o t la sl dy src mn lo hi sk : Int} {a : Act} {w : World} (t1 : a.eval (.tmp 1) = .slice A1 n1 c1) (t2 : a.eval (.tmp 2) = .int .i64 la) (t3 : a.eval (.tmp 3) = .int .i64 sl) (t4 : a.eval (.tmp 4) = .int .i64 dy) (t5 : a.eval (.tmp 5) = .pointer (some ⟨b5, 0, none⟩)) (t11 : a.eval (.tmp 11) = .pointer (some ⟨b11, 0, none⟩)) (m0 : w.cell? ⟨b11, 0, none⟩ = some (.int .i64 src)) (m2 : w.cell? ⟨b11, 2, none⟩ = some (.int .i64 mn)) (m3 : w.cell? ⟨b11, 3, none⟩ = some (.int .i64 lo)) (m4 : w.cell? ⟨b11, 4, none⟩ = some (.int .i64 hi)) (q0 : w.cell? ⟨b5, 0, none⟩ = some (.int .i64 o)) (q1 : w.cell? ⟨b5, 1, none⟩ = some (.int .i64 t)) (q2 : w.cell? ⟨b5, 2, none⟩ = some (.slice A nl c)) (hh : CV w 40 #[.slice A1 n1 c1, .int .i64 sl] (.bool false)) (hi' : CV w 31 #[.int .i64 dy, .int .i64 lo, .int .i64 hi] (.bool false)) : OpOk Try.prog opsMy1 (wordsMy1 b5 b11 A A1 nl c n1 c1 o t la sl dy src mn lo hi sk) 46 a w 12 := by
  refine OpOk.gen rfl (fun a1 w1 H => ?_)
  have d4 : a1.eval (.tmp 21) = .bool true := H.dep 4 21 rfl (by kernel_rfl)
  have d5 : a1.eval (.tmp 22) = .int .i64 dy := H.dep 5 22 rfl (by kernel_rfl)
  have d8 : a1.eval (.tmp 25) = .int .i64 lo := H.dep 8 25 rfl (by kernel_rfl)
  have d11 : a1.eval (.tmp 28) = .int .i64 hi := H.dep 11 28 rfl (by kernel_rfl)
  refine gd_true rfl d4 ?_
  exact OpW.call (vs := #[.int .i64 dy, .int .i64 lo, .int .i64 hi]) (enters_of Try.func31 (by kernel_rfl) rfl) (by simp [d5, d8, d11]) (hi' w1 H.low)
theorem okMy1_13 {b5 b11 : Nat} {A A1 : Option Addr} {nl c n1 c1 : Nat} {o t la sl dy src mn lo hi sk : Int} {a : Act} {w : World} (t1 : a.eval (.tmp 1) = .slice A1 n1 c1) (t2 : a.eval (.tmp 2) = .int .i64 la) (t3 : a.eval (.tmp 3) = .int .i64 sl) (t4 : a.eval (.tmp 4) = .int .i64 dy) (t5 : a.eval (.tmp 5) = .pointer (some ⟨b5, 0, none⟩)) (t11 : a.eval (.tmp 11) = .pointer (some ⟨b11, 0, none⟩)) (m0 : w.cell? ⟨b11, 0, none⟩ = some (.int .i64 src)) (m2 : w.cell? ⟨b11, 2, none⟩ = some (.int .i64 mn)) (m3 : w.cell? ⟨b11, 3, none⟩ = some (.int .i64 lo)) (m4 : w.cell? ⟨b11, 4, none⟩ = some (.int .i64 hi)) (q0 : w.cell? ⟨b5, 0, none⟩ = some (.int .i64 o)) (q1 : w.cell? ⟨b5, 1, none⟩ = some (.int .i64 t)) (q2 : w.cell? ⟨b5, 2, none⟩ = some (.slice A nl c)) (hh : CV w 40 #[.slice A1 n1 c1, .int .i64 sl] (.bool false)) (hi' : CV w 31 #[.int .i64 dy, .int .i64 lo, .int .i64 hi] (.bool false)) : OpOk Try.prog opsMy1 (wordsMy1 b5 b11 A A1 nl c n1 c1 o t la sl dy src mn lo hi sk) 46 a w 13 := by
  refine OpOk.gen rfl (fun a1 w1 H => ?_)
  have d4 : a1.eval (.tmp 21) = .bool true := H.dep 4 21 rfl (by kernel_rfl)
  have d12 : a1.eval (.tmp 29) = .bool false := H.dep 12 29 rfl (by kernel_rfl)
  refine gd_none ?_
  exact OpW.pick (b := true) d4 d12
theorem okMy1_14 {b5 b11 : Nat} {A A1 : Option Addr} {nl c n1 c1 : Nat} {o t la sl dy src mn lo hi sk : Int} {a : Act} {w : World} (t1 : a.eval (.tmp 1) = .slice A1 n1 c1) (t2 : a.eval (.tmp 2) = .int .i64 la) (t3 : a.eval (.tmp 3) = .int .i64 sl) (t4 : a.eval (.tmp 4) = .int .i64 dy) (t5 : a.eval (.tmp 5) = .pointer (some ⟨b5, 0, none⟩)) (t11 : a.eval (.tmp 11) = .pointer (some ⟨b11, 0, none⟩)) (m0 : w.cell? ⟨b11, 0, none⟩ = some (.int .i64 src)) (m2 : w.cell? ⟨b11, 2, none⟩ = some (.int .i64 mn)) (m3 : w.cell? ⟨b11, 3, none⟩ = some (.int .i64 lo)) (m4 : w.cell? ⟨b11, 4, none⟩ = some (.int .i64 hi)) (q0 : w.cell? ⟨b5, 0, none⟩ = some (.int .i64 o)) (q1 : w.cell? ⟨b5, 1, none⟩ = some (.int .i64 t)) (q2 : w.cell? ⟨b5, 2, none⟩ = some (.slice A nl c)) (hh : CV w 40 #[.slice A1 n1 c1, .int .i64 sl] (.bool false)) (hi' : CV w 31 #[.int .i64 dy, .int .i64 lo, .int .i64 hi] (.bool false)) : OpOk Try.prog opsMy1 (wordsMy1 b5 b11 A A1 nl c n1 c1 o t la sl dy src mn lo hi sk) 46 a w 14 := by
  refine OpOk.gen rfl (fun a1 w1 H => ?_)
  have d13 : a1.eval (.tmp 30) = .bool false := H.dep 13 30 rfl (by kernel_rfl)
  refine gd_none ?_
  exact OpW.move d13 rfl
theorem okMy1_15 {b5 b11 : Nat} {A A1 : Option Addr} {nl c n1 c1 : Nat} {o t la sl dy src mn lo hi sk : Int} {a : Act} {w : World} (t1 : a.eval (.tmp 1) = .slice A1 n1 c1) (t2 : a.eval (.tmp 2) = .int .i64 la) (t3 : a.eval (.tmp 3) = .int .i64 sl) (t4 : a.eval (.tmp 4) = .int .i64 dy) (t5 : a.eval (.tmp 5) = .pointer (some ⟨b5, 0, none⟩)) (t11 : a.eval (.tmp 11) = .pointer (some ⟨b11, 0, none⟩)) (m0 : w.cell? ⟨b11, 0, none⟩ = some (.int .i64 src)) (m2 : w.cell? ⟨b11, 2, none⟩ = some (.int .i64 mn)) (m3 : w.cell? ⟨b11, 3, none⟩ = some (.int .i64 lo)) (m4 : w.cell? ⟨b11, 4, none⟩ = some (.int .i64 hi)) (q0 : w.cell? ⟨b5, 0, none⟩ = some (.int .i64 o)) (q1 : w.cell? ⟨b5, 1, none⟩ = some (.int .i64 t)) (q2 : w.cell? ⟨b5, 2, none⟩ = some (.slice A nl c)) (hh : CV w 40 #[.slice A1 n1 c1, .int .i64 sl] (.bool false)) (hi' : CV w 31 #[.int .i64 dy, .int .i64 lo, .int .i64 hi] (.bool false)) : OpOk Try.prog opsMy1 (wordsMy1 b5 b11 A A1 nl c n1 c1 o t la sl dy src mn lo hi sk) 46 a w 15 := by
  refine OpOk.gen rfl (fun a1 w1 H => ?_)
  have d14 : a1.eval (.tmp 31) = .bool false := H.dep 14 31 rfl (by kernel_rfl)
  refine gd_false rfl d14 (by decide) ?_
  trivial
theorem okMy1_16 {b5 b11 : Nat} {A A1 : Option Addr} {nl c n1 c1 : Nat} {o t la sl dy src mn lo hi sk : Int} {a : Act} {w : World} (t1 : a.eval (.tmp 1) = .slice A1 n1 c1) (t2 : a.eval (.tmp 2) = .int .i64 la) (t3 : a.eval (.tmp 3) = .int .i64 sl) (t4 : a.eval (.tmp 4) = .int .i64 dy) (t5 : a.eval (.tmp 5) = .pointer (some ⟨b5, 0, none⟩)) (t11 : a.eval (.tmp 11) = .pointer (some ⟨b11, 0, none⟩)) (m0 : w.cell? ⟨b11, 0, none⟩ = some (.int .i64 src)) (m2 : w.cell? ⟨b11, 2, none⟩ = some (.int .i64 mn)) (m3 : w.cell? ⟨b11, 3, none⟩ = some (.int .i64 lo)) (m4 : w.cell? ⟨b11, 4, none⟩ = some (.int .i64 hi)) (q0 : w.cell? ⟨b5, 0, none⟩ = some (.int .i64 o)) (q1 : w.cell? ⟨b5, 1, none⟩ = some (.int .i64 t)) (q2 : w.cell? ⟨b5, 2, none⟩ = some (.slice A nl c)) (hh : CV w 40 #[.slice A1 n1 c1, .int .i64 sl] (.bool false)) (hi' : CV w 31 #[.int .i64 dy, .int .i64 lo, .int .i64 hi] (.bool false)) : OpOk Try.prog opsMy1 (wordsMy1 b5 b11 A A1 nl c n1 c1 o t la sl dy src mn lo hi sk) 46 a w 16 := by
  refine OpOk.gen rfl (fun a1 w1 H => ?_)
  have d14 : a1.eval (.tmp 31) = .bool false := H.dep 14 31 rfl (by kernel_rfl)
  refine gd_false rfl d14 (by decide) ?_
  trivial
theorem okMy1_17 {b5 b11 : Nat} {A A1 : Option Addr} {nl c n1 c1 : Nat} {o t la sl dy src mn lo hi sk : Int} {a : Act} {w : World} (t1 : a.eval (.tmp 1) = .slice A1 n1 c1) (t2 : a.eval (.tmp 2) = .int .i64 la) (t3 : a.eval (.tmp 3) = .int .i64 sl) (t4 : a.eval (.tmp 4) = .int .i64 dy) (t5 : a.eval (.tmp 5) = .pointer (some ⟨b5, 0, none⟩)) (t11 : a.eval (.tmp 11) = .pointer (some ⟨b11, 0, none⟩)) (m0 : w.cell? ⟨b11, 0, none⟩ = some (.int .i64 src)) (m2 : w.cell? ⟨b11, 2, none⟩ = some (.int .i64 mn)) (m3 : w.cell? ⟨b11, 3, none⟩ = some (.int .i64 lo)) (m4 : w.cell? ⟨b11, 4, none⟩ = some (.int .i64 hi)) (q0 : w.cell? ⟨b5, 0, none⟩ = some (.int .i64 o)) (q1 : w.cell? ⟨b5, 1, none⟩ = some (.int .i64 t)) (q2 : w.cell? ⟨b5, 2, none⟩ = some (.slice A nl c)) (hh : CV w 40 #[.slice A1 n1 c1, .int .i64 sl] (.bool false)) (hi' : CV w 31 #[.int .i64 dy, .int .i64 lo, .int .i64 hi] (.bool false)) : OpOk Try.prog opsMy1 (wordsMy1 b5 b11 A A1 nl c n1 c1 o t la sl dy src mn lo hi sk) 46 a w 17 := by
  refine OpOk.gen rfl (fun a1 w1 H => ?_)
  have d14 : a1.eval (.tmp 31) = .bool false := H.dep 14 31 rfl (by kernel_rfl)
  refine gd_false rfl d14 (by decide) ?_
  trivial
theorem okMy1_18 {b5 b11 : Nat} {A A1 : Option Addr} {nl c n1 c1 : Nat} {o t la sl dy src mn lo hi sk : Int} {a : Act} {w : World} (t1 : a.eval (.tmp 1) = .slice A1 n1 c1) (t2 : a.eval (.tmp 2) = .int .i64 la) (t3 : a.eval (.tmp 3) = .int .i64 sl) (t4 : a.eval (.tmp 4) = .int .i64 dy) (t5 : a.eval (.tmp 5) = .pointer (some ⟨b5, 0, none⟩)) (t11 : a.eval (.tmp 11) = .pointer (some ⟨b11, 0, none⟩)) (m0 : w.cell? ⟨b11, 0, none⟩ = some (.int .i64 src)) (m2 : w.cell? ⟨b11, 2, none⟩ = some (.int .i64 mn)) (m3 : w.cell? ⟨b11, 3, none⟩ = some (.int .i64 lo)) (m4 : w.cell? ⟨b11, 4, none⟩ = some (.int .i64 hi)) (q0 : w.cell? ⟨b5, 0, none⟩ = some (.int .i64 o)) (q1 : w.cell? ⟨b5, 1, none⟩ = some (.int .i64 t)) (q2 : w.cell? ⟨b5, 2, none⟩ = some (.slice A nl c)) (hh : CV w 40 #[.slice A1 n1 c1, .int .i64 sl] (.bool false)) (hi' : CV w 31 #[.int .i64 dy, .int .i64 lo, .int .i64 hi] (.bool false)) : OpOk Try.prog opsMy1 (wordsMy1 b5 b11 A A1 nl c n1 c1 o t la sl dy src mn lo hi sk) 46 a w 18 := by
  refine OpOk.gen rfl (fun a1 w1 H => ?_)
  have d14 : a1.eval (.tmp 31) = .bool false := H.dep 14 31 rfl (by kernel_rfl)
  refine gd_none ?_
  exact OpW.pick (b := false) d14 rfl
theorem okMy1_19 {b5 b11 : Nat} {A A1 : Option Addr} {nl c n1 c1 : Nat} {o t la sl dy src mn lo hi sk : Int} {a : Act} {w : World} (t1 : a.eval (.tmp 1) = .slice A1 n1 c1) (t2 : a.eval (.tmp 2) = .int .i64 la) (t3 : a.eval (.tmp 3) = .int .i64 sl) (t4 : a.eval (.tmp 4) = .int .i64 dy) (t5 : a.eval (.tmp 5) = .pointer (some ⟨b5, 0, none⟩)) (t11 : a.eval (.tmp 11) = .pointer (some ⟨b11, 0, none⟩)) (m0 : w.cell? ⟨b11, 0, none⟩ = some (.int .i64 src)) (m2 : w.cell? ⟨b11, 2, none⟩ = some (.int .i64 mn)) (m3 : w.cell? ⟨b11, 3, none⟩ = some (.int .i64 lo)) (m4 : w.cell? ⟨b11, 4, none⟩ = some (.int .i64 hi)) (q0 : w.cell? ⟨b5, 0, none⟩ = some (.int .i64 o)) (q1 : w.cell? ⟨b5, 1, none⟩ = some (.int .i64 t)) (q2 : w.cell? ⟨b5, 2, none⟩ = some (.slice A nl c)) (hh : CV w 40 #[.slice A1 n1 c1, .int .i64 sl] (.bool false)) (hi' : CV w 31 #[.int .i64 dy, .int .i64 lo, .int .i64 hi] (.bool false)) : OpOk Try.prog opsMy1 (wordsMy1 b5 b11 A A1 nl c n1 c1 o t la sl dy src mn lo hi sk) 46 a w 19 := by
  refine OpOk.gen rfl (fun a1 w1 H => ?_)
  have d18 : a1.eval (.tmp 35) = .bool false := H.dep 18 35 rfl (by kernel_rfl)
  refine gd_none ?_
  exact OpW.move d18 rfl
theorem okMy1_20 {b5 b11 : Nat} {A A1 : Option Addr} {nl c n1 c1 : Nat} {o t la sl dy src mn lo hi sk : Int} {a : Act} {w : World} (t1 : a.eval (.tmp 1) = .slice A1 n1 c1) (t2 : a.eval (.tmp 2) = .int .i64 la) (t3 : a.eval (.tmp 3) = .int .i64 sl) (t4 : a.eval (.tmp 4) = .int .i64 dy) (t5 : a.eval (.tmp 5) = .pointer (some ⟨b5, 0, none⟩)) (t11 : a.eval (.tmp 11) = .pointer (some ⟨b11, 0, none⟩)) (m0 : w.cell? ⟨b11, 0, none⟩ = some (.int .i64 src)) (m2 : w.cell? ⟨b11, 2, none⟩ = some (.int .i64 mn)) (m3 : w.cell? ⟨b11, 3, none⟩ = some (.int .i64 lo)) (m4 : w.cell? ⟨b11, 4, none⟩ = some (.int .i64 hi)) (q0 : w.cell? ⟨b5, 0, none⟩ = some (.int .i64 o)) (q1 : w.cell? ⟨b5, 1, none⟩ = some (.int .i64 t)) (q2 : w.cell? ⟨b5, 2, none⟩ = some (.slice A nl c)) (hh : CV w 40 #[.slice A1 n1 c1, .int .i64 sl] (.bool false)) (hi' : CV w 31 #[.int .i64 dy, .int .i64 lo, .int .i64 hi] (.bool false)) : OpOk Try.prog opsMy1 (wordsMy1 b5 b11 A A1 nl c n1 c1 o t la sl dy src mn lo hi sk) 46 a w 20 := by
  refine OpOk.gen rfl (fun a1 w1 H => ?_)
  have d19 : a1.eval (.tmp 36) = .bool false := H.dep 19 36 rfl (by kernel_rfl)
  refine gd_false rfl d19 (by decide) ?_
  trivial
theorem okMy1_21 {b5 b11 : Nat} {A A1 : Option Addr} {nl c n1 c1 : Nat} {o t la sl dy src mn lo hi sk : Int} {a : Act} {w : World} (t1 : a.eval (.tmp 1) = .slice A1 n1 c1) (t2 : a.eval (.tmp 2) = .int .i64 la) (t3 : a.eval (.tmp 3) = .int .i64 sl) (t4 : a.eval (.tmp 4) = .int .i64 dy) (t5 : a.eval (.tmp 5) = .pointer (some ⟨b5, 0, none⟩)) (t11 : a.eval (.tmp 11) = .pointer (some ⟨b11, 0, none⟩)) (m0 : w.cell? ⟨b11, 0, none⟩ = some (.int .i64 src)) (m2 : w.cell? ⟨b11, 2, none⟩ = some (.int .i64 mn)) (m3 : w.cell? ⟨b11, 3, none⟩ = some (.int .i64 lo)) (m4 : w.cell? ⟨b11, 4, none⟩ = some (.int .i64 hi)) (q0 : w.cell? ⟨b5, 0, none⟩ = some (.int .i64 o)) (q1 : w.cell? ⟨b5, 1, none⟩ = some (.int .i64 t)) (q2 : w.cell? ⟨b5, 2, none⟩ = some (.slice A nl c)) (hh : CV w 40 #[.slice A1 n1 c1, .int .i64 sl] (.bool false)) (hi' : CV w 31 #[.int .i64 dy, .int .i64 lo, .int .i64 hi] (.bool false)) : OpOk Try.prog opsMy1 (wordsMy1 b5 b11 A A1 nl c n1 c1 o t la sl dy src mn lo hi sk) 46 a w 21 := by
  refine OpOk.gen rfl (fun a1 w1 H => ?_)
  have d19 : a1.eval (.tmp 36) = .bool false := H.dep 19 36 rfl (by kernel_rfl)
  refine gd_false rfl d19 (by decide) ?_
  trivial
theorem okMy1_22 {b5 b11 : Nat} {A A1 : Option Addr} {nl c n1 c1 : Nat} {o t la sl dy src mn lo hi sk : Int} {a : Act} {w : World} (t1 : a.eval (.tmp 1) = .slice A1 n1 c1) (t2 : a.eval (.tmp 2) = .int .i64 la) (t3 : a.eval (.tmp 3) = .int .i64 sl) (t4 : a.eval (.tmp 4) = .int .i64 dy) (t5 : a.eval (.tmp 5) = .pointer (some ⟨b5, 0, none⟩)) (t11 : a.eval (.tmp 11) = .pointer (some ⟨b11, 0, none⟩)) (m0 : w.cell? ⟨b11, 0, none⟩ = some (.int .i64 src)) (m2 : w.cell? ⟨b11, 2, none⟩ = some (.int .i64 mn)) (m3 : w.cell? ⟨b11, 3, none⟩ = some (.int .i64 lo)) (m4 : w.cell? ⟨b11, 4, none⟩ = some (.int .i64 hi)) (q0 : w.cell? ⟨b5, 0, none⟩ = some (.int .i64 o)) (q1 : w.cell? ⟨b5, 1, none⟩ = some (.int .i64 t)) (q2 : w.cell? ⟨b5, 2, none⟩ = some (.slice A nl c)) (hh : CV w 40 #[.slice A1 n1 c1, .int .i64 sl] (.bool false)) (hi' : CV w 31 #[.int .i64 dy, .int .i64 lo, .int .i64 hi] (.bool false)) : OpOk Try.prog opsMy1 (wordsMy1 b5 b11 A A1 nl c n1 c1 o t la sl dy src mn lo hi sk) 46 a w 22 := by
  refine OpOk.gen rfl (fun a1 w1 H => ?_)
  have d19 : a1.eval (.tmp 36) = .bool false := H.dep 19 36 rfl (by kernel_rfl)
  refine gd_false rfl d19 (by decide) ?_
  trivial
theorem okMy1_23 {b5 b11 : Nat} {A A1 : Option Addr} {nl c n1 c1 : Nat} {o t la sl dy src mn lo hi sk : Int} {a : Act} {w : World} (t1 : a.eval (.tmp 1) = .slice A1 n1 c1) (t2 : a.eval (.tmp 2) = .int .i64 la) (t3 : a.eval (.tmp 3) = .int .i64 sl) (t4 : a.eval (.tmp 4) = .int .i64 dy) (t5 : a.eval (.tmp 5) = .pointer (some ⟨b5, 0, none⟩)) (t11 : a.eval (.tmp 11) = .pointer (some ⟨b11, 0, none⟩)) (m0 : w.cell? ⟨b11, 0, none⟩ = some (.int .i64 src)) (m2 : w.cell? ⟨b11, 2, none⟩ = some (.int .i64 mn)) (m3 : w.cell? ⟨b11, 3, none⟩ = some (.int .i64 lo)) (m4 : w.cell? ⟨b11, 4, none⟩ = some (.int .i64 hi)) (q0 : w.cell? ⟨b5, 0, none⟩ = some (.int .i64 o)) (q1 : w.cell? ⟨b5, 1, none⟩ = some (.int .i64 t)) (q2 : w.cell? ⟨b5, 2, none⟩ = some (.slice A nl c)) (hh : CV w 40 #[.slice A1 n1 c1, .int .i64 sl] (.bool false)) (hi' : CV w 31 #[.int .i64 dy, .int .i64 lo, .int .i64 hi] (.bool false)) : OpOk Try.prog opsMy1 (wordsMy1 b5 b11 A A1 nl c n1 c1 o t la sl dy src mn lo hi sk) 46 a w 23 := by
  refine OpOk.gen rfl (fun a1 w1 H => ?_)
  have d19 : a1.eval (.tmp 36) = .bool false := H.dep 19 36 rfl (by kernel_rfl)
  refine gd_false rfl d19 (by decide) ?_
  trivial
theorem okMy1_24 {b5 b11 : Nat} {A A1 : Option Addr} {nl c n1 c1 : Nat} {o t la sl dy src mn lo hi sk : Int} {a : Act} {w : World} (t1 : a.eval (.tmp 1) = .slice A1 n1 c1) (t2 : a.eval (.tmp 2) = .int .i64 la) (t3 : a.eval (.tmp 3) = .int .i64 sl) (t4 : a.eval (.tmp 4) = .int .i64 dy) (t5 : a.eval (.tmp 5) = .pointer (some ⟨b5, 0, none⟩)) (t11 : a.eval (.tmp 11) = .pointer (some ⟨b11, 0, none⟩)) (m0 : w.cell? ⟨b11, 0, none⟩ = some (.int .i64 src)) (m2 : w.cell? ⟨b11, 2, none⟩ = some (.int .i64 mn)) (m3 : w.cell? ⟨b11, 3, none⟩ = some (.int .i64 lo)) (m4 : w.cell? ⟨b11, 4, none⟩ = some (.int .i64 hi)) (q0 : w.cell? ⟨b5, 0, none⟩ = some (.int .i64 o)) (q1 : w.cell? ⟨b5, 1, none⟩ = some (.int .i64 t)) (q2 : w.cell? ⟨b5, 2, none⟩ = some (.slice A nl c)) (hh : CV w 40 #[.slice A1 n1 c1, .int .i64 sl] (.bool false)) (hi' : CV w 31 #[.int .i64 dy, .int .i64 lo, .int .i64 hi] (.bool false)) : OpOk Try.prog opsMy1 (wordsMy1 b5 b11 A A1 nl c n1 c1 o t la sl dy src mn lo hi sk) 46 a w 24 := by
  refine OpOk.gen rfl (fun a1 w1 H => ?_)
  have d19 : a1.eval (.tmp 36) = .bool false := H.dep 19 36 rfl (by kernel_rfl)
  refine gd_false rfl d19 (by decide) ?_
  trivial
theorem okMy1_25 {b5 b11 : Nat} {A A1 : Option Addr} {nl c n1 c1 : Nat} {o t la sl dy src mn lo hi sk : Int} {a : Act} {w : World} (t1 : a.eval (.tmp 1) = .slice A1 n1 c1) (t2 : a.eval (.tmp 2) = .int .i64 la) (t3 : a.eval (.tmp 3) = .int .i64 sl) (t4 : a.eval (.tmp 4) = .int .i64 dy) (t5 : a.eval (.tmp 5) = .pointer (some ⟨b5, 0, none⟩)) (t11 : a.eval (.tmp 11) = .pointer (some ⟨b11, 0, none⟩)) (m0 : w.cell? ⟨b11, 0, none⟩ = some (.int .i64 src)) (m2 : w.cell? ⟨b11, 2, none⟩ = some (.int .i64 mn)) (m3 : w.cell? ⟨b11, 3, none⟩ = some (.int .i64 lo)) (m4 : w.cell? ⟨b11, 4, none⟩ = some (.int .i64 hi)) (q0 : w.cell? ⟨b5, 0, none⟩ = some (.int .i64 o)) (q1 : w.cell? ⟨b5, 1, none⟩ = some (.int .i64 t)) (q2 : w.cell? ⟨b5, 2, none⟩ = some (.slice A nl c)) (hh : CV w 40 #[.slice A1 n1 c1, .int .i64 sl] (.bool false)) (hi' : CV w 31 #[.int .i64 dy, .int .i64 lo, .int .i64 hi] (.bool false)) : OpOk Try.prog opsMy1 (wordsMy1 b5 b11 A A1 nl c n1 c1 o t la sl dy src mn lo hi sk) 46 a w 25 := by
  refine OpOk.gen rfl (fun a1 w1 H => ?_)
  have d19 : a1.eval (.tmp 36) = .bool false := H.dep 19 36 rfl (by kernel_rfl)
  refine gd_false rfl d19 (by decide) ?_
  trivial
theorem okMy1_26 {b5 b11 : Nat} {A A1 : Option Addr} {nl c n1 c1 : Nat} {o t la sl dy src mn lo hi sk : Int} {a : Act} {w : World} (t1 : a.eval (.tmp 1) = .slice A1 n1 c1) (t2 : a.eval (.tmp 2) = .int .i64 la) (t3 : a.eval (.tmp 3) = .int .i64 sl) (t4 : a.eval (.tmp 4) = .int .i64 dy) (t5 : a.eval (.tmp 5) = .pointer (some ⟨b5, 0, none⟩)) (t11 : a.eval (.tmp 11) = .pointer (some ⟨b11, 0, none⟩)) (m0 : w.cell? ⟨b11, 0, none⟩ = some (.int .i64 src)) (m2 : w.cell? ⟨b11, 2, none⟩ = some (.int .i64 mn)) (m3 : w.cell? ⟨b11, 3, none⟩ = some (.int .i64 lo)) (m4 : w.cell? ⟨b11, 4, none⟩ = some (.int .i64 hi)) (q0 : w.cell? ⟨b5, 0, none⟩ = some (.int .i64 o)) (q1 : w.cell? ⟨b5, 1, none⟩ = some (.int .i64 t)) (q2 : w.cell? ⟨b5, 2, none⟩ = some (.slice A nl c)) (hh : CV w 40 #[.slice A1 n1 c1, .int .i64 sl] (.bool false)) (hi' : CV w 31 #[.int .i64 dy, .int .i64 lo, .int .i64 hi] (.bool false)) : OpOk Try.prog opsMy1 (wordsMy1 b5 b11 A A1 nl c n1 c1 o t la sl dy src mn lo hi sk) 46 a w 26 := by
  refine OpOk.gen rfl (fun a1 w1 H => ?_)
  have d19 : a1.eval (.tmp 36) = .bool false := H.dep 19 36 rfl (by kernel_rfl)
  refine gd_false rfl d19 (by decide) ?_
  trivial
theorem okMy1_27 {b5 b11 : Nat} {A A1 : Option Addr} {nl c n1 c1 : Nat} {o t la sl dy src mn lo hi sk : Int} {a : Act} {w : World} (t1 : a.eval (.tmp 1) = .slice A1 n1 c1) (t2 : a.eval (.tmp 2) = .int .i64 la) (t3 : a.eval (.tmp 3) = .int .i64 sl) (t4 : a.eval (.tmp 4) = .int .i64 dy) (t5 : a.eval (.tmp 5) = .pointer (some ⟨b5, 0, none⟩)) (t11 : a.eval (.tmp 11) = .pointer (some ⟨b11, 0, none⟩)) (m0 : w.cell? ⟨b11, 0, none⟩ = some (.int .i64 src)) (m2 : w.cell? ⟨b11, 2, none⟩ = some (.int .i64 mn)) (m3 : w.cell? ⟨b11, 3, none⟩ = some (.int .i64 lo)) (m4 : w.cell? ⟨b11, 4, none⟩ = some (.int .i64 hi)) (q0 : w.cell? ⟨b5, 0, none⟩ = some (.int .i64 o)) (q1 : w.cell? ⟨b5, 1, none⟩ = some (.int .i64 t)) (q2 : w.cell? ⟨b5, 2, none⟩ = some (.slice A nl c)) (hh : CV w 40 #[.slice A1 n1 c1, .int .i64 sl] (.bool false)) (hi' : CV w 31 #[.int .i64 dy, .int .i64 lo, .int .i64 hi] (.bool false)) : OpOk Try.prog opsMy1 (wordsMy1 b5 b11 A A1 nl c n1 c1 o t la sl dy src mn lo hi sk) 46 a w 27 := by
  refine OpOk.gen rfl (fun a1 w1 H => ?_)
  have d19 : a1.eval (.tmp 36) = .bool false := H.dep 19 36 rfl (by kernel_rfl)
  refine gd_false rfl d19 (by decide) ?_
  trivial
theorem okMy1_28 {b5 b11 : Nat} {A A1 : Option Addr} {nl c n1 c1 : Nat} {o t la sl dy src mn lo hi sk : Int} {a : Act} {w : World} (t1 : a.eval (.tmp 1) = .slice A1 n1 c1) (t2 : a.eval (.tmp 2) = .int .i64 la) (t3 : a.eval (.tmp 3) = .int .i64 sl) (t4 : a.eval (.tmp 4) = .int .i64 dy) (t5 : a.eval (.tmp 5) = .pointer (some ⟨b5, 0, none⟩)) (t11 : a.eval (.tmp 11) = .pointer (some ⟨b11, 0, none⟩)) (m0 : w.cell? ⟨b11, 0, none⟩ = some (.int .i64 src)) (m2 : w.cell? ⟨b11, 2, none⟩ = some (.int .i64 mn)) (m3 : w.cell? ⟨b11, 3, none⟩ = some (.int .i64 lo)) (m4 : w.cell? ⟨b11, 4, none⟩ = some (.int .i64 hi)) (q0 : w.cell? ⟨b5, 0, none⟩ = some (.int .i64 o)) (q1 : w.cell? ⟨b5, 1, none⟩ = some (.int .i64 t)) (q2 : w.cell? ⟨b5, 2, none⟩ = some (.slice A nl c)) (hh : CV w 40 #[.slice A1 n1 c1, .int .i64 sl] (.bool false)) (hi' : CV w 31 #[.int .i64 dy, .int .i64 lo, .int .i64 hi] (.bool false)) : OpOk Try.prog opsMy1 (wordsMy1 b5 b11 A A1 nl c n1 c1 o t la sl dy src mn lo hi sk) 46 a w 28 := by
  refine OpOk.gen rfl (fun a1 w1 H => ?_)
  have d19 : a1.eval (.tmp 36) = .bool false := H.dep 19 36 rfl (by kernel_rfl)
  refine gd_none ?_
  exact OpW.pick (b := false) d19 rfl
theorem okMy1_29 {b5 b11 : Nat} {A A1 : Option Addr} {nl c n1 c1 : Nat} {o t la sl dy src mn lo hi sk : Int} {a : Act} {w : World} (t1 : a.eval (.tmp 1) = .slice A1 n1 c1) (t2 : a.eval (.tmp 2) = .int .i64 la) (t3 : a.eval (.tmp 3) = .int .i64 sl) (t4 : a.eval (.tmp 4) = .int .i64 dy) (t5 : a.eval (.tmp 5) = .pointer (some ⟨b5, 0, none⟩)) (t11 : a.eval (.tmp 11) = .pointer (some ⟨b11, 0, none⟩)) (m0 : w.cell? ⟨b11, 0, none⟩ = some (.int .i64 src)) (m2 : w.cell? ⟨b11, 2, none⟩ = some (.int .i64 mn)) (m3 : w.cell? ⟨b11, 3, none⟩ = some (.int .i64 lo)) (m4 : w.cell? ⟨b11, 4, none⟩ = some (.int .i64 hi)) (q0 : w.cell? ⟨b5, 0, none⟩ = some (.int .i64 o)) (q1 : w.cell? ⟨b5, 1, none⟩ = some (.int .i64 t)) (q2 : w.cell? ⟨b5, 2, none⟩ = some (.slice A nl c)) (hh : CV w 40 #[.slice A1 n1 c1, .int .i64 sl] (.bool false)) (hi' : CV w 31 #[.int .i64 dy, .int .i64 lo, .int .i64 hi] (.bool false)) : OpOk Try.prog opsMy1 (wordsMy1 b5 b11 A A1 nl c n1 c1 o t la sl dy src mn lo hi sk) 46 a w 29 := by
  refine OpOk.gen rfl (fun a1 w1 H => ?_)
  have d28 : a1.eval (.tmp 45) = .bool false := H.dep 28 45 rfl (by kernel_rfl)
  refine gd_none ?_
  exact OpW.assign d28 rfl
theorem regionMy1 {F : Fence} {n : Nat} (hF : WideF F Try.prog) {Q : Exit → Act → World → Prop} {b5 b11 : Nat} {A A1 : Option Addr} {nl c n1 c1 : Nat} {o t la sl dy src mn lo hi sk : Int} {a : Act} {w : World} (hsz : a.tmps.size = 46)
    (t1 : a.eval (.tmp 1) = .slice A1 n1 c1) (t2 : a.eval (.tmp 2) = .int .i64 la) (t3 : a.eval (.tmp 3) = .int .i64 sl) (t4 : a.eval (.tmp 4) = .int .i64 dy) (t5 : a.eval (.tmp 5) = .pointer (some ⟨b5, 0, none⟩)) (t11 : a.eval (.tmp 11) = .pointer (some ⟨b11, 0, none⟩)) (m0 : w.cell? ⟨b11, 0, none⟩ = some (.int .i64 src)) (m2 : w.cell? ⟨b11, 2, none⟩ = some (.int .i64 mn)) (m3 : w.cell? ⟨b11, 3, none⟩ = some (.int .i64 lo)) (m4 : w.cell? ⟨b11, 4, none⟩ = some (.int .i64 hi)) (q0 : w.cell? ⟨b5, 0, none⟩ = some (.int .i64 o)) (q1 : w.cell? ⟨b5, 1, none⟩ = some (.int .i64 t)) (q2 : w.cell? ⟨b5, 2, none⟩ = some (.slice A nl c)) (hh : CV w 40 #[.slice A1 n1 c1, .int .i64 sl] (.bool false)) (hi' : CV w 31 #[.int .i64 dy, .int .i64 lo, .int .i64 hi] (.bool false))
    (hK : ∀ (a' : Act) (w' : World), a'.tmps.size = 46 → a'.defers = a.defers → Below w.heap.size w w' → (∀ e, ndstB opsMy1 e = true → a'.eval (.tmp e) = a.eval (.tmp e)) → (∀ (j d : Nat), (opsMy1[j]?).bind (·.dst) = some d → (wordsMy1 b5 b11 A A1 nl c n1 c1 o t la sl dy src mn lo hi sk).at_ j (a'.eval (.tmp d)) w') → Q .normal a' w') :
    (Code.region 2 opsMy1 true).wpIn F n Try.prog Q a w := by
  refine region_S (wordsMy1 b5 b11 A A1 nl c n1 c1 o t la sl dy src mn lo hi sk) 46 hF (by kernel_rfl) Try.mixed (by kernel_rfl) (by kernel_rfl) ?_ hsz 30 (by kernel_rfl) ?_ hK
  · exact ⟨(fun _ _ _ h _ => h), (fun _ _ _ h _ => h), (fun _ _ _ h _ => h), (fun _ _ _ h _ => h), (fun _ _ _ h _ => h), (fun _ _ _ h _ => h), (fun _ _ _ h _ => h), (fun _ _ _ h _ => h), (fun _ _ _ h _ => h), (fun _ _ _ h _ => h), (fun _ _ _ h _ => h), (fun _ _ _ h _ => h), (fun _ _ _ h _ => h), (fun _ _ _ h _ => h), (fun _ _ _ h _ => h), (fun _ _ _ _ _ => trivial), (fun _ _ _ _ _ => trivial), (fun _ _ _ _ _ => trivial), (fun _ _ _ h _ => h), (fun _ _ _ h _ => h), (fun _ _ _ _ _ => trivial), (fun _ _ _ _ _ => trivial), (fun _ _ _ _ _ => trivial), (fun _ _ _ _ _ => trivial), (fun _ _ _ _ _ => trivial), (fun _ _ _ _ _ => trivial), (fun _ _ _ _ _ => trivial), (fun _ _ _ _ _ => trivial), (fun _ _ _ h _ => h), (fun _ _ _ h _ => h), trivial⟩
  · exact ⟨⟨⟨⟨⟨⟨⟨⟨⟨⟨⟨⟨⟨⟨⟨⟨⟨⟨⟨⟨⟨⟨⟨⟨⟨⟨⟨⟨⟨⟨trivial, okMy1_0 t1 t2 t3 t4 t5 t11 m0 m2 m3 m4 q0 q1 q2 hh.drew hi'.drew⟩, okMy1_1 t1 t2 t3 t4 t5 t11 m0 m2 m3 m4 q0 q1 q2 hh.drew hi'.drew⟩, okMy1_2 t1 t2 t3 t4 t5 t11 m0 m2 m3 m4 q0 q1 q2 hh.drew hi'.drew⟩, okMy1_3 t1 t2 t3 t4 t5 t11 m0 m2 m3 m4 q0 q1 q2 hh.drew hi'.drew⟩, okMy1_4 t1 t2 t3 t4 t5 t11 m0 m2 m3 m4 q0 q1 q2 hh.drew hi'.drew⟩, okMy1_5 t1 t2 t3 t4 t5 t11 m0 m2 m3 m4 q0 q1 q2 hh.drew hi'.drew⟩, okMy1_6 t1 t2 t3 t4 t5 t11 m0 m2 m3 m4 q0 q1 q2 hh.drew hi'.drew⟩, okMy1_7 t1 t2 t3 t4 t5 t11 m0 m2 m3 m4 q0 q1 q2 hh.drew hi'.drew⟩, okMy1_8 t1 t2 t3 t4 t5 t11 m0 m2 m3 m4 q0 q1 q2 hh.drew hi'.drew⟩, okMy1_9 t1 t2 t3 t4 t5 t11 m0 m2 m3 m4 q0 q1 q2 hh.drew hi'.drew⟩, okMy1_10 t1 t2 t3 t4 t5 t11 m0 m2 m3 m4 q0 q1 q2 hh.drew hi'.drew⟩, okMy1_11 t1 t2 t3 t4 t5 t11 m0 m2 m3 m4 q0 q1 q2 hh.drew hi'.drew⟩, okMy1_12 t1 t2 t3 t4 t5 t11 m0 m2 m3 m4 q0 q1 q2 hh.drew hi'.drew⟩, okMy1_13 t1 t2 t3 t4 t5 t11 m0 m2 m3 m4 q0 q1 q2 hh.drew hi'.drew⟩, okMy1_14 t1 t2 t3 t4 t5 t11 m0 m2 m3 m4 q0 q1 q2 hh.drew hi'.drew⟩, okMy1_15 t1 t2 t3 t4 t5 t11 m0 m2 m3 m4 q0 q1 q2 hh.drew hi'.drew⟩, okMy1_16 t1 t2 t3 t4 t5 t11 m0 m2 m3 m4 q0 q1 q2 hh.drew hi'.drew⟩, okMy1_17 t1 t2 t3 t4 t5 t11 m0 m2 m3 m4 q0 q1 q2 hh.drew hi'.drew⟩, okMy1_18 t1 t2 t3 t4 t5 t11 m0 m2 m3 m4 q0 q1 q2 hh.drew hi'.drew⟩, okMy1_19 t1 t2 t3 t4 t5 t11 m0 m2 m3 m4 q0 q1 q2 hh.drew hi'.drew⟩, okMy1_20 t1 t2 t3 t4 t5 t11 m0 m2 m3 m4 q0 q1 q2 hh.drew hi'.drew⟩, okMy1_21 t1 t2 t3 t4 t5 t11 m0 m2 m3 m4 q0 q1 q2 hh.drew hi'.drew⟩, okMy1_22 t1 t2 t3 t4 t5 t11 m0 m2 m3 m4 q0 q1 q2 hh.drew hi'.drew⟩, okMy1_23 t1 t2 t3 t4 t5 t11 m0 m2 m3 m4 q0 q1 q2 hh.drew hi'.drew⟩, okMy1_24 t1 t2 t3 t4 t5 t11 m0 m2 m3 m4 q0 q1 q2 hh.drew hi'.drew⟩, okMy1_25 t1 t2 t3 t4 t5 t11 m0 m2 m3 m4 q0 q1 q2 hh.drew hi'.drew⟩, okMy1_26 t1 t2 t3 t4 t5 t11 m0 m2 m3 m4 q0 q1 q2 hh.drew hi'.drew⟩, okMy1_27 t1 t2 t3 t4 t5 t11 m0 m2 m3 m4 q0 q1 q2 hh.drew hi'.drew⟩, okMy1_28 t1 t2 t3 t4 t5 t11 m0 m2 m3 m4 q0 q1 q2 hh.drew hi'.drew⟩, okMy1_29 t1 t2 t3 t4 t5 t11 m0 m2 m3 m4 q0 q1 q2 hh.drew hi'.drew⟩
noncomputable def opsMy2 : Array Oper := (Try.f52.body.bind (regionOf 2)).getD #[]
def wordsMy2 (b5 b11 : Nat) (A A1 : Option Addr) (nl c n1 c1 : Nat) (o t la sl dy src mn lo hi sk : Int) : Words := [fun v _ => v = .slice A1 n1 c1, fun v _ => v = .int .i64 sl, fun v _ => v = .bool false, fun v _ => v = .bool true, fun v _ => v = .bool true, fun v _ => v = .int .i64 dy, fun v _ => v = .pointer (some ⟨b11, 3, none⟩), fun v _ => v = .pointer (some ⟨b11, 3, none⟩), fun v _ => v = .int .i64 lo, fun v _ => v = .pointer (some ⟨b11, 3, none⟩), fun v _ => v = .pointer (some ⟨b11, 4, none⟩), fun v _ => v = .int .i64 hi, fun v _ => v = .bool true, fun v _ => v = .bool true, fun v _ => v = .bool true, fun v _ => v = .int .i64 dy, fun v _ => v = .int .i64 la, fun v _ => v = .bool false, fun v _ => v = .bool false, fun v _ => v = .bool false, fun _ _ => True, fun _ _ => True, fun _ _ => True, fun _ _ => True, fun _ _ => True, fun _ _ => True, fun _ _ => True, fun _ _ => True, fun v _ => v = .bool false, fun v _ => v = .bool false]
theorem okMy2_0 {b5 b11 : Nat} {A A1 : Option Addr} {nl c n1 c1 : Nat} {o t la sl dy src mn lo hi sk : Int} {a : Act} {w : World} (t1 : a.eval (.tmp 1) = .slice A1 n1 c1) (t2 : a.eval (.tmp 2) = .int .i64 la) (t3 : a.eval (.tmp 3) = .int .i64 sl) (t4 : a.eval (.tmp 4) = .int .i64 dy) (t5 : a.eval (.tmp 5) = .pointer (some ⟨b5, 0, none⟩)) (t11 : a.eval (.tmp 11) = .pointer (some ⟨b11, 0, none⟩)) (m0 : w.cell? ⟨b11, 0, none⟩ = some (.int .i64 src)) (m2 : w.cell? ⟨b11, 2, none⟩ = some (.int .i64 mn)) (m3 : w.cell? ⟨b11, 3, none⟩ = some (.int .i64 lo)) (m4 : w.cell? ⟨b11, 4, none⟩ = some (.int .i64 hi)) (q0 : w.cell? ⟨b5, 0, none⟩ = some (.int .i64 o)) (q1 : w.cell? ⟨b5, 1, none⟩ = some (.int .i64 t)) (q2 : w.cell? ⟨b5, 2, none⟩ = some (.slice A nl c)) (hh : CV w 40 #[.slice A1 n1 c1, .int .i64 sl] (.bool false)) (hi' : CV w 31 #[.int .i64 dy, .int .i64 lo, .int .i64 hi] (.bool true)) (hl' : ¬ la ≤ dy) : OpOk Try.prog opsMy2 (wordsMy2 b5 b11 A A1 nl c n1 c1 o t la sl dy src mn lo hi sk) 46 a w 0 := by
  refine OpOk.gen rfl (fun a1 w1 H => ?_)
  have e1 : a1.eval (.tmp 1) = .slice A1 n1 c1 := (H.out 1 (by kernel_rfl)).trans t1
  refine gd_none ?_
  exact OpW.move e1 rfl
theorem okMy2_1 {b5 b11 : Nat} {A A1 : Option Addr} {nl c n1 c1 : Nat} {o t la sl dy src mn lo hi sk : Int} {a : Act} {w : World} (t1 : a.eval (.tmp 1) = .slice A1 n1 c1) (t2 : a.eval (.tmp 2) = .int .i64 la) (t3 : a.eval (.tmp 3) = .int .i64 sl) (t4 : a.eval (.tmp 4) = .int .i64 dy) (t5 : a.eval (.tmp 5) = .pointer (some ⟨b5, 0, none⟩)) (t11 : a.eval (.tmp 11) = .pointer (some ⟨b11, 0, none⟩)) (m0 : w.cell? ⟨b11, 0, none⟩ = some (.int .i64 src)) (m2 : w.cell? ⟨b11, 2, none⟩ = some (.int .i64 mn)) (m3 : w.cell? ⟨b11, 3, none⟩ = some (.int .i64 lo)) (m4 : w.cell? ⟨b11, 4, none⟩ = some (.int .i64 hi)) (q0 : w.cell? ⟨b5, 0, none⟩ = some (.int .i64 o)) (q1 : w.cell? ⟨b5, 1, none⟩ = some (.int .i64 t)) (q2 : w.cell? ⟨b5, 2, none⟩ = some (.slice A nl c)) (hh : CV w 40 #[.slice A1 n1 c1, .int .i64 sl] (.bool false)) (hi' : CV w 31 #[.int .i64 dy, .int .i64 lo, .int .i64 hi] (.bool true)) (hl' : ¬ la ≤ dy) : OpOk Try.prog opsMy2 (wordsMy2 b5 b11 A A1 nl c n1 c1 o t la sl dy src mn lo hi sk) 46 a w 1 := by
  refine OpOk.gen rfl (fun a1 w1 H => ?_)
  have e3 : a1.eval (.tmp 3) = .int .i64 sl := (H.out 3 (by kernel_rfl)).trans t3
  refine gd_none ?_
  exact OpW.move e3 rfl
theorem okMy2_2 {b5 b11 : Nat} {A A1 : Option Addr} {nl c n1 c1 : Nat} {o t la sl dy src mn lo hi sk : Int} {a : Act} {w : World} (t1 : a.eval (.tmp 1) = .slice A1 n1 c1) (t2 : a.eval (.tmp 2) = .int .i64 la) (t3 : a.eval (.tmp 3) = .int .i64 sl) (t4 : a.eval (.tmp 4) = .int .i64 dy) (t5 : a.eval (.tmp 5) = .pointer (some ⟨b5, 0, none⟩)) (t11 : a.eval (.tmp 11) = .pointer (some ⟨b11, 0, none⟩)) (m0 : w.cell? ⟨b11, 0, none⟩ = some (.int .i64 src)) (m2 : w.cell? ⟨b11, 2, none⟩ = some (.int .i64 mn)) (m3 : w.cell? ⟨b11, 3, none⟩ = some (.int .i64 lo)) (m4 : w.cell? ⟨b11, 4, none⟩ = some (.int .i64 hi)) (q0 : w.cell? ⟨b5, 0, none⟩ = some (.int .i64 o)) (q1 : w.cell? ⟨b5, 1, none⟩ = some (.int .i64 t)) (q2 : w.cell? ⟨b5, 2, none⟩ = some (.slice A nl c)) (hh : CV w 40 #[.slice A1 n1 c1, .int .i64 sl] (.bool false)) (hi' : CV w 31 #[.int .i64 dy, .int .i64 lo, .int .i64 hi] (.bool true)) (hl' : ¬ la ≤ dy) : OpOk Try.prog opsMy2 (wordsMy2 b5 b11 A A1 nl c n1 c1 o t la sl dy src mn lo hi sk) 46 a w 2 := by
  refine OpOk.gen rfl (fun a1 w1 H => ?_)
  have d0 : a1.eval (.tmp 17) = .slice A1 n1 c1 := H.dep 0 17 rfl (by kernel_rfl)
  have d1 : a1.eval (.tmp 18) = .int .i64 sl := H.dep 1 18 rfl (by kernel_rfl)
  refine gd_none ?_
  exact OpW.call (vs := #[.slice A1 n1 c1, .int .i64 sl]) (enters_of Try.func40 (by kernel_rfl) rfl) (by simp [d0, d1]) (hh w1 H.low)
theorem okMy2_3 {b5 b11 : Nat} {A A1 : Option Addr} {nl c n1 c1 : Nat} {o t la sl dy src mn lo hi sk : Int} {a : Act} {w : World} (t1 : a.eval (.tmp 1) = .slice A1 n1 c1) (t2 : a.eval (.tmp 2) = .int .i64 la) (t3 : a.eval (.tmp 3) = .int .i64 sl) (t4 : a.eval (.tmp 4) = .int .i64 dy) (t5 : a.eval (.tmp 5) = .pointer (some ⟨b5, 0, none⟩)) (t11 : a.eval (.tmp 11) = .pointer (some ⟨b11, 0, none⟩)) (m0 : w.cell? ⟨b11, 0, none⟩ = some (.int .i64 src)) (m2 : w.cell? ⟨b11, 2, none⟩ = some (.int .i64 mn)) (m3 : w.cell? ⟨b11, 3, none⟩ = some (.int .i64 lo)) (m4 : w.cell? ⟨b11, 4, none⟩ = some (.int .i64 hi)) (q0 : w.cell? ⟨b5, 0, none⟩ = some (.int .i64 o)) (q1 : w.cell? ⟨b5, 1, none⟩ = some (.int .i64 t)) (q2 : w.cell? ⟨b5, 2, none⟩ = some (.slice A nl c)) (hh : CV w 40 #[.slice A1 n1 c1, .int .i64 sl] (.bool false)) (hi' : CV w 31 #[.int .i64 dy, .int .i64 lo, .int .i64 hi] (.bool true)) (hl' : ¬ la ≤ dy) : OpOk Try.prog opsMy2 (wordsMy2 b5 b11 A A1 nl c n1 c1 o t la sl dy src mn lo hi sk) 46 a w 3 := by
  refine OpOk.gen rfl (fun a1 w1 H => ?_)
  have d2 : a1.eval (.tmp 19) = .bool false := H.dep 2 19 rfl (by kernel_rfl)
  refine gd_none ?_
  exact OpW.un d2 (not4 _ _) rfl
theorem okMy2_4 {b5 b11 : Nat} {A A1 : Option Addr} {nl c n1 c1 : Nat} {o t la sl dy src mn lo hi sk : Int} {a : Act} {w : World} (t1 : a.eval (.tmp 1) = .slice A1 n1 c1) (t2 : a.eval (.tmp 2) = .int .i64 la) (t3 : a.eval (.tmp 3) = .int .i64 sl) (t4 : a.eval (.tmp 4) = .int .i64 dy) (t5 : a.eval (.tmp 5) = .pointer (some ⟨b5, 0, none⟩)) (t11 : a.eval (.tmp 11) = .pointer (some ⟨b11, 0, none⟩)) (m0 : w.cell? ⟨b11, 0, none⟩ = some (.int .i64 src)) (m2 : w.cell? ⟨b11, 2, none⟩ = some (.int .i64 mn)) (m3 : w.cell? ⟨b11, 3, none⟩ = some (.int .i64 lo)) (m4 : w.cell? ⟨b11, 4, none⟩ = some (.int .i64 hi)) (q0 : w.cell? ⟨b5, 0, none⟩ = some (.int .i64 o)) (q1 : w.cell? ⟨b5, 1, none⟩ = some (.int .i64 t)) (q2 : w.cell? ⟨b5, 2, none⟩ = some (.slice A nl c)) (hh : CV w 40 #[.slice A1 n1 c1, .int .i64 sl] (.bool false)) (hi' : CV w 31 #[.int .i64 dy, .int .i64 lo, .int .i64 hi] (.bool true)) (hl' : ¬ la ≤ dy) : OpOk Try.prog opsMy2 (wordsMy2 b5 b11 A A1 nl c n1 c1 o t la sl dy src mn lo hi sk) 46 a w 4 := by
  refine OpOk.gen rfl (fun a1 w1 H => ?_)
  have d3 : a1.eval (.tmp 20) = .bool true := H.dep 3 20 rfl (by kernel_rfl)
  refine gd_none ?_
  exact OpW.move d3 rfl
theorem okMy2_5 {b5 b11 : Nat} {A A1 : Option Addr} {nl c n1 c1 : Nat} {o t la sl dy src mn lo hi sk : Int} {a : Act} {w : World} (t1 : a.eval (.tmp 1) = .slice A1 n1 c1) (t2 : a.eval (.tmp 2) = .int .i64 la) (t3 : a.eval (.tmp 3) = .int .i64 sl) (t4 : a.eval (.tmp 4) = .int .i64 dy) (t5 : a.eval (.tmp 5) = .pointer (some ⟨b5, 0, none⟩)) (t11 : a.eval (.tmp 11) = .pointer (some ⟨b11, 0, none⟩)) (m0 : w.cell? ⟨b11, 0, none⟩ = some (.int .i64 src)) (m2 : w.cell? ⟨b11, 2, none⟩ = some (.int .i64 mn)) (m3 : w.cell? ⟨b11, 3, none⟩ = some (.int .i64 lo)) (m4 : w.cell? ⟨b11, 4, none⟩ = some (.int .i64 hi)) (q0 : w.cell? ⟨b5, 0, none⟩ = some (.int .i64 o)) (q1 : w.cell? ⟨b5, 1, none⟩ = some (.int .i64 t)) (q2 : w.cell? ⟨b5, 2, none⟩ = some (.slice A nl c)) (hh : CV w 40 #[.slice A1 n1 c1, .int .i64 sl] (.bool false)) (hi' : CV w 31 #[.int .i64 dy, .int .i64 lo, .int .i64 hi] (.bool true)) (hl' : ¬ la ≤ dy) : OpOk Try.prog opsMy2 (wordsMy2 b5 b11 A A1 nl c n1 c1 o t la sl dy src mn lo hi sk) 46 a w 5 := by
  refine OpOk.gen rfl (fun a1 w1 H => ?_)
  have d4 : a1.eval (.tmp 21) = .bool true := H.dep 4 21 rfl (by kernel_rfl)
  have e4 : a1.eval (.tmp 4) = .int .i64 dy := (H.out 4 (by kernel_rfl)).trans t4
  refine gd_true rfl d4 ?_
  exact OpW.move e4 rfl
theorem okMy2_6 {b5 b11 : Nat} {A A1 : Option Addr} {nl c n1 c1 : Nat} {o t la sl dy src mn lo hi sk : Int} {a : Act} {w : World} (t1 : a.eval (.tmp 1) = .slice A1 n1 c1) (t2 : a.eval (.tmp 2) = .int .i64 la) (t3 : a.eval (.tmp 3) = .int .i64 sl) (t4 : a.eval (.tmp 4) = .int .i64 dy) (t5 : a.eval (.tmp 5) = .pointer (some ⟨b5, 0, none⟩)) (t11 : a.eval (.tmp 11) = .pointer (some ⟨b11, 0, none⟩)) (m0 : w.cell? ⟨b11, 0, none⟩ = some (.int .i64 src)) (m2 : w.cell? ⟨b11, 2, none⟩ = some (.int .i64 mn)) (m3 : w.cell? ⟨b11, 3, none⟩ = some (.int .i64 lo)) (m4 : w.cell? ⟨b11, 4, none⟩ = some (.int .i64 hi)) (q0 : w.cell? ⟨b5, 0, none⟩ = some (.int .i64 o)) (q1 : w.cell? ⟨b5, 1, none⟩ = some (.int .i64 t)) (q2 : w.cell? ⟨b5, 2, none⟩ = some (.slice A nl c)) (hh : CV w 40 #[.slice A1 n1 c1, .int .i64 sl] (.bool false)) (hi' : CV w 31 #[.int .i64 dy, .int .i64 lo, .int .i64 hi] (.bool true)) (hl' : ¬ la ≤ dy) : OpOk Try.prog opsMy2 (wordsMy2 b5 b11 A A1 nl c n1 c1 o t la sl dy src mn lo hi sk) 46 a w 6 := by
  refine OpOk.gen rfl (fun a1 w1 H => ?_)
  have d4 : a1.eval (.tmp 21) = .bool true := H.dep 4 21 rfl (by kernel_rfl)
  have e11 : a1.eval (.tmp 11) = .pointer (some ⟨b11, 0, none⟩) := (H.out 11 (by kernel_rfl)).trans t11
  refine gd_true rfl d4 ?_
  exact OpW.field e11 (fa73_3 _) rfl
theorem okMy2_7 {b5 b11 : Nat} {A A1 : Option Addr} {nl c n1 c1 : Nat} {o t la sl dy src mn lo hi sk : Int} {a : Act} {w : World} (t1 : a.eval (.tmp 1) = .slice A1 n1 c1) (t2 : a.eval (.tmp 2) = .int .i64 la) (t3 : a.eval (.tmp 3) = .int .i64 sl) (t4 : a.eval (.tmp 4) = .int .i64 dy) (t5 : a.eval (.tmp 5) = .pointer (some ⟨b5, 0, none⟩)) (t11 : a.eval (.tmp 11) = .pointer (some ⟨b11, 0, none⟩)) (m0 : w.cell? ⟨b11, 0, none⟩ = some (.int .i64 src)) (m2 : w.cell? ⟨b11, 2, none⟩ = some (.int .i64 mn)) (m3 : w.cell? ⟨b11, 3, none⟩ = some (.int .i64 lo)) (m4 : w.cell? ⟨b11, 4, none⟩ = some (.int .i64 hi)) (q0 : w.cell? ⟨b5, 0, none⟩ = some (.int .i64 o)) (q1 : w.cell? ⟨b5, 1, none⟩ = some (.int .i64 t)) (q2 : w.cell? ⟨b5, 2, none⟩ = some (.slice A nl c)) (hh : CV w 40 #[.slice A1 n1 c1, .int .i64 sl] (.bool false)) (hi' : CV w 31 #[.int .i64 dy, .int .i64 lo, .int .i64 hi] (.bool true)) (hl' : ¬ la ≤ dy) : OpOk Try.prog opsMy2 (wordsMy2 b5 b11 A A1 nl c n1 c1 o t la sl dy src mn lo hi sk) 46 a w 7 := by
  refine OpOk.gen rfl (fun a1 w1 H => ?_)
  have d4 : a1.eval (.tmp 21) = .bool true := H.dep 4 21 rfl (by kernel_rfl)
  have d6 : a1.eval (.tmp 23) = .pointer (some ⟨b11, 3, none⟩) := H.dep 6 23 rfl (by kernel_rfl)
  refine gd_true rfl d4 ?_
  exact OpW.field d6 (fa71_0 _) rfl
theorem okMy2_8 {b5 b11 : Nat} {A A1 : Option Addr} {nl c n1 c1 : Nat} {o t la sl dy src mn lo hi sk : Int} {a : Act} {w : World} (t1 : a.eval (.tmp 1) = .slice A1 n1 c1) (t2 : a.eval (.tmp 2) = .int .i64 la) (t3 : a.eval (.tmp 3) = .int .i64 sl) (t4 : a.eval (.tmp 4) = .int .i64 dy) (t5 : a.eval (.tmp 5) = .pointer (some ⟨b5, 0, none⟩)) (t11 : a.eval (.tmp 11) = .pointer (some ⟨b11, 0, none⟩)) (m0 : w.cell? ⟨b11, 0, none⟩ = some (.int .i64 src)) (m2 : w.cell? ⟨b11, 2, none⟩ = some (.int .i64 mn)) (m3 : w.cell? ⟨b11, 3, none⟩ = some (.int .i64 lo)) (m4 : w.cell? ⟨b11, 4, none⟩ = some (.int .i64 hi)) (q0 : w.cell? ⟨b5, 0, none⟩ = some (.int .i64 o)) (q1 : w.cell? ⟨b5, 1, none⟩ = some (.int .i64 t)) (q2 : w.cell? ⟨b5, 2, none⟩ = some (.slice A nl c)) (hh : CV w 40 #[.slice A1 n1 c1, .int .i64 sl] (.bool false)) (hi' : CV w 31 #[.int .i64 dy, .int .i64 lo, .int .i64 hi] (.bool true)) (hl' : ¬ la ≤ dy) : OpOk Try.prog opsMy2 (wordsMy2 b5 b11 A A1 nl c n1 c1 o t la sl dy src mn lo hi sk) 46 a w 8 := by
  refine OpOk.gen rfl (fun a1 w1 H => ?_)
  have d4 : a1.eval (.tmp 21) = .bool true := H.dep 4 21 rfl (by kernel_rfl)
  have d7 : a1.eval (.tmp 24) = .pointer (some ⟨b11, 3, none⟩) := H.dep 7 24 rfl (by kernel_rfl)
  refine gd_true rfl d4 ?_
  exact OpW.load d7 (ld3 (H.cell m3)) rfl
theorem okMy2_9 {b5 b11 : Nat} {A A1 : Option Addr} {nl c n1 c1 : Nat} {o t la sl dy src mn lo hi sk : Int} {a : Act} {w : World} (t1 : a.eval (.tmp 1) = .slice A1 n1 c1) (t2 : a.eval (.tmp 2) = .int .i64 la) (t3 : a.eval (.tmp 3) = .int .i64 sl) (t4 : a.eval (.tmp 4) = .int .i64 dy) (t5 : a.eval (.tmp 5) = .pointer (some ⟨b5, 0, none⟩)) (t11 : a.eval (.tmp 11) = .pointer (some ⟨b11, 0, none⟩)) (m0 : w.cell? ⟨b11, 0, none⟩ = some (.int .i64 src)) (m2 : w.cell? ⟨b11, 2, none⟩ = some (.int .i64 mn)) (m3 : w.cell? ⟨b11, 3, none⟩ = some (.int .i64 lo)) (m4 : w.cell? ⟨b11, 4, none⟩ = some (.int .i64 hi)) (q0 : w.cell? ⟨b5, 0, none⟩ = some (.int .i64 o)) (q1 : w.cell? ⟨b5, 1, none⟩ = some (.int .i64 t)) (q2 : w.cell? ⟨b5, 2, none⟩ = some (.slice A nl c)) (hh : CV w 40 #[.slice A1 n1 c1, .int .i64 sl] (.bool false)) (hi' : CV w 31 #[.int .i64 dy, .int .i64 lo, .int .i64 hi] (.bool true)) (hl' : ¬ la ≤ dy) : OpOk Try.prog opsMy2 (wordsMy2 b5 b11 A A1 nl c n1 c1 o t la sl dy src mn lo hi sk) 46 a w 9 := by
  refine OpOk.gen rfl (fun a1 w1 H => ?_)
  have d4 : a1.eval (.tmp 21) = .bool true := H.dep 4 21 rfl (by kernel_rfl)
  have e11 : a1.eval (.tmp 11) = .pointer (some ⟨b11, 0, none⟩) := (H.out 11 (by kernel_rfl)).trans t11
  refine gd_true rfl d4 ?_
  exact OpW.field e11 (fa73_3 _) rfl
theorem okMy2_10 {b5 b11 : Nat} {A A1 : Option Addr} {nl c n1 c1 : Nat} {o t la sl dy src mn lo hi sk : Int} {a : Act} {w : World} (t1 : a.eval (.tmp 1) = .slice A1 n1 c1) (t2 : a.eval (.tmp 2) = .int .i64 la) (t3 : a.eval (.tmp 3) = .int .i64 sl) (t4 : a.eval (.tmp 4) = .int .i64 dy) (t5 : a.eval (.tmp 5) = .pointer (some ⟨b5, 0, none⟩)) (t11 : a.eval (.tmp 11) = .pointer (some ⟨b11, 0, none⟩)) (m0 : w.cell? ⟨b11, 0, none⟩ = some (.int .i64 src)) (m2 : w.cell? ⟨b11, 2, none⟩ = some (.int .i64 mn)) (m3 : w.cell? ⟨b11, 3, none⟩ = some (.int .i64 lo)) (m4 : w.cell? ⟨b11, 4, none⟩ = some (.int .i64 hi)) (q0 : w.cell? ⟨b5, 0, none⟩ = some (.int .i64 o)) (q1 : w.cell? ⟨b5, 1, none⟩ = some (.int .i64 t)) (q2 : w.cell? ⟨b5, 2, none⟩ = some (.slice A nl c)) (hh : CV w 40 #[.slice A1 n1 c1, .int .i64 sl] (.bool false)) (hi' : CV w 31 #[.int .i64 dy, .int .i64 lo, .int .i64 hi] (.bool true)) (hl' : ¬ la ≤ dy) : OpOk Try.prog opsMy2 (wordsMy2 b5 b11 A A1 nl c n1 c1 o t la sl dy src mn lo hi sk) 46 a w 10 := by
  refine OpOk.gen rfl (fun a1 w1 H => ?_)
  have d4 : a1.eval (.tmp 21) = .bool true := H.dep 4 21 rfl (by kernel_rfl)
  have d9 : a1.eval (.tmp 26) = .pointer (some ⟨b11, 3, none⟩) := H.dep 9 26 rfl (by kernel_rfl)
  refine gd_true rfl d4 ?_
  exact OpW.field d9 (fa71_1 _) rfl
theorem okMy2_11 {b5 b11 : Nat} {A A1 : Option Addr} {nl c n1 c1 : Nat} {o t la sl dy src mn lo hi sk : Int} {a : Act} {w : World} (t1 : a.eval (.tmp 1) = .slice A1 n1 c1) (t2 : a.eval (.tmp 2) = .int .i64 la) (t3 : a.eval (.tmp 3) = .int .i64 sl) (t4 : a.eval (.tmp 4) = .int .i64 dy) (t5 : a.eval (.tmp 5) = .pointer (some ⟨b5, 0, none⟩)) (t11 : a.eval (.tmp 11) = .pointer (some ⟨b11, 0, none⟩)) (m0 : w.cell? ⟨b11, 0, none⟩ = some (.int .i64 src)) (m2 : w.cell? ⟨b11, 2, none⟩ = some (.int .i64 mn)) (m3 : w.cell? ⟨b11, 3, none⟩ = some (.int .i64 lo)) (m4 : w.cell? ⟨b11, 4, none⟩ = some (.int .i64 hi)) (q0 : w.cell? ⟨b5, 0, none⟩ = some (.int .i64 o)) (q1 : w.cell? ⟨b5, 1, none⟩ = some (.int .i64 t)) (q2 : w.cell? ⟨b5, 2, none⟩ = some (.slice A nl c)) (hh : CV w 40 #[.slice A1 n1 c1, .int .i64 sl] (.bool false)) (hi' : CV w 31 #[.int .i64 dy, .int .i64 lo, .int .i64 hi] (.bool true)) (hl' : ¬ la ≤ dy) : OpOk Try.prog opsMy2 (wordsMy2 b5 b11 A A1 nl c n1 c1 o t la sl dy src mn lo hi sk) 46 a w 11 := by
  refine OpOk.gen rfl (fun a1 w1 H => ?_)
  have d4 : a1.eval (.tmp 21) = .bool true := H.dep 4 21 rfl (by kernel_rfl)
  have d10 : a1.eval (.tmp 27) = .pointer (some ⟨b11, 4, none⟩) := H.dep 10 27 rfl (by kernel_rfl)
  refine gd_true rfl d4 ?_
  exact OpW.load d10 (ld3 (H.cell m4)) rfl
theorem okMy2_12 {b5 b11 : Nat} {A A1 : Option Addr} {nl c n1 c1 : Nat} {o t la sl dy src mn lo hi sk : Int} {a : Act} {w : World} (t1 : a.eval (.tmp 1) = .slice A1 n1 c1) (t2 : a.eval (.tmp 2) = .int .i64 la) (t3 : a.eval (.tmp 3) = .int .i64 sl) (t4 : a.eval (.tmp 4) = .int .i64 dy) (t5 : a.eval (.tmp 5) = .pointer (some ⟨b5, 0, none⟩)) (t11 : a.eval (.tmp 11) = .pointer (some ⟨b11, 0, none⟩)) (m0 : w.cell? ⟨b11, 0, none⟩ = some (.int .i64 src)) (m2 : w.cell? ⟨b11, 2, none⟩ = some (.int .i64 mn)) (m3 : w.cell? ⟨b11, 3, none⟩ = some (.int .i64 lo)) (m4 : w.cell? ⟨b11, 4, none⟩ = some (.int .i64 hi)) (q0 : w.cell? ⟨b5, 0, none⟩ = some (.int .i64 o)) (q1 : w.cell? ⟨b5, 1, none⟩ = some (.int .i64 t)) (q2 : w.cell? ⟨b5, 2, none⟩ = some (.slice A nl c)) (hh : CV w 40 #[.slice A1 n1 c1, .int .i64 sl] (.bool false)) (hi' : CV w 31 #[.int .i64 dy, .int .i64 lo, .int .i64 hi] (.bool true)) (hl' : ¬ la ≤ dy) : OpOk Try.prog opsMy2 (wordsMy2 b5 b11 A A1 nl c n1 c1 o t la sl dy src mn lo hi sk) 46 a w 12 := by
  refine OpOk.gen rfl (fun a1 w1 H => ?_)
  have d4 : a1.eval (.tmp 21) = .bool true := H.dep 4 21 rfl (by kernel_rfl)
  have d5 : a1.eval (.tmp 22) = .int .i64 dy := H.dep 5 22 rfl (by kernel_rfl)
  have d8 : a1.eval (.tmp 25) = .int .i64 lo := H.dep 8 25 rfl (by kernel_rfl)
  have d11 : a1.eval (.tmp 28) = .int .i64 hi := H.dep 11 28 rfl (by kernel_rfl)
  refine gd_true rfl d4 ?_
  exact OpW.call (vs := #[.int .i64 dy, .int .i64 lo, .int .i64 hi]) (enters_of Try.func31 (by kernel_rfl) rfl) (by simp [d5, d8, d11]) (hi' w1 H.low)
theorem okMy2_13 {b5 b11 : Nat} {A A1 : Option Addr} {nl c n1 c1 : Nat} {o t la sl dy src mn lo hi sk : Int} {a : Act} {w : World} (t1 : a.eval (.tmp 1) = .slice A1 n1 c1) (t2 : a.eval (.tmp 2) = .int .i64 la) (t3 : a.eval (.tmp 3) = .int .i64 sl) (t4 : a.eval (.tmp 4) = .int .i64 dy) (t5 : a.eval (.tmp 5) = .pointer (some ⟨b5, 0, none⟩)) (t11 : a.eval (.tmp 11) = .pointer (some ⟨b11, 0, none⟩)) (m0 : w.cell? ⟨b11, 0, none⟩ = some (.int .i64 src)) (m2 : w.cell? ⟨b11, 2, none⟩ = some (.int .i64 mn)) (m3 : w.cell? ⟨b11, 3, none⟩ = some (.int .i64 lo)) (m4 : w.cell? ⟨b11, 4, none⟩ = some (.int .i64 hi)) (q0 : w.cell? ⟨b5, 0, none⟩ = some (.int .i64 o)) (q1 : w.cell? ⟨b5, 1, none⟩ = some (.int .i64 t)) (q2 : w.cell? ⟨b5, 2, none⟩ = some (.slice A nl c)) (hh : CV w 40 #[.slice A1 n1 c1, .int .i64 sl] (.bool false)) (hi' : CV w 31 #[.int .i64 dy, .int .i64 lo, .int .i64 hi] (.bool true)) (hl' : ¬ la ≤ dy) : OpOk Try.prog opsMy2 (wordsMy2 b5 b11 A A1 nl c n1 c1 o t la sl dy src mn lo hi sk) 46 a w 13 := by
  refine OpOk.gen rfl (fun a1 w1 H => ?_)
  have d4 : a1.eval (.tmp 21) = .bool true := H.dep 4 21 rfl (by kernel_rfl)
  have d12 : a1.eval (.tmp 29) = .bool true := H.dep 12 29 rfl (by kernel_rfl)
  refine gd_none ?_
  exact OpW.pick (b := true) d4 d12
theorem okMy2_14 {b5 b11 : Nat} {A A1 : Option Addr} {nl c n1 c1 : Nat} {o t la sl dy src mn lo hi sk : Int} {a : Act} {w : World} (t1 : a.eval (.tmp 1) = .slice A1 n1 c1) (t2 : a.eval (.tmp 2) = .int .i64 la) (t3 : a.eval (.tmp 3) = .int .i64 sl) (t4 : a.eval (.tmp 4) = .int .i64 dy) (t5 : a.eval (.tmp 5) = .pointer (some ⟨b5, 0, none⟩)) (t11 : a.eval (.tmp 11) = .pointer (some ⟨b11, 0, none⟩)) (m0 : w.cell? ⟨b11, 0, none⟩ = some (.int .i64 src)) (m2 : w.cell? ⟨b11, 2, none⟩ = some (.int .i64 mn)) (m3 : w.cell? ⟨b11, 3, none⟩ = some (.int .i64 lo)) (m4 : w.cell? ⟨b11, 4, none⟩ = some (.int .i64 hi)) (q0 : w.cell? ⟨b5, 0, none⟩ = some (.int .i64 o)) (q1 : w.cell? ⟨b5, 1, none⟩ = some (.int .i64 t)) (q2 : w.cell? ⟨b5, 2, none⟩ = some (.slice A nl c)) (hh : CV w 40 #[.slice A1 n1 c1, .int .i64 sl] (.bool false)) (hi' : CV w 31 #[.int .i64 dy, .int .i64 lo, .int .i64 hi] (.bool true)) (hl' : ¬ la ≤ dy) : OpOk Try.prog opsMy2 (wordsMy2 b5 b11 A A1 nl c n1 c1 o t la sl dy src mn lo hi sk) 46 a w 14 := by
  refine OpOk.gen rfl (fun a1 w1 H => ?_)
  have d13 : a1.eval (.tmp 30) = .bool true := H.dep 13 30 rfl (by kernel_rfl)
  refine gd_none ?_
  exact OpW.move d13 rfl
theorem okMy2_15 {b5 b11 : Nat} {A A1 : Option Addr} {nl c n1 c1 : Nat} {o t la sl dy src mn lo hi sk : Int} {a : Act} {w : World} (t1 : a.eval (.tmp 1) = .slice A1 n1 c1) (t2 : a.eval (.tmp 2) = .int .i64 la) (t3 : a.eval (.tmp 3) = .int .i64 sl) (t4 : a.eval (.tmp 4) = .int .i64 dy) (t5 : a.eval (.tmp 5) = .pointer (some ⟨b5, 0, none⟩)) (t11 : a.eval (.tmp 11) = .pointer (some ⟨b11, 0, none⟩)) (m0 : w.cell? ⟨b11, 0, none⟩ = some (.int .i64 src)) (m2 : w.cell? ⟨b11, 2, none⟩ = some (.int .i64 mn)) (m3 : w.cell? ⟨b11, 3, none⟩ = some (.int .i64 lo)) (m4 : w.cell? ⟨b11, 4, none⟩ = some (.int .i64 hi)) (q0 : w.cell? ⟨b5, 0, none⟩ = some (.int .i64 o)) (q1 : w.cell? ⟨b5, 1, none⟩ = some (.int .i64 t)) (q2 : w.cell? ⟨b5, 2, none⟩ = some (.slice A nl c)) (hh : CV w 40 #[.slice A1 n1 c1, .int .i64 sl] (.bool false)) (hi' : CV w 31 #[.int .i64 dy, .int .i64 lo, .int .i64 hi] (.bool true)) (hl' : ¬ la ≤ dy) : OpOk Try.prog opsMy2 (wordsMy2 b5 b11 A A1 nl c n1 c1 o t la sl dy src mn lo hi sk) 46 a w 15 := by
  refine OpOk.gen rfl (fun a1 w1 H => ?_)
  have d14 : a1.eval (.tmp 31) = .bool true := H.dep 14 31 rfl (by kernel_rfl)
  have e4 : a1.eval (.tmp 4) = .int .i64 dy := (H.out 4 (by kernel_rfl)).trans t4
  refine gd_true rfl d14 ?_
  exact OpW.move e4 rfl
theorem okMy2_16 {b5 b11 : Nat} {A A1 : Option Addr} {nl c n1 c1 : Nat} {o t la sl dy src mn lo hi sk : Int} {a : Act} {w : World} (t1 : a.eval (.tmp 1) = .slice A1 n1 c1) (t2 : a.eval (.tmp 2) = .int .i64 la) (t3 : a.eval (.tmp 3) = .int .i64 sl) (t4 : a.eval (.tmp 4) = .int .i64 dy) (t5 : a.eval (.tmp 5) = .pointer (some ⟨b5, 0, none⟩)) (t11 : a.eval (.tmp 11) = .pointer (some ⟨b11, 0, none⟩)) (m0 : w.cell? ⟨b11, 0, none⟩ = some (.int .i64 src)) (m2 : w.cell? ⟨b11, 2, none⟩ = some (.int .i64 mn)) (m3 : w.cell? ⟨b11, 3, none⟩ = some (.int .i64 lo)) (m4 : w.cell? ⟨b11, 4, none⟩ = some (.int .i64 hi)) (q0 : w.cell? ⟨b5, 0, none⟩ = some (.int .i64 o)) (q1 : w.cell? ⟨b5, 1, none⟩ = some (.int .i64 t)) (q2 : w.cell? ⟨b5, 2, none⟩ = some (.slice A nl c)) (hh : CV w 40 #[.slice A1 n1 c1, .int .i64 sl] (.bool false)) (hi' : CV w 31 #[.int .i64 dy, .int .i64 lo, .int .i64 hi] (.bool true)) (hl' : ¬ la ≤ dy) : OpOk Try.prog opsMy2 (wordsMy2 b5 b11 A A1 nl c n1 c1 o t la sl dy src mn lo hi sk) 46 a w 16 := by
  refine OpOk.gen rfl (fun a1 w1 H => ?_)
  have d14 : a1.eval (.tmp 31) = .bool true := H.dep 14 31 rfl (by kernel_rfl)
  have e2 : a1.eval (.tmp 2) = .int .i64 la := (H.out 2 (by kernel_rfl)).trans t2
  refine gd_true rfl d14 ?_
  exact OpW.move e2 rfl
theorem okMy2_17 {b5 b11 : Nat} {A A1 : Option Addr} {nl c n1 c1 : Nat} {o t la sl dy src mn lo hi sk : Int} {a : Act} {w : World} (t1 : a.eval (.tmp 1) = .slice A1 n1 c1) (t2 : a.eval (.tmp 2) = .int .i64 la) (t3 : a.eval (.tmp 3) = .int .i64 sl) (t4 : a.eval (.tmp 4) = .int .i64 dy) (t5 : a.eval (.tmp 5) = .pointer (some ⟨b5, 0, none⟩)) (t11 : a.eval (.tmp 11) = .pointer (some ⟨b11, 0, none⟩)) (m0 : w.cell? ⟨b11, 0, none⟩ = some (.int .i64 src)) (m2 : w.cell? ⟨b11, 2, none⟩ = some (.int .i64 mn)) (m3 : w.cell? ⟨b11, 3, none⟩ = some (.int .i64 lo)) (m4 : w.cell? ⟨b11, 4, none⟩ = some (.int .i64 hi)) (q0 : w.cell? ⟨b5, 0, none⟩ = some (.int .i64 o)) (q1 : w.cell? ⟨b5, 1, none⟩ = some (.int .i64 t)) (q2 : w.cell? ⟨b5, 2, none⟩ = some (.slice A nl c)) (hh : CV w 40 #[.slice A1 n1 c1, .int .i64 sl] (.bool false)) (hi' : CV w 31 #[.int .i64 dy, .int .i64 lo, .int .i64 hi] (.bool true)) (hl' : ¬ la ≤ dy) : OpOk Try.prog opsMy2 (wordsMy2 b5 b11 A A1 nl c n1 c1 o t la sl dy src mn lo hi sk) 46 a w 17 := by
  refine OpOk.gen rfl (fun a1 w1 H => ?_)
  have d14 : a1.eval (.tmp 31) = .bool true := H.dep 14 31 rfl (by kernel_rfl)
  have d15 : a1.eval (.tmp 32) = .int .i64 dy := H.dep 15 32 rfl (by kernel_rfl)
  have d16 : a1.eval (.tmp 33) = .int .i64 la := H.dep 16 33 rfl (by kernel_rfl)
  refine gd_true rfl d14 ?_
  exact OpW.bin d15 d16 (geqF hl' _) rfl
theorem okMy2_18 {b5 b11 : Nat} {A A1 : Option Addr} {nl c n1 c1 : Nat} {o t la sl dy src mn lo hi sk : Int} {a : Act} {w : World} (t1 : a.eval (.tmp 1) = .slice A1 n1 c1) (t2 : a.eval (.tmp 2) = .int .i64 la) (t3 : a.eval (.tmp 3) = .int .i64 sl) (t4 : a.eval (.tmp 4) = .int .i64 dy) (t5 : a.eval (.tmp 5) = .pointer (some ⟨b5, 0, none⟩)) (t11 : a.eval (.tmp 11) = .pointer (some ⟨b11, 0, none⟩)) (m0 : w.cell? ⟨b11, 0, none⟩ = some (.int .i64 src)) (m2 : w.cell? ⟨b11, 2, none⟩ = some (.int .i64 mn)) (m3 : w.cell? ⟨b11, 3, none⟩ = some (.int .i64 lo)) (m4 : w.cell? ⟨b11, 4, none⟩ = some (.int .i64 hi)) (q0 : w.cell? ⟨b5, 0, none⟩ = some (.int .i64 o)) (q1 : w.cell? ⟨b5, 1, none⟩ = some (.int .i64 t)) (q2 : w.cell? ⟨b5, 2, none⟩ = some (.slice A nl c)) (hh : CV w 40 #[.slice A1 n1 c1, .int .i64 sl] (.bool false)) (hi' : CV w 31 #[.int .i64 dy, .int .i64 lo, .int .i64 hi] (.bool true)) (hl' : ¬ la ≤ dy) : OpOk Try.prog opsMy2 (wordsMy2 b5 b11 A A1 nl c n1 c1 o t la sl dy src mn lo hi sk) 46 a w 18 := by
  refine OpOk.gen rfl (fun a1 w1 H => ?_)
  have d14 : a1.eval (.tmp 31) = .bool true := H.dep 14 31 rfl (by kernel_rfl)
  have d17 : a1.eval (.tmp 34) = .bool false := H.dep 17 34 rfl (by kernel_rfl)
  refine gd_none ?_
  exact OpW.pick (b := true) d14 d17
theorem okMy2_19 {b5 b11 : Nat} {A A1 : Option Addr} {nl c n1 c1 : Nat} {o t la sl dy src mn lo hi sk : Int} {a : Act} {w : World} (t1 : a.eval (.tmp 1) = .slice A1 n1 c1) (t2 : a.eval (.tmp 2) = .int .i64 la) (t3 : a.eval (.tmp 3) = .int .i64 sl) (t4 : a.eval (.tmp 4) = .int .i64 dy) (t5 : a.eval (.tmp 5) = .pointer (some ⟨b5, 0, none⟩)) (t11 : a.eval (.tmp 11) = .pointer (some ⟨b11, 0, none⟩)) (m0 : w.cell? ⟨b11, 0, none⟩ = some (.int .i64 src)) (m2 : w.cell? ⟨b11, 2, none⟩ = some (.int .i64 mn)) (m3 : w.cell? ⟨b11, 3, none⟩ = some (.int .i64 lo)) (m4 : w.cell? ⟨b11, 4, none⟩ = some (.int .i64 hi)) (q0 : w.cell? ⟨b5, 0, none⟩ = some (.int .i64 o)) (q1 : w.cell? ⟨b5, 1, none⟩ = some (.int .i64 t)) (q2 : w.cell? ⟨b5, 2, none⟩ = some (.slice A nl c)) (hh : CV w 40 #[.slice A1 n1 c1, .int .i64 sl] (.bool false)) (hi' : CV w 31 #[.int .i64 dy, .int .i64 lo, .int .i64 hi] (.bool true)) (hl' : ¬ la ≤ dy) : OpOk Try.prog opsMy2 (wordsMy2 b5 b11 A A1 nl c n1 c1 o t la sl dy src mn lo hi sk) 46 a w 19 := by
  refine OpOk.gen rfl (fun a1 w1 H => ?_)
  have d18 : a1.eval (.tmp 35) = .bool false := H.dep 18 35 rfl (by kernel_rfl)
  refine gd_none ?_
  exact OpW.move d18 rfl
theorem okMy2_20 {b5 b11 : Nat} {A A1 : Option Addr} {nl c n1 c1 : Nat} {o t la sl dy src mn lo hi sk : Int} {a : Act} {w : World} (t1 : a.eval (.tmp 1) = .slice A1 n1 c1) (t2 : a.eval (.tmp 2) = .int .i64 la) (t3 : a.eval (.tmp 3) = .int .i64 sl) (t4 : a.eval (.tmp 4) = .int .i64 dy) (t5 : a.eval (.tmp 5) = .pointer (some ⟨b5, 0, none⟩)) (t11 : a.eval (.tmp 11) = .pointer (some ⟨b11, 0, none⟩)) (m0 : w.cell? ⟨b11, 0, none⟩ = some (.int .i64 src)) (m2 : w.cell? ⟨b11, 2, none⟩ = some (.int .i64 mn)) (m3 : w.cell? ⟨b11, 3, none⟩ = some (.int .i64 lo)) (m4 : w.cell? ⟨b11, 4, none⟩ = some (.int .i64 hi)) (q0 : w.cell? ⟨b5, 0, none⟩ = some (.int .i64 o)) (q1 : w.cell? ⟨b5, 1, none⟩ = some (.int .i64 t)) (q2 : w.cell? ⟨b5, 2, none⟩ = some (.slice A nl c)) (hh : CV w 40 #[.slice A1 n1 c1, .int .i64 sl] (.bool false)) (hi' : CV w 31 #[.int .i64 dy, .int .i64 lo, .int .i64 hi] (.bool true)) (hl' : ¬ la ≤ dy) : OpOk Try.prog opsMy2 (wordsMy2 b5 b11 A A1 nl c n1 c1 o t la sl dy src mn lo hi sk) 46 a w 20 := by
  refine OpOk.gen rfl (fun a1 w1 H => ?_)
  have d19 : a1.eval (.tmp 36) = .bool false := H.dep 19 36 rfl (by kernel_rfl)
  refine gd_false rfl d19 (by decide) ?_
  trivial
theorem okMy2_21 {b5 b11 : Nat} {A A1 : Option Addr} {nl c n1 c1 : Nat} {o t la sl dy src mn lo hi sk : Int} {a : Act} {w : World} (t1 : a.eval (.tmp 1) = .slice A1 n1 c1) (t2 : a.eval (.tmp 2) = .int .i64 la) (t3 : a.eval (.tmp 3) = .int .i64 sl) (t4 : a.eval (.tmp 4) = .int .i64 dy) (t5 : a.eval (.tmp 5) = .pointer (some ⟨b5, 0, none⟩)) (t11 : a.eval (.tmp 11) = .pointer (some ⟨b11, 0, none⟩)) (m0 : w.cell? ⟨b11, 0, none⟩ = some (.int .i64 src)) (m2 : w.cell? ⟨b11, 2, none⟩ = some (.int .i64 mn)) (m3 : w.cell? ⟨b11, 3, none⟩ = some (.int .i64 lo)) (m4 : w.cell? ⟨b11, 4, none⟩ = some (.int .i64 hi)) (q0 : w.cell? ⟨b5, 0, none⟩ = some (.int .i64 o)) (q1 : w.cell? ⟨b5, 1, none⟩ = some (.int .i64 t)) (q2 : w.cell? ⟨b5, 2, none⟩ = some (.slice A nl c)) (hh : CV w 40 #[.slice A1 n1 c1, .int .i64 sl] (.bool false)) (hi' : CV w 31 #[.int .i64 dy, .int .i64 lo, .int .i64 hi] (.bool true)) (hl' : ¬ la ≤ dy) : OpOk Try.prog opsMy2 (wordsMy2 b5 b11 A A1 nl c n1 c1 o t la sl dy src mn lo hi sk) 46 a w 21 := by
  refine OpOk.gen rfl (fun a1 w1 H => ?_)
  have d19 : a1.eval (.tmp 36) = .bool false := H.dep 19 36 rfl (by kernel_rfl)
  refine gd_false rfl d19 (by decide) ?_
  trivial
theorem okMy2_22 {b5 b11 : Nat} {A A1 : Option Addr} {nl c n1 c1 : Nat} {o t la sl dy src mn lo hi sk : Int} {a : Act} {w : World} (t1 : a.eval (.tmp 1) = .slice A1 n1 c1) (t2 : a.eval (.tmp 2) = .int .i64 la) (t3 : a.eval (.tmp 3) = .int .i64 sl) (t4 : a.eval (.tmp 4) = .int .i64 dy) (t5 : a.eval (.tmp 5) = .pointer (some ⟨b5, 0, none⟩)) (t11 : a.eval (.tmp 11) = .pointer (some ⟨b11, 0, none⟩)) (m0 : w.cell? ⟨b11, 0, none⟩ = some (.int .i64 src)) (m2 : w.cell? ⟨b11, 2, none⟩ = some (.int .i64 mn)) (m3 : w.cell? ⟨b11, 3, none⟩ = some (.int .i64 lo)) (m4 : w.cell? ⟨b11, 4, none⟩ = some (.int .i64 hi)) (q0 : w.cell? ⟨b5, 0, none⟩ = some (.int .i64 o)) (q1 : w.cell? ⟨b5, 1, none⟩ = some (.int .i64 t)) (q2 : w.cell? ⟨b5, 2, none⟩ = some (.slice A nl c)) (hh : CV w 40 #[.slice A1 n1 c1, .int .i64 sl] (.bool false)) (hi' : CV w 31 #[.int .i64 dy, .int .i64 lo, .int .i64 hi] (.bool true)) (hl' : ¬ la ≤ dy) : OpOk Try.prog opsMy2 (wordsMy2 b5 b11 A A1 nl c n1 c1 o t la sl dy src mn lo hi sk) 46 a w 22 := by
  refine OpOk.gen rfl (fun a1 w1 H => ?_)
  have d19 : a1.eval (.tmp 36) = .bool false := H.dep 19 36 rfl (by kernel_rfl)
  refine gd_false rfl d19 (by decide) ?_
  trivial
theorem okMy2_23 {b5 b11 : Nat} {A A1 : Option Addr} {nl c n1 c1 : Nat} {o t la sl dy src mn lo hi sk : Int} {a : Act} {w : World} (t1 : a.eval (.tmp 1) = .slice A1 n1 c1) (t2 : a.eval (.tmp 2) = .int .i64 la) (t3 : a.eval (.tmp 3) = .int .i64 sl) (t4 : a.eval (.tmp 4) = .int .i64 dy) (t5 : a.eval (.tmp 5) = .pointer (some ⟨b5, 0, none⟩)) (t11 : a.eval (.tmp 11) = .pointer (some ⟨b11, 0, none⟩)) (m0 : w.cell? ⟨b11, 0, none⟩ = some (.int .i64 src)) (m2 : w.cell? ⟨b11, 2, none⟩ = some (.int .i64 mn)) (m3 : w.cell? ⟨b11, 3, none⟩ = some (.int .i64 lo)) (m4 : w.cell? ⟨b11, 4, none⟩ = some (.int .i64 hi)) (q0 : w.cell? ⟨b5, 0, none⟩ = some (.int .i64 o)) (q1 : w.cell? ⟨b5, 1, none⟩ = some (.int .i64 t)) (q2 : w.cell? ⟨b5, 2, none⟩ = some (.slice A nl c)) (hh : CV w 40 #[.slice A1 n1 c1, .int .i64 sl] (.bool false)) (hi' : CV w 31 #[.int .i64 dy, .int .i64 lo, .int .i64 hi] (.bool true)) (hl' : ¬ la ≤ dy) : OpOk Try.prog opsMy2 (wordsMy2 b5 b11 A A1 nl c n1 c1 o t la sl dy src mn lo hi sk) 46 a w 23 := by
  refine OpOk.gen rfl (fun a1 w1 H => ?_)
  have d19 : a1.eval (.tmp 36) = .bool false := H.dep 19 36 rfl (by kernel_rfl)
  refine gd_false rfl d19 (by decide) ?_
  trivial
theorem okMy2_24 {b5 b11 : Nat} {A A1 : Option Addr} {nl c n1 c1 : Nat} {o t la sl dy src mn lo hi sk : Int} {a : Act} {w : World} (t1 : a.eval (.tmp 1) = .slice A1 n1 c1) (t2 : a.eval (.tmp 2) = .int .i64 la) (t3 : a.eval (.tmp 3) = .int .i64 sl) (t4 : a.eval (.tmp 4) = .int .i64 dy) (t5 : a.eval (.tmp 5) = .pointer (some ⟨b5, 0, none⟩)) (t11 : a.eval (.tmp 11) = .pointer (some ⟨b11, 0, none⟩)) (m0 : w.cell? ⟨b11, 0, none⟩ = some (.int .i64 src)) (m2 : w.cell? ⟨b11, 2, none⟩ = some (.int .i64 mn)) (m3 : w.cell? ⟨b11, 3, none⟩ = some (.int .i64 lo)) (m4 : w.cell? ⟨b11, 4, none⟩ = some (.int .i64 hi)) (q0 : w.cell? ⟨b5, 0, none⟩ = some (.int .i64 o)) (q1 : w.cell? ⟨b5, 1, none⟩ = some (.int .i64 t)) (q2 : w.cell? ⟨b5, 2, none⟩ = some (.slice A nl c)) (hh : CV w 40 #[.slice A1 n1 c1, .int .i64 sl] (.bool false)) (hi' : CV w 31 #[.int .i64 dy, .int .i64 lo, .int .i64 hi] (.bool true)) (hl' : ¬ la ≤ dy) : OpOk Try.prog opsMy2 (wordsMy2 b5 b11 A A1 nl c n1 c1 o t la sl dy src mn lo hi sk) 46 a w 24 := by
  refine OpOk.gen rfl (fun a1 w1 H => ?_)
  have d19 : a1.eval (.tmp 36) = .bool false := H.dep 19 36 rfl (by kernel_rfl)
  refine gd_false rfl d19 (by decide) ?_
  trivial
theorem okMy2_25 {b5 b11 : Nat} {A A1 : Option Addr} {nl c n1 c1 : Nat} {o t la sl dy src mn lo hi sk : Int} {a : Act} {w : World} (t1 : a.eval (.tmp 1) = .slice A1 n1 c1) (t2 : a.eval (.tmp 2) = .int .i64 la) (t3 : a.eval (.tmp 3) = .int .i64 sl) (t4 : a.eval (.tmp 4) = .int .i64 dy) (t5 : a.eval (.tmp 5) = .pointer (some ⟨b5, 0, none⟩)) (t11 : a.eval (.tmp 11) = .pointer (some ⟨b11, 0, none⟩)) (m0 : w.cell? ⟨b11, 0, none⟩ = some (.int .i64 src)) (m2 : w.cell? ⟨b11, 2, none⟩ = some (.int .i64 mn)) (m3 : w.cell? ⟨b11, 3, none⟩ = some (.int .i64 lo)) (m4 : w.cell? ⟨b11, 4, none⟩ = some (.int .i64 hi)) (q0 : w.cell? ⟨b5, 0, none⟩ = some (.int .i64 o)) (q1 : w.cell? ⟨b5, 1, none⟩ = some (.int .i64 t)) (q2 : w.cell? ⟨b5, 2, none⟩ = some (.slice A nl c)) (hh : CV w 40 #[.slice A1 n1 c1, .int .i64 sl] (.bool false)) (hi' : CV w 31 #[.int .i64 dy, .int .i64 lo, .int .i64 hi] (.bool true)) (hl' : ¬ la ≤ dy) : OpOk Try.prog opsMy2 (wordsMy2 b5 b11 A A1 nl c n1 c1 o t la sl dy src mn lo hi sk) 46 a w 25 := by
  refine OpOk.gen rfl (fun a1 w1 H => ?_)
  have d19 : a1.eval (.tmp 36) = .bool false := H.dep 19 36 rfl (by kernel_rfl)
  refine gd_false rfl d19 (by decide) ?_
  trivial
theorem okMy2_26 {b5 b11 : Nat} {A A1 : Option Addr} {nl c n1 c1 : Nat} {o t la sl dy src mn lo hi sk : Int} {a : Act} {w : World} (t1 : a.eval (.tmp 1) = .slice A1 n1 c1) (t2 : a.eval (.tmp 2) = .int .i64 la) (t3 : a.eval (.tmp 3) = .int .i64 sl) (t4 : a.eval (.tmp 4) = .int .i64 dy) (t5 : a.eval (.tmp 5) = .pointer (some ⟨b5, 0, none⟩)) (t11 : a.eval (.tmp 11) = .pointer (some ⟨b11, 0, none⟩)) (m0 : w.cell? ⟨b11, 0, none⟩ = some (.int .i64 src)) (m2 : w.cell? ⟨b11, 2, none⟩ = some (.int .i64 mn)) (m3 : w.cell? ⟨b11, 3, none⟩ = some (.int .i64 lo)) (m4 : w.cell? ⟨b11, 4, none⟩ = some (.int .i64 hi)) (q0 : w.cell? ⟨b5, 0, none⟩ = some (.int .i64 o)) (q1 : w.cell? ⟨b5, 1, none⟩ = some (.int .i64 t)) (q2 : w.cell? ⟨b5, 2, none⟩ = some (.slice A nl c)) (hh : CV w 40 #[.slice A1 n1 c1, .int .i64 sl] (.bool false)) (hi' : CV w 31 #[.int .i64 dy, .int .i64 lo, .int .i64 hi] (.bool true)) (hl' : ¬ la ≤ dy) : OpOk Try.prog opsMy2 (wordsMy2 b5 b11 A A1 nl c n1 c1 o t la sl dy src mn lo hi sk) 46 a w 26 := by
  refine OpOk.gen rfl (fun a1 w1 H => ?_)
  have d19 : a1.eval (.tmp 36) = .bool false := H.dep 19 36 rfl (by kernel_rfl)
  refine gd_false rfl d19 (by decide) ?_
  trivial
theorem okMy2_27 {b5 b11 : Nat} {A A1 : Option Addr} {nl c n1 c1 : Nat} {o t la sl dy src mn lo hi sk : Int} {a : Act} {w : World} (t1 : a.eval (.tmp 1) = .slice A1 n1 c1) (t2 : a.eval (.tmp 2) = .int .i64 la) (t3 : a.eval (.tmp 3) = .int .i64 sl) (t4 : a.eval (.tmp 4) = .int .i64 dy) (t5 : a.eval (.tmp 5) = .pointer (some ⟨b5, 0, none⟩)) (t11 : a.eval (.tmp 11) = .pointer (some ⟨b11, 0, none⟩)) (m0 : w.cell? ⟨b11, 0, none⟩ = some (.int .i64 src)) (m2 : w.cell? ⟨b11, 2, none⟩ = some (.int .i64 mn)) (m3 : w.cell? ⟨b11, 3, none⟩ = some (.int .i64 lo)) (m4 : w.cell? ⟨b11, 4, none⟩ = some (.int .i64 hi)) (q0 : w.cell? ⟨b5, 0, none⟩ = some (.int .i64 o)) (q1 : w.cell? ⟨b5, 1, none⟩ = some (.int .i64 t)) (q2 : w.cell? ⟨b5, 2, none⟩ = some (.slice A nl c)) (hh : CV w 40 #[.slice A1 n1 c1, .int .i64 sl] (.bool false)) (hi' : CV w 31 #[.int .i64 dy, .int .i64 lo, .int .i64 hi] (.bool true)) (hl' : ¬ la ≤ dy) : OpOk Try.prog opsMy2 (wordsMy2 b5 b11 A A1 nl c n1 c1 o t la sl dy src mn lo hi sk) 46 a w 27 := by
  refine OpOk.gen rfl (fun a1 w1 H => ?_)
  have d19 : a1.eval (.tmp 36) = .bool false := H.dep 19 36 rfl (by kernel_rfl)
  refine gd_false rfl d19 (by decide) ?_
  trivial
theorem okMy2_28 {b5 b11 : Nat} {A A1 : Option Addr} {nl c n1 c1 : Nat} {o t la sl dy src mn lo hi sk : Int} {a : Act} {w : World} (t1 : a.eval (.tmp 1) = .slice A1 n1 c1) (t2 : a.eval (.tmp 2) = .int .i64 la) (t3 : a.eval (.tmp 3) = .int .i64 sl) (t4 : a.eval (.tmp 4) = .int .i64 dy) (t5 : a.eval (.tmp 5) = .pointer (some ⟨b5, 0, none⟩)) (t11 : a.eval (.tmp 11) = .pointer (some ⟨b11, 0, none⟩)) (m0 : w.cell? ⟨b11, 0, none⟩ = some (.int .i64 src)) (m2 : w.cell? ⟨b11, 2, none⟩ = some (.int .i64 mn)) (m3 : w.cell? ⟨b11, 3, none⟩ = some (.int .i64 lo)) (m4 : w.cell? ⟨b11, 4, none⟩ = some (.int .i64 hi)) (q0 : w.cell? ⟨b5, 0, none⟩ = some (.int .i64 o)) (q1 : w.cell? ⟨b5, 1, none⟩ = some (.int .i64 t)) (q2 : w.cell? ⟨b5, 2, none⟩ = some (.slice A nl c)) (hh : CV w 40 #[.slice A1 n1 c1, .int .i64 sl] (.bool false)) (hi' : CV w 31 #[.int .i64 dy, .int .i64 lo, .int .i64 hi] (.bool true)) (hl' : ¬ la ≤ dy) : OpOk Try.prog opsMy2 (wordsMy2 b5 b11 A A1 nl c n1 c1 o t la sl dy src mn lo hi sk) 46 a w 28 := by
  refine OpOk.gen rfl (fun a1 w1 H => ?_)
  have d19 : a1.eval (.tmp 36) = .bool false := H.dep 19 36 rfl (by kernel_rfl)
  refine gd_none ?_
  exact OpW.pick (b := false) d19 rfl
theorem okMy2_29 {b5 b11 : Nat} {A A1 : Option Addr} {nl c n1 c1 : Nat} {o t la sl dy src mn lo hi sk : Int} {a : Act} {w : World} (t1 : a.eval (.tmp 1) = .slice A1 n1 c1) (t2 : a.eval (.tmp 2) = .int .i64 la) (t3 : a.eval (.tmp 3) = .int .i64 sl) (t4 : a.eval (.tmp 4) = .int .i64 dy) (t5 : a.eval (.tmp 5) = .pointer (some ⟨b5, 0, none⟩)) (t11 : a.eval (.tmp 11) = .pointer (some ⟨b11, 0, none⟩)) (m0 : w.cell? ⟨b11, 0, none⟩ = some (.int .i64 src)) (m2 : w.cell? ⟨b11, 2, none⟩ = some (.int .i64 mn)) (m3 : w.cell? ⟨b11, 3, none⟩ = some (.int .i64 lo)) (m4 : w.cell? ⟨b11, 4, none⟩ = some (.int .i64 hi)) (q0 : w.cell? ⟨b5, 0, none⟩ = some (.int .i64 o)) (q1 : w.cell? ⟨b5, 1, none⟩ = some (.int .i64 t)) (q2 : w.cell? ⟨b5, 2, none⟩ = some (.slice A nl c)) (hh : CV w 40 #[.slice A1 n1 c1, .int .i64 sl] (.bool false)) (hi' : CV w 31 #[.int .i64 dy, .int .i64 lo, .int .i64 hi] (.bool true)) (hl' : ¬ la ≤ dy) : OpOk Try.prog opsMy2 (wordsMy2 b5 b11 A A1 nl c n1 c1 o t la sl dy src mn lo hi sk) 46 a w 29 := by
  refine OpOk.gen rfl (fun a1 w1 H => ?_)
  have d28 : a1.eval (.tmp 45) = .bool false := H.dep 28 45 rfl (by kernel_rfl)
  refine gd_none ?_
  exact OpW.assign d28 rfl
theorem regionMy2 {F : Fence} {n : Nat} (hF : WideF F Try.prog) {Q : Exit → Act → World → Prop} {b5 b11 : Nat} {A A1 : Option Addr} {nl c n1 c1 : Nat} {o t la sl dy src mn lo hi sk : Int} {a : Act} {w : World} (hsz : a.tmps.size = 46)
    (t1 : a.eval (.tmp 1) = .slice A1 n1 c1) (t2 : a.eval (.tmp 2) = .int .i64 la) (t3 : a.eval (.tmp 3) = .int .i64 sl) (t4 : a.eval (.tmp 4) = .int .i64 dy) (t5 : a.eval (.tmp 5) = .pointer (some ⟨b5, 0, none⟩)) (t11 : a.eval (.tmp 11) = .pointer (some ⟨b11, 0, none⟩)) (m0 : w.cell? ⟨b11, 0, none⟩ = some (.int .i64 src)) (m2 : w.cell? ⟨b11, 2, none⟩ = some (.int .i64 mn)) (m3 : w.cell? ⟨b11, 3, none⟩ = some (.int .i64 lo)) (m4 : w.cell? ⟨b11, 4, none⟩ = some (.int .i64 hi)) (q0 : w.cell? ⟨b5, 0, none⟩ = some (.int .i64 o)) (q1 : w.cell? ⟨b5, 1, none⟩ = some (.int .i64 t)) (q2 : w.cell? ⟨b5, 2, none⟩ = some (.slice A nl c)) (hh : CV w 40 #[.slice A1 n1 c1, .int .i64 sl] (.bool false)) (hi' : CV w 31 #[.int .i64 dy, .int .i64 lo, .int .i64 hi] (.bool true)) (hl' : ¬ la ≤ dy)
    (hK : ∀ (a' : Act) (w' : World), a'.tmps.size = 46 → a'.defers = a.defers → Below w.heap.size w w' → (∀ e, ndstB opsMy2 e = true → a'.eval (.tmp e) = a.eval (.tmp e)) → (∀ (j d : Nat), (opsMy2[j]?).bind (·.dst) = some d → (wordsMy2 b5 b11 A A1 nl c n1 c1 o t la sl dy src mn lo hi sk).at_ j (a'.eval (.tmp d)) w') → Q .normal a' w') :
    (Code.region 2 opsMy2 true).wpIn F n Try.prog Q a w := by
  refine region_S (wordsMy2 b5 b11 A A1 nl c n1 c1 o t la sl dy src mn lo hi sk) 46 hF (by kernel_rfl) Try.mixed (by kernel_rfl) (by kernel_rfl) ?_ hsz 30 (by kernel_rfl) ?_ hK
  · exact ⟨(fun _ _ _ h _ => h), (fun _ _ _ h _ => h), (fun _ _ _ h _ => h), (fun _ _ _ h _ => h), (fun _ _ _ h _ => h), (fun _ _ _ h _ => h), (fun _ _ _ h _ => h), (fun _ _ _ h _ => h), (fun _ _ _ h _ => h), (fun _ _ _ h _ => h), (fun _ _ _ h _ => h), (fun _ _ _ h _ => h), (fun _ _ _ h _ => h), (fun _ _ _ h _ => h), (fun _ _ _ h _ => h), (fun _ _ _ h _ => h), (fun _ _ _ h _ => h), (fun _ _ _ h _ => h), (fun _ _ _ h _ => h), (fun _ _ _ h _ => h), (fun _ _ _ _ _ => trivial), (fun _ _ _ _ _ => trivial), (fun _ _ _ _ _ => trivial), (fun _ _ _ _ _ => trivial), (fun _ _ _ _ _ => trivial), (fun _ _ _ _ _ => trivial), (fun _ _ _ _ _ => trivial), (fun _ _ _ _ _ => trivial), (fun _ _ _ h _ => h), (fun _ _ _ h _ => h), trivial⟩
  · exact ⟨⟨⟨⟨⟨⟨⟨⟨⟨⟨⟨⟨⟨⟨⟨⟨⟨⟨⟨⟨⟨⟨⟨⟨⟨⟨⟨⟨⟨⟨trivial, okMy2_0 t1 t2 t3 t4 t5 t11 m0 m2 m3 m4 q0 q1 q2 hh.drew hi'.drew hl'⟩, okMy2_1 t1 t2 t3 t4 t5 t11 m0 m2 m3 m4 q0 q1 q2 hh.drew hi'.drew hl'⟩, okMy2_2 t1 t2 t3 t4 t5 t11 m0 m2 m3 m4 q0 q1 q2 hh.drew hi'.drew hl'⟩, okMy2_3 t1 t2 t3 t4 t5 t11 m0 m2 m3 m4 q0 q1 q2 hh.drew hi'.drew hl'⟩, okMy2_4 t1 t2 t3 t4 t5 t11 m0 m2 m3 m4 q0 q1 q2 hh.drew hi'.drew hl'⟩, okMy2_5 t1 t2 t3 t4 t5 t11 m0 m2 m3 m4 q0 q1 q2 hh.drew hi'.drew hl'⟩, okMy2_6 t1 t2 t3 t4 t5 t11 m0 m2 m3 m4 q0 q1 q2 hh.drew hi'.drew hl'⟩, okMy2_7 t1 t2 t3 t4 t5 t11 m0 m2 m3 m4 q0 q1 q2 hh.drew hi'.drew hl'⟩, okMy2_8 t1 t2 t3 t4 t5 t11 m0 m2 m3 m4 q0 q1 q2 hh.drew hi'.drew hl'⟩, okMy2_9 t1 t2 t3 t4 t5 t11 m0 m2 m3 m4 q0 q1 q2 hh.drew hi'.drew hl'⟩, okMy2_10 t1 t2 t3 t4 t5 t11 m0 m2 m3 m4 q0 q1 q2 hh.drew hi'.drew hl'⟩, okMy2_11 t1 t2 t3 t4 t5 t11 m0 m2 m3 m4 q0 q1 q2 hh.drew hi'.drew hl'⟩, okMy2_12 t1 t2 t3 t4 t5 t11 m0 m2 m3 m4 q0 q1 q2 hh.drew hi'.drew hl'⟩, okMy2_13 t1 t2 t3 t4 t5 t11 m0 m2 m3 m4 q0 q1 q2 hh.drew hi'.drew hl'⟩, okMy2_14 t1 t2 t3 t4 t5 t11 m0 m2 m3 m4 q0 q1 q2 hh.drew hi'.drew hl'⟩, okMy2_15 t1 t2 t3 t4 t5 t11 m0 m2 m3 m4 q0 q1 q2 hh.drew hi'.drew hl'⟩, okMy2_16 t1 t2 t3 t4 t5 t11 m0 m2 m3 m4 q0 q1 q2 hh.drew hi'.drew hl'⟩, okMy2_17 t1 t2 t3 t4 t5 t11 m0 m2 m3 m4 q0 q1 q2 hh.drew hi'.drew hl'⟩, okMy2_18 t1 t2 t3 t4 t5 t11 m0 m2 m3 m4 q0 q1 q2 hh.drew hi'.drew hl'⟩, okMy2_19 t1 t2 t3 t4 t5 t11 m0 m2 m3 m4 q0 q1 q2 hh.drew hi'.drew hl'⟩, okMy2_20 t1 t2 t3 t4 t5 t11 m0 m2 m3 m4 q0 q1 q2 hh.drew hi'.drew hl'⟩, okMy2_21 t1 t2 t3 t4 t5 t11 m0 m2 m3 m4 q0 q1 q2 hh.drew hi'.drew hl'⟩, okMy2_22 t1 t2 t3 t4 t5 t11 m0 m2 m3 m4 q0 q1 q2 hh.drew hi'.drew hl'⟩, okMy2_23 t1 t2 t3 t4 t5 t11 m0 m2 m3 m4 q0 q1 q2 hh.drew hi'.drew hl'⟩, okMy2_24 t1 t2 t3 t4 t5 t11 m0 m2 m3 m4 q0 q1 q2 hh.drew hi'.drew hl'⟩, okMy2_25 t1 t2 t3 t4 t5 t11 m0 m2 m3 m4 q0 q1 q2 hh.drew hi'.drew hl'⟩, okMy2_26 t1 t2 t3 t4 t5 t11 m0 m2 m3 m4 q0 q1 q2 hh.drew hi'.drew hl'⟩, okMy2_27 t1 t2 t3 t4 t5 t11 m0 m2 m3 m4 q0 q1 q2 hh.drew hi'.drew hl'⟩, okMy2_28 t1 t2 t3 t4 t5 t11 m0 m2 m3 m4 q0 q1 q2 hh.drew hi'.drew hl'⟩, okMy2_29 t1 t2 t3 t4 t5 t11 m0 m2 m3 m4 q0 q1 q2 hh.drew hi'.drew hl'⟩
noncomputable def opsMy3 : Array Oper := (Try.f52.body.bind (regionOf 2)).getD #[]
def wordsMy3 (b5 b11 : Nat) (A A1 : Option Addr) (nl c n1 c1 : Nat) (o t la sl dy src mn lo hi sk : Int) : Words := [fun v _ => v = .slice A1 n1 c1, fun v _ => v = .int .i64 sl, fun v _ => v = .bool false, fun v _ => v = .bool true, fun v _ => v = .bool true, fun v _ => v = .int .i64 dy, fun v _ => v = .pointer (some ⟨b11, 3, none⟩), fun v _ => v = .pointer (some ⟨b11, 3, none⟩), fun v _ => v = .int .i64 lo, fun v _ => v = .pointer (some ⟨b11, 3, none⟩), fun v _ => v = .pointer (some ⟨b11, 4, none⟩), fun v _ => v = .int .i64 hi, fun v _ => v = .bool true, fun v _ => v = .bool true, fun v _ => v = .bool true, fun v _ => v = .int .i64 dy, fun v _ => v = .int .i64 la, fun v _ => v = .bool true, fun v _ => v = .bool true, fun v _ => v = .bool true, fun v _ => v = .agg #[.int .i64 o, .int .i64 t, .slice A nl c], fun v _ => v = .slice A1 n1 c1, fun v _ => v = .pointer (some ⟨b11, 0, none⟩), fun v _ => v = .int .i64 src, fun v _ => v = .int .i64 sk, fun v _ => v = .pointer (some ⟨b11, 2, none⟩), fun v _ => v = .int .i64 mn, fun v _ => v = .bool (decide (mn ≤ sk)), fun v _ => v = .bool (decide (mn ≤ sk)), fun v _ => v = .bool (decide (mn ≤ sk))]
theorem okMy3_0 {b5 b11 : Nat} {A A1 : Option Addr} {nl c n1 c1 : Nat} {o t la sl dy src mn lo hi sk : Int} {a : Act} {w : World} (t1 : a.eval (.tmp 1) = .slice A1 n1 c1) (t2 : a.eval (.tmp 2) = .int .i64 la) (t3 : a.eval (.tmp 3) = .int .i64 sl) (t4 : a.eval (.tmp 4) = .int .i64 dy) (t5 : a.eval (.tmp 5) = .pointer (some ⟨b5, 0, none⟩)) (t11 : a.eval (.tmp 11) = .pointer (some ⟨b11, 0, none⟩)) (m0 : w.cell? ⟨b11, 0, none⟩ = some (.int .i64 src)) (m2 : w.cell? ⟨b11, 2, none⟩ = some (.int .i64 mn)) (m3 : w.cell? ⟨b11, 3, none⟩ = some (.int .i64 lo)) (m4 : w.cell? ⟨b11, 4, none⟩ = some (.int .i64 hi)) (q0 : w.cell? ⟨b5, 0, none⟩ = some (.int .i64 o)) (q1 : w.cell? ⟨b5, 1, none⟩ = some (.int .i64 t)) (q2 : w.cell? ⟨b5, 2, none⟩ = some (.slice A nl c)) (hh : CV w 40 #[.slice A1 n1 c1, .int .i64 sl] (.bool false)) (hi' : CV w 31 #[.int .i64 dy, .int .i64 lo, .int .i64 hi] (.bool true)) (hl' : la ≤ dy) (hs' : CV w 69 #[.agg #[.int .i64 o, .int .i64 t, .slice A nl c], .slice A1 n1 c1, .int .i64 src] (.int .i64 sk)) : OpOk Try.prog opsMy3 (wordsMy3 b5 b11 A A1 nl c n1 c1 o t la sl dy src mn lo hi sk) 46 a w 0 := by
  refine OpOk.gen rfl (fun a1 w1 H => ?_)
  have e1 : a1.eval (.tmp 1) = .slice A1 n1 c1 := (H.out 1 (by kernel_rfl)).trans t1
  refine gd_none ?_
  exact OpW.move e1 rfl
theorem okMy3_1 {b5 b11 : Nat} {A A1 : Option Addr} {nl c n1 c1 : Nat} {o t la sl dy src mn lo hi sk : Int} {a : Act} {w : World} (t1 : a.eval (.tmp 1) = .slice A1 n1 c1) (t2 : a.eval (.tmp 2) = .int .i64 la) (t3 : a.eval (.tmp 3) = .int .i64 sl) (t4 : a.eval (.tmp 4) = .int .i64 dy) (t5 : a.eval (.tmp 5) = .pointer (some ⟨b5, 0, none⟩)) (t11 : a.eval (.tmp 11) = .pointer (some ⟨b11, 0, none⟩)) (m0 : w.cell? ⟨b11, 0, none⟩ = some (.int .i64 src)) (m2 : w.cell? ⟨b11, 2, none⟩ = some (.int .i64 mn)) (m3 : w.cell? ⟨b11, 3, none⟩ = some (.int .i64 lo)) (m4 : w.cell? ⟨b11, 4, none⟩ = some (.int .i64 hi)) (q0 : w.cell? ⟨b5, 0, none⟩ = some (.int .i64 o)) (q1 : w.cell? ⟨b5, 1, none⟩ = some (.int .i64 t)) (q2 : w.cell? ⟨b5, 2, none⟩ = some (.slice A nl c)) (hh : CV w 40 #[.slice A1 n1 c1, .int .i64 sl] (.bool false)) (hi' : CV w 31 #[.int .i64 dy, .int .i64 lo, .int .i64 hi] (.bool true)) (hl' : la ≤ dy) (hs' : CV w 69 #[.agg #[.int .i64 o, .int .i64 t, .slice A nl c], .slice A1 n1 c1, .int .i64 src] (.int .i64 sk)) : OpOk Try.prog opsMy3 (wordsMy3 b5 b11 A A1 nl c n1 c1 o t la sl dy src mn lo hi sk) 46 a w 1 := by
  refine OpOk.gen rfl (fun a1 w1 H => ?_)
  have e3 : a1.eval (.tmp 3) = .int .i64 sl := (H.out 3 (by kernel_rfl)).trans t3
  refine gd_none ?_
  exact OpW.move e3 rfl
theorem okMy3_2 {b5 b11 : Nat} {A A1 : Option Addr} {nl c n1 c1 : Nat} {o t la sl dy src mn lo hi sk : Int} {a : Act} {w : World} (t1 : a.eval (.tmp 1) = .slice A1 n1 c1) (t2 : a.eval (.tmp 2) = .int .i64 la) (t3 : a.eval (.tmp 3) = .int .i64 sl) (t4 : a.eval (.tmp 4) = .int .i64 dy) (t5 : a.eval (.tmp 5) = .pointer (some ⟨b5, 0, none⟩)) (t11 : a.eval (.tmp 11) = .pointer (some ⟨b11, 0, none⟩)) (m0 : w.cell? ⟨b11, 0, none⟩ = some (.int .i64 src)) (m2 : w.cell? ⟨b11, 2, none⟩ = some (.int .i64 mn)) (m3 : w.cell? ⟨b11, 3, none⟩ = some (.int .i64 lo)) (m4 : w.cell? ⟨b11, 4, none⟩ = some (.int .i64 hi)) (q0 : w.cell? ⟨b5, 0, none⟩ = some (.int .i64 o)) (q1 : w.cell? ⟨b5, 1, none⟩ = some (.int .i64 t)) (q2 : w.cell? ⟨b5, 2, none⟩ = some (.slice A nl c)) (hh : CV w 40 #[.slice A1 n1 c1, .int .i64 sl] (.bool false)) (hi' : CV w 31 #[.int .i64 dy, .int .i64 lo, .int .i64 hi] (.bool true)) (hl' : la ≤ dy) (hs' : CV w 69 #[.agg #[.int .i64 o, .int .i64 t, .slice A nl c], .slice A1 n1 c1, .int .i64 src] (.int .i64 sk)) : OpOk Try.prog opsMy3 (wordsMy3 b5 b11 A A1 nl c n1 c1 o t la sl dy src mn lo hi sk) 46 a w 2 := by
  refine OpOk.gen rfl (fun a1 w1 H => ?_)
  have d0 : a1.eval (.tmp 17) = .slice A1 n1 c1 := H.dep 0 17 rfl (by kernel_rfl)
  have d1 : a1.eval (.tmp 18) = .int .i64 sl := H.dep 1 18 rfl (by kernel_rfl)
  refine gd_none ?_
  exact OpW.call (vs := #[.slice A1 n1 c1, .int .i64 sl]) (enters_of Try.func40 (by kernel_rfl) rfl) (by simp [d0, d1]) (hh w1 H.low)
theorem okMy3_3 {b5 b11 : Nat} {A A1 : Option Addr} {nl c n1 c1 : Nat} {o t la sl dy src mn lo hi sk : Int} {a : Act} {w : World} (t1 : a.eval (.tmp 1) = .slice A1 n1 c1) (t2 : a.eval (.tmp 2) = .int .i64 la) (t3 : a.eval (.tmp 3) = .int .i64 sl) (t4 : a.eval (.tmp 4) = .int .i64 dy) (t5 : a.eval (.tmp 5) = .pointer (some ⟨b5, 0, none⟩)) (t11 : a.eval (.tmp 11) = .pointer (some ⟨b11, 0, none⟩)) (m0 : w.cell? ⟨b11, 0, none⟩ = some (.int .i64 src)) (m2 : w.cell? ⟨b11, 2, none⟩ = some (.int .i64 mn)) (m3 : w.cell? ⟨b11, 3, none⟩ = some (.int .i64 lo)) (m4 : w.cell? ⟨b11, 4, none⟩ = some (.int .i64 hi)) (q0 : w.cell? ⟨b5, 0, none⟩ = some (.int .i64 o)) (q1 : w.cell? ⟨b5, 1, none⟩ = some (.int .i64 t)) (q2 : w.cell? ⟨b5, 2, none⟩ = some (.slice A nl c)) (hh : CV w 40 #[.slice A1 n1 c1, .int .i64 sl] (.bool false)) (hi' : CV w 31 #[.int .i64 dy, .int .i64 lo, .int .i64 hi] (.bool true)) (hl' : la ≤ dy) (hs' : CV w 69 #[.agg #[.int .i64 o, .int .i64 t, .slice A nl c], .slice A1 n1 c1, .int .i64 src] (.int .i64 sk)) : OpOk Try.prog opsMy3 (wordsMy3 b5 b11 A A1 nl c n1 c1 o t la sl dy src mn lo hi sk) 46 a w 3 := by
  refine OpOk.gen rfl (fun a1 w1 H => ?_)
  have d2 : a1.eval (.tmp 19) = .bool false := H.dep 2 19 rfl (by kernel_rfl)
  refine gd_none ?_
  exact OpW.un d2 (not4 _ _) rfl
theorem okMy3_4 {b5 b11 : Nat} {A A1 : Option Addr} {nl c n1 c1 : Nat} {o t la sl dy src mn lo hi sk : Int} {a : Act} {w : World} (t1 : a.eval (.tmp 1) = .slice A1 n1 c1) (t2 : a.eval (.tmp 2) = .int .i64 la) (t3 : a.eval (.tmp 3) = .int .i64 sl) (t4 : a.eval (.tmp 4) = .int .i64 dy) (t5 : a.eval (.tmp 5) = .pointer (some ⟨b5, 0, none⟩)) (t11 : a.eval (.tmp 11) = .pointer (some ⟨b11, 0, none⟩)) (m0 : w.cell? ⟨b11, 0, none⟩ = some (.int .i64 src)) (m2 : w.cell? ⟨b11, 2, none⟩ = some (.int .i64 mn)) (m3 : w.cell? ⟨b11, 3, none⟩ = some (.int .i64 lo)) (m4 : w.cell? ⟨b11, 4, none⟩ = some (.int .i64 hi)) (q0 : w.cell? ⟨b5, 0, none⟩ = some (.int .i64 o)) (q1 : w.cell? ⟨b5, 1, none⟩ = some (.int .i64 t)) (q2 : w.cell? ⟨b5, 2, none⟩ = some (.slice A nl c)) (hh : CV w 40 #[.slice A1 n1 c1, .int .i64 sl] (.bool false)) (hi' : CV w 31 #[.int .i64 dy, .int .i64 lo, .int .i64 hi] (.bool true)) (hl' : la ≤ dy) (hs' : CV w 69 #[.agg #[.int .i64 o, .int .i64 t, .slice A nl c], .slice A1 n1 c1, .int .i64 src] (.int .i64 sk)) : OpOk Try.prog opsMy3 (wordsMy3 b5 b11 A A1 nl c n1 c1 o t la sl dy src mn lo hi sk) 46 a w 4 := by
  refine OpOk.gen rfl (fun a1 w1 H => ?_)
  have d3 : a1.eval (.tmp 20) = .bool true := H.dep 3 20 rfl (by kernel_rfl)
  refine gd_none ?_
  exact OpW.move d3 rfl
theorem okMy3_5 {b5 b11 : Nat} {A A1 : Option Addr} {nl c n1 c1 : Nat} {o t la sl dy src mn lo hi sk : Int} {a : Act} {w : World} (t1 : a.eval (.tmp 1) = .slice A1 n1 c1) (t2 : a.eval (.tmp 2) = .int .i64 la) (t3 : a.eval (.tmp 3) = .int .i64 sl) (t4 : a.eval (.tmp 4) = .int .i64 dy) (t5 : a.eval (.tmp 5) = .pointer (some ⟨b5, 0, none⟩)) (t11 : a.eval (.tmp 11) = .pointer (some ⟨b11, 0, none⟩)) (m0 : w.cell? ⟨b11, 0, none⟩ = some (.int .i64 src)) (m2 : w.cell? ⟨b11, 2, none⟩ = some (.int .i64 mn)) (m3 : w.cell? ⟨b11, 3, none⟩ = some (.int .i64 lo)) (m4 : w.cell? ⟨b11, 4, none⟩ = some (.int .i64 hi)) (q0 : w.cell? ⟨b5, 0, none⟩ = some (.int .i64 o)) (q1 : w.cell? ⟨b5, 1, none⟩ = some (.int .i64 t)) (q2 : w.cell? ⟨b5, 2, none⟩ = some (.slice A nl c)) (hh : CV w 40 #[.slice A1 n1 c1, .int .i64 sl] (.bool false)) (hi' : CV w 31 #[.int .i64 dy, .int .i64 lo, .int .i64 hi] (.bool true)) (hl' : la ≤ dy) (hs' : CV w 69 #[.agg #[.int .i64 o, .int .i64 t, .slice A nl c], .slice A1 n1 c1, .int .i64 src] (.int .i64 sk)) : OpOk Try.prog opsMy3 (wordsMy3 b5 b11 A A1 nl c n1 c1 o t la sl dy src mn lo hi sk) 46 a w 5 := by
  refine OpOk.gen rfl (fun a1 w1 H => ?_)
  have d4 : a1.eval (.tmp 21) = .bool true := H.dep 4 21 rfl (by kernel_rfl)
  have e4 : a1.eval (.tmp 4) = .int .i64 dy := (H.out 4 (by kernel_rfl)).trans t4
  refine gd_true rfl d4 ?_
  exact OpW.move e4 rfl
theorem okMy3_6 {b5 b11 : Nat} {A A1 : Option Addr} {nl c n1 c1 : Nat} {o t la sl dy src mn lo hi sk : Int} {a : Act} {w : World} (t1 : a.eval (.tmp 1) = .slice A1 n1 c1) (t2 : a.eval (.tmp 2) = .int .i64 la) (t3 : a.eval (.tmp 3) = .int .i64 sl) (t4 : a.eval (.tmp 4) = .int .i64 dy) (t5 : a.eval (.tmp 5) = .pointer (some ⟨b5, 0, none⟩)) (t11 : a.eval (.tmp 11) = .pointer (some ⟨b11, 0, none⟩)) (m0 : w.cell? ⟨b11, 0, none⟩ = some (.int .i64 src)) (m2 : w.cell? ⟨b11, 2, none⟩ = some (.int .i64 mn)) (m3 : w.cell? ⟨b11, 3, none⟩ = some (.int .i64 lo)) (m4 : w.cell? ⟨b11, 4, none⟩ = some (.int .i64 hi)) (q0 : w.cell? ⟨b5, 0, none⟩ = some (.int .i64 o)) (q1 : w.cell? ⟨b5, 1, none⟩ = some (.int .i64 t)) (q2 : w.cell? ⟨b5, 2, none⟩ = some (.slice A nl c)) (hh : CV w 40 #[.slice A1 n1 c1, .int .i64 sl] (.bool false)) (hi' : CV w 31 #[.int .i64 dy, .int .i64 lo, .int .i64 hi] (.bool true)) (hl' : la ≤ dy) (hs' : CV w 69 #[.agg #[.int .i64 o, .int .i64 t, .slice A nl c], .slice A1 n1 c1, .int .i64 src] (.int .i64 sk)) : OpOk Try.prog opsMy3 (wordsMy3 b5 b11 A A1 nl c n1 c1 o t la sl dy src mn lo hi sk) 46 a w 6 := by
  refine OpOk.gen rfl (fun a1 w1 H => ?_)
  have d4 : a1.eval (.tmp 21) = .bool true := H.dep 4 21 rfl (by kernel_rfl)
  have e11 : a1.eval (.tmp 11) = .pointer (some ⟨b11, 0, none⟩) := (H.out 11 (by kernel_rfl)).trans t11
  refine gd_true rfl d4 ?_
  exact OpW.field e11 (fa73_3 _) rfl
theorem okMy3_7 {b5 b11 : Nat} {A A1 : Option Addr} {nl c n1 c1 : Nat} {o t la sl dy src mn lo hi sk : Int} {a : Act} {w : World} (t1 : a.eval (.tmp 1) = .slice A1 n1 c1) (t2 : a.eval (.tmp 2) = .int .i64 la) (t3 : a.eval (.tmp 3) = .int .i64 sl) (t4 : a.eval (.tmp 4) = .int .i64 dy) (t5 : a.eval (.tmp 5) = .pointer (some ⟨b5, 0, none⟩)) (t11 : a.eval (.tmp 11) = .pointer (some ⟨b11, 0, none⟩)) (m0 : w.cell? ⟨b11, 0, none⟩ = some (.int .i64 src)) (m2 : w.cell? ⟨b11, 2, none⟩ = some (.int .i64 mn)) (m3 : w.cell? ⟨b11, 3, none⟩ = some (.int .i64 lo)) (m4 : w.cell? ⟨b11, 4, none⟩ = some (.int .i64 hi)) (q0 : w.cell? ⟨b5, 0, none⟩ = some (.int .i64 o)) (q1 : w.cell? ⟨b5, 1, none⟩ = some (.int .i64 t)) (q2 : w.cell? ⟨b5, 2, none⟩ = some (.slice A nl c)) (hh : CV w 40 #[.slice A1 n1 c1, .int .i64 sl] (.bool false)) (hi' : CV w 31 #[.int .i64 dy, .int .i64 lo, .int .i64 hi] (.bool true)) (hl' : la ≤ dy) (hs' : CV w 69 #[.agg #[.int .i64 o, .int .i64 t, .slice A nl c], .slice A1 n1 c1, .int .i64 src] (.int .i64 sk)) : OpOk Try.prog opsMy3 (wordsMy3 b5 b11 A A1 nl c n1 c1 o t la sl dy src mn lo hi sk) 46 a w 7 := by
  refine OpOk.gen rfl (fun a1 w1 H => ?_)
  have d4 : a1.eval (.tmp 21) = .bool true := H.dep 4 21 rfl (by kernel_rfl)
  have d6 : a1.eval (.tmp 23) = .pointer (some ⟨b11, 3, none⟩) := H.dep 6 23 rfl (by kernel_rfl)
  refine gd_true rfl d4 ?_
  exact OpW.field d6 (fa71_0 _) rfl
theorem okMy3_8 {b5 b11 : Nat} {A A1 : Option Addr} {nl c n1 c1 : Nat} {o t la sl dy src mn lo hi sk : Int} {a : Act} {w : World} (t1 : a.eval (.tmp 1) = .slice A1 n1 c1) (t2 : a.eval (.tmp 2) = .int .i64 la) (t3 : a.eval (.tmp 3) = .int .i64 sl) (t4 : a.eval (.tmp 4) = .int .i64 dy) (t5 : a.eval (.tmp 5) = .pointer (some ⟨b5, 0, none⟩)) (t11 : a.eval (.tmp 11) = .pointer (some ⟨b11, 0, none⟩)) (m0 : w.cell? ⟨b11, 0, none⟩ = some (.int .i64 src)) (m2 : w.cell? ⟨b11, 2, none⟩ = some (.int .i64 mn)) (m3 : w.cell? ⟨b11, 3, none⟩ = some (.int .i64 lo)) (m4 : w.cell? ⟨b11, 4, none⟩ = some (.int .i64 hi)) (q0 : w.cell? ⟨b5, 0, none⟩ = some (.int .i64 o)) (q1 : w.cell? ⟨b5, 1, none⟩ = some (.int .i64 t)) (q2 : w.cell? ⟨b5, 2, none⟩ = some (.slice A nl c)) (hh : CV w 40 #[.slice A1 n1 c1, .int .i64 sl] (.bool false)) (hi' : CV w 31 #[.int .i64 dy, .int .i64 lo, .int .i64 hi] (.bool true)) (hl' : la ≤ dy) (hs' : CV w 69 #[.agg #[.int .i64 o, .int .i64 t, .slice A nl c], .slice A1 n1 c1, .int .i64 src] (.int .i64 sk)) : OpOk Try.prog opsMy3 (wordsMy3 b5 b11 A A1 nl c n1 c1 o t la sl dy src mn lo hi sk) 46 a w 8 := by
  refine OpOk.gen rfl (fun a1 w1 H => ?_)
  have d4 : a1.eval (.tmp 21) = .bool true := H.dep 4 21 rfl (by kernel_rfl)
  have d7 : a1.eval (.tmp 24) = .pointer (some ⟨b11, 3, none⟩) := H.dep 7 24 rfl (by kernel_rfl)
  refine gd_true rfl d4 ?_
  exact OpW.load d7 (ld3 (H.cell m3)) rfl
theorem okMy3_9 {b5 b11 : Nat} {A A1 : Option Addr} {nl c n1 c1 : Nat} {o t la sl dy src mn lo hi sk : Int} {a : Act} {w : World} (t1 : a.eval (.tmp 1) = .slice A1 n1 c1) (t2 : a.eval (.tmp 2) = .int .i64 la) (t3 : a.eval (.tmp 3) = .int .i64 sl) (t4 : a.eval (.tmp 4) = .int .i64 dy) (t5 : a.eval (.tmp 5) = .pointer (some ⟨b5, 0, none⟩)) (t11 : a.eval (.tmp 11) = .pointer (some ⟨b11, 0, none⟩)) (m0 : w.cell? ⟨b11, 0, none⟩ = some (.int .i64 src)) (m2 : w.cell? ⟨b11, 2, none⟩ = some (.int .i64 mn)) (m3 : w.cell? ⟨b11, 3, none⟩ = some (.int .i64 lo)) (m4 : w.cell? ⟨b11, 4, none⟩ = some (.int .i64 hi)) (q0 : w.cell? ⟨b5, 0, none⟩ = some (.int .i64 o)) (q1 : w.cell? ⟨b5, 1, none⟩ = some (.int .i64 t)) (q2 : w.cell? ⟨b5, 2, none⟩ = some (.slice A nl c)) (hh : CV w 40 #[.slice A1 n1 c1, .int .i64 sl] (.bool false)) (hi' : CV w 31 #[.int .i64 dy, .int .i64 lo, .int .i64 hi] (.bool true)) (hl' : la ≤ dy) (hs' : CV w 69 #[.agg #[.int .i64 o, .int .i64 t, .slice A nl c], .slice A1 n1 c1, .int .i64 src] (.int .i64 sk)) : OpOk Try.prog opsMy3 (wordsMy3 b5 b11 A A1 nl c n1 c1 o t la sl dy src mn lo hi sk) 46 a w 9 := by
  refine OpOk.gen rfl (fun a1 w1 H => ?_)
  have d4 : a1.eval (.tmp 21) = .bool true := H.dep 4 21 rfl (by kernel_rfl)
  have e11 : a1.eval (.tmp 11) = .pointer (some ⟨b11, 0, none⟩) := (H.out 11 (by kernel_rfl)).trans t11
  refine gd_true rfl d4 ?_
  exact OpW.field e11 (fa73_3 _) rfl
theorem okMy3_10 {b5 b11 : Nat} {A A1 : Option Addr} {nl c n1 c1 : Nat} {o t la sl dy src mn lo hi sk : Int} {a : Act} {w : World} (t1 : a.eval (.tmp 1) = .slice A1 n1 c1) (t2 : a.eval (.tmp 2) = .int .i64 la) (t3 : a.eval (.tmp 3) = .int .i64 sl) (t4 : a.eval (.tmp 4) = .int .i64 dy) (t5 : a.eval (.tmp 5) = .pointer (some ⟨b5, 0, none⟩)) (t11 : a.eval (.tmp 11) = .pointer (some ⟨b11, 0, none⟩)) (m0 : w.cell? ⟨b11, 0, none⟩ = some (.int .i64 src)) (m2 : w.cell? ⟨b11, 2, none⟩ = some (.int .i64 mn)) (m3 : w.cell? ⟨b11, 3, none⟩ = some (.int .i64 lo)) (m4 : w.cell? ⟨b11, 4, none⟩ = some (.int .i64 hi)) (q0 : w.cell? ⟨b5, 0, none⟩ = some (.int .i64 o)) (q1 : w.cell? ⟨b5, 1, none⟩ = some (.int .i64 t)) (q2 : w.cell? ⟨b5, 2, none⟩ = some (.slice A nl c)) (hh : CV w 40 #[.slice A1 n1 c1, .int .i64 sl] (.bool false)) (hi' : CV w 31 #[.int .i64 dy, .int .i64 lo, .int .i64 hi] (.bool true)) (hl' : la ≤ dy) (hs' : CV w 69 #[.agg #[.int .i64 o, .int .i64 t, .slice A nl c], .slice A1 n1 c1, .int .i64 src] (.int .i64 sk)) : OpOk Try.prog opsMy3 (wordsMy3 b5 b11 A A1 nl c n1 c1 o t la sl dy src mn lo hi sk) 46 a w 10 := by
  refine OpOk.gen rfl (fun a1 w1 H => ?_)
  have d4 : a1.eval (.tmp 21) = .bool true := H.dep 4 21 rfl (by kernel_rfl)
  have d9 : a1.eval (.tmp 26) = .pointer (some ⟨b11, 3, none⟩) := H.dep 9 26 rfl (by kernel_rfl)
  refine gd_true rfl d4 ?_
  exact OpW.field d9 (fa71_1 _) rfl
theorem okMy3_11 {b5 b11 : Nat} {A A1 : Option Addr} {nl c n1 c1 : Nat} {o t la sl dy src mn lo hi sk : Int} {a : Act} {w : World} (t1 : a.eval (.tmp 1) = .slice A1 n1 c1) (t2 : a.eval (.tmp 2) = .int .i64 la) (t3 : a.eval (.tmp 3) = .int .i64 sl) (t4 : a.eval (.tmp 4) = .int .i64 dy) (t5 : a.eval (.tmp 5) = .pointer (some ⟨b5, 0, none⟩)) (t11 : a.eval (.tmp 11) = .pointer (some ⟨b11, 0, none⟩)) (m0 : w.cell? ⟨b11, 0, none⟩ = some (.int .i64 src)) (m2 : w.cell? ⟨b11, 2, none⟩ = some (.int .i64 mn)) (m3 : w.cell? ⟨b11, 3, none⟩ = some (.int .i64 lo)) (m4 : w.cell? ⟨b11, 4, none⟩ = some (.int .i64 hi)) (q0 : w.cell? ⟨b5, 0, none⟩ = some (.int .i64 o)) (q1 : w.cell? ⟨b5, 1, none⟩ = some (.int .i64 t)) (q2 : w.cell? ⟨b5, 2, none⟩ = some (.slice A nl c)) (hh : CV w 40 #[.slice A1 n1 c1, .int .i64 sl] (.bool false)) (hi' : CV w 31 #[.int .i64 dy, .int .i64 lo, .int .i64 hi] (.bool true)) (hl' : la ≤ dy) (hs' : CV w 69 #[.agg #[.int .i64 o, .int .i64 t, .slice A nl c], .slice A1 n1 c1, .int .i64 src] (.int .i64 sk)) : OpOk Try.prog opsMy3 (wordsMy3 b5 b11 A A1 nl c n1 c1 o t la sl dy src mn lo hi sk) 46 a w 11 := by
  refine OpOk.gen rfl (fun a1 w1 H => ?_)
  have d4 : a1.eval (.tmp 21) = .bool true := H.dep 4 21 rfl (by kernel_rfl)
  have d10 : a1.eval (.tmp 27) = .pointer (some ⟨b11, 4, none⟩) := H.dep 10 27 rfl (by kernel_rfl)
  refine gd_true rfl d4 ?_
  exact OpW.load d10 (ld3 (H.cell m4)) rfl
theorem okMy3_12 {b5 b11 : Nat} {A A1 : Option Addr} {nl c n1 c1 : Nat} {o t la sl dy src mn lo hi sk : Int} {a : Act} {w : World} (t1 : a.eval (.tmp 1) = .slice A1 n1 c1) (t2 : a.eval (.tmp 2) = .int .i64 la) (t3 : a.eval (.tmp 3) = .int .i64 sl) (t4 : a.eval (.tmp 4) = .int .i64 dy) (t5 : a.eval (.tmp 5) = .pointer (some ⟨b5, 0, none⟩)) (t11 : a.eval (.tmp 11) = .pointer (some ⟨b11, 0, none⟩)) (m0 : w.cell? ⟨b11, 0, none⟩ = some (.int .i64 src)) (m2 : w.cell? ⟨b11, 2, none⟩ = some (.int .i64 mn)) (m3 : w.cell? ⟨b11, 3, none⟩ = some (.int .i64 lo)) (m4 : w.cell? ⟨b11, 4, none⟩ = some (.int .i64 hi)) (q0 : w.cell? ⟨b5, 0, none⟩ = some (.int .i64 o)) (q1 : w.cell? ⟨b5, 1, none⟩ = some (.int .i64 t)) (q2 : w.cell? ⟨b5, 2, none⟩ = some (.slice A nl c)) (hh : CV w 40 #[.slice A1 n1 c1, .int .i64 sl] (.bool false)) (hi' : CV w 31 #[.int .i64 dy, .int .i64 lo, .int .i64 hi] (.bool true)) (hl' : la ≤ dy) (hs' : CV w 69 #[.agg #[.int .i64 o, .int .i64 t, .slice A nl c], .slice A1 n1 c1, .int .i64 src] (.int .i64 sk)) : OpOk Try.prog opsMy3 (wordsMy3 b5 b11 A A1 nl c n1 c1 o t la sl dy src mn lo hi sk) 46 a w 12 := by
  refine OpOk.gen rfl (fun a1 w1 H => ?_)
  have d4 : a1.eval (.tmp 21) = .bool true := H.dep 4 21 rfl (by kernel_rfl)
  have d5 : a1.eval (.tmp 22) = .int .i64 dy := H.dep 5 22 rfl (by kernel_rfl)
  have d8 : a1.eval (.tmp 25) = .int .i64 lo := H.dep 8 25 rfl (by kernel_rfl)
  have d11 : a1.eval (.tmp 28) = .int .i64 hi := H.dep 11 28 rfl (by kernel_rfl)
  refine gd_true rfl d4 ?_
  exact OpW.call (vs := #[.int .i64 dy, .int .i64 lo, .int .i64 hi]) (enters_of Try.func31 (by kernel_rfl) rfl) (by simp [d5, d8, d11]) (hi' w1 H.low)
theorem okMy3_13 {b5 b11 : Nat} {A A1 : Option Addr} {nl c n1 c1 : Nat} {o t la sl dy src mn lo hi sk : Int} {a : Act} {w : World} (t1 : a.eval (.tmp 1) = .slice A1 n1 c1) (t2 : a.eval (.tmp 2) = .int .i64 la) (t3 : a.eval (.tmp 3) = .int .i64 sl) (t4 : a.eval (.tmp 4) = .int .i64 dy) (t5 : a.eval (.tmp 5) = .pointer (some ⟨b5, 0, none⟩)) (t11 : a.eval (.tmp 11) = .pointer (some ⟨b11, 0, none⟩)) (m0 : w.cell? ⟨b11, 0, none⟩ = some (.int .i64 src)) (m2 : w.cell? ⟨b11, 2, none⟩ = some (.int .i64 mn)) (m3 : w.cell? ⟨b11, 3, none⟩ = some (.int .i64 lo)) (m4 : w.cell? ⟨b11, 4, none⟩ = some (.int .i64 hi)) (q0 : w.cell? ⟨b5, 0, none⟩ = some (.int .i64 o)) (q1 : w.cell? ⟨b5, 1, none⟩ = some (.int .i64 t)) (q2 : w.cell? ⟨b5, 2, none⟩ = some (.slice A nl c)) (hh : CV w 40 #[.slice A1 n1 c1, .int .i64 sl] (.bool false)) (hi' : CV w 31 #[.int .i64 dy, .int .i64 lo, .int .i64 hi] (.bool true)) (hl' : la ≤ dy) (hs' : CV w 69 #[.agg #[.int .i64 o, .int .i64 t, .slice A nl c], .slice A1 n1 c1, .int .i64 src] (.int .i64 sk)) : OpOk Try.prog opsMy3 (wordsMy3 b5 b11 A A1 nl c n1 c1 o t la sl dy src mn lo hi sk) 46 a w 13 := by
  refine OpOk.gen rfl (fun a1 w1 H => ?_)
  have d4 : a1.eval (.tmp 21) = .bool true := H.dep 4 21 rfl (by kernel_rfl)
  have d12 : a1.eval (.tmp 29) = .bool true := H.dep 12 29 rfl (by kernel_rfl)
  refine gd_none ?_
  exact OpW.pick (b := true) d4 d12
theorem okMy3_14 {b5 b11 : Nat} {A A1 : Option Addr} {nl c n1 c1 : Nat} {o t la sl dy src mn lo hi sk : Int} {a : Act} {w : World} (t1 : a.eval (.tmp 1) = .slice A1 n1 c1) (t2 : a.eval (.tmp 2) = .int .i64 la) (t3 : a.eval (.tmp 3) = .int .i64 sl) (t4 : a.eval (.tmp 4) = .int .i64 dy) (t5 : a.eval (.tmp 5) = .pointer (some ⟨b5, 0, none⟩)) (t11 : a.eval (.tmp 11) = .pointer (some ⟨b11, 0, none⟩)) (m0 : w.cell? ⟨b11, 0, none⟩ = some (.int .i64 src)) (m2 : w.cell? ⟨b11, 2, none⟩ = some (.int .i64 mn)) (m3 : w.cell? ⟨b11, 3, none⟩ = some (.int .i64 lo)) (m4 : w.cell? ⟨b11, 4, none⟩ = some (.int .i64 hi)) (q0 : w.cell? ⟨b5, 0, none⟩ = some (.int .i64 o)) (q1 : w.cell? ⟨b5, 1, none⟩ = some (.int .i64 t)) (q2 : w.cell? ⟨b5, 2, none⟩ = some (.slice A nl c)) (hh : CV w 40 #[.slice A1 n1 c1, .int .i64 sl] (.bool false)) (hi' : CV w 31 #[.int .i64 dy, .int .i64 lo, .int .i64 hi] (.bool true)) (hl' : la ≤ dy) (hs' : CV w 69 #[.agg #[.int .i64 o, .int .i64 t, .slice A nl c], .slice A1 n1 c1, .int .i64 src] (.int .i64 sk)) : OpOk Try.prog opsMy3 (wordsMy3 b5 b11 A A1 nl c n1 c1 o t la sl dy src mn lo hi sk) 46 a w 14 := by
  refine OpOk.gen rfl (fun a1 w1 H => ?_)
  have d13 : a1.eval (.tmp 30) = .bool true := H.dep 13 30 rfl (by kernel_rfl)
  refine gd_none ?_
  exact OpW.move d13 rfl
theorem okMy3_15 {b5 b11 : Nat} {A A1 : Option Addr} {nl c n1 c1 : Nat} {o t la sl dy src mn lo hi sk : Int} {a : Act} {w : World} (t1 : a.eval (.tmp 1) = .slice A1 n1 c1) (t2 : a.eval (.tmp 2) = .int .i64 la) (t3 : a.eval (.tmp 3) = .int .i64 sl) (t4 : a.eval (.tmp 4) = .int .i64 dy) (t5 : a.eval (.tmp 5) = .pointer (some ⟨b5, 0, none⟩)) (t11 : a.eval (.tmp 11) = .pointer (some ⟨b11, 0, none⟩)) (m0 : w.cell? ⟨b11, 0, none⟩ = some (.int .i64 src)) (m2 : w.cell? ⟨b11, 2, none⟩ = some (.int .i64 mn)) (m3 : w.cell? ⟨b11, 3, none⟩ = some (.int .i64 lo)) (m4 : w.cell? ⟨b11, 4, none⟩ = some (.int .i64 hi)) (q0 : w.cell? ⟨b5, 0, none⟩ = some (.int .i64 o)) (q1 : w.cell? ⟨b5, 1, none⟩ = some (.int .i64 t)) (q2 : w.cell? ⟨b5, 2, none⟩ = some (.slice A nl c)) (hh : CV w 40 #[.slice A1 n1 c1, .int .i64 sl] (.bool false)) (hi' : CV w 31 #[.int .i64 dy, .int .i64 lo, .int .i64 hi] (.bool true)) (hl' : la ≤ dy) (hs' : CV w 69 #[.agg #[.int .i64 o, .int .i64 t, .slice A nl c], .slice A1 n1 c1, .int .i64 src] (.int .i64 sk)) : OpOk Try.prog opsMy3 (wordsMy3 b5 b11 A A1 nl c n1 c1 o t la sl dy src mn lo hi sk) 46 a w 15 := by
  refine OpOk.gen rfl (fun a1 w1 H => ?_)
  have d14 : a1.eval (.tmp 31) = .bool true := H.dep 14 31 rfl (by kernel_rfl)
  have e4 : a1.eval (.tmp 4) = .int .i64 dy := (H.out 4 (by kernel_rfl)).trans t4
  refine gd_true rfl d14 ?_
  exact OpW.move e4 rfl
theorem okMy3_16 {b5 b11 : Nat} {A A1 : Option Addr} {nl c n1 c1 : Nat} {o t la sl dy src mn lo hi sk : Int} {a : Act} {w : World} (t1 : a.eval (.tmp 1) = .slice A1 n1 c1) (t2 : a.eval (.tmp 2) = .int .i64 la) (t3 : a.eval (.tmp 3) = .int .i64 sl) (t4 : a.eval (.tmp 4) = .int .i64 dy) (t5 : a.eval (.tmp 5) = .pointer (some ⟨b5, 0, none⟩)) (t11 : a.eval (.tmp 11) = .pointer (some ⟨b11, 0, none⟩)) (m0 : w.cell? ⟨b11, 0, none⟩ = some (.int .i64 src)) (m2 : w.cell? ⟨b11, 2, none⟩ = some (.int .i64 mn)) (m3 : w.cell? ⟨b11, 3, none⟩ = some (.int .i64 lo)) (m4 : w.cell? ⟨b11, 4, none⟩ = some (.int .i64 hi)) (q0 : w.cell? ⟨b5, 0, none⟩ = some (.int .i64 o)) (q1 : w.cell? ⟨b5, 1, none⟩ = some (.int .i64 t)) (q2 : w.cell? ⟨b5, 2, none⟩ = some (.slice A nl c)) (hh : CV w 40 #[.slice A1 n1 c1, .int .i64 sl] (.bool false)) (hi' : CV w 31 #[.int .i64 dy, .int .i64 lo, .int .i64 hi] (.bool true)) (hl' : la ≤ dy) (hs' : CV w 69 #[.agg #[.int .i64 o, .int .i64 t, .slice A nl c], .slice A1 n1 c1, .int .i64 src] (.int .i64 sk)) : OpOk Try.prog opsMy3 (wordsMy3 b5 b11 A A1 nl c n1 c1 o t la sl dy src mn lo hi sk) 46 a w 16 := by
  refine OpOk.gen rfl (fun a1 w1 H => ?_)
  have d14 : a1.eval (.tmp 31) = .bool true := H.dep 14 31 rfl (by kernel_rfl)
  have e2 : a1.eval (.tmp 2) = .int .i64 la := (H.out 2 (by kernel_rfl)).trans t2
  refine gd_true rfl d14 ?_
  exact OpW.move e2 rfl
theorem okMy3_17 {b5 b11 : Nat} {A A1 : Option Addr} {nl c n1 c1 : Nat} {o t la sl dy src mn lo hi sk : Int} {a : Act} {w : World} (t1 : a.eval (.tmp 1) = .slice A1 n1 c1) (t2 : a.eval (.tmp 2) = .int .i64 la) (t3 : a.eval (.tmp 3) = .int .i64 sl) (t4 : a.eval (.tmp 4) = .int .i64 dy) (t5 : a.eval (.tmp 5) = .pointer (some ⟨b5, 0, none⟩)) (t11 : a.eval (.tmp 11) = .pointer (some ⟨b11, 0, none⟩)) (m0 : w.cell? ⟨b11, 0, none⟩ = some (.int .i64 src)) (m2 : w.cell? ⟨b11, 2, none⟩ = some (.int .i64 mn)) (m3 : w.cell? ⟨b11, 3, none⟩ = some (.int .i64 lo)) (m4 : w.cell? ⟨b11, 4, none⟩ = some (.int .i64 hi)) (q0 : w.cell? ⟨b5, 0, none⟩ = some (.int .i64 o)) (q1 : w.cell? ⟨b5, 1, none⟩ = some (.int .i64 t)) (q2 : w.cell? ⟨b5, 2, none⟩ = some (.slice A nl c)) (hh : CV w 40 #[.slice A1 n1 c1, .int .i64 sl] (.bool false)) (hi' : CV w 31 #[.int .i64 dy, .int .i64 lo, .int .i64 hi] (.bool true)) (hl' : la ≤ dy) (hs' : CV w 69 #[.agg #[.int .i64 o, .int .i64 t, .slice A nl c], .slice A1 n1 c1, .int .i64 src] (.int .i64 sk)) : OpOk Try.prog opsMy3 (wordsMy3 b5 b11 A A1 nl c n1 c1 o t la sl dy src mn lo hi sk) 46 a w 17 := by
  refine OpOk.gen rfl (fun a1 w1 H => ?_)
  have d14 : a1.eval (.tmp 31) = .bool true := H.dep 14 31 rfl (by kernel_rfl)
  have d15 : a1.eval (.tmp 32) = .int .i64 dy := H.dep 15 32 rfl (by kernel_rfl)
  have d16 : a1.eval (.tmp 33) = .int .i64 la := H.dep 16 33 rfl (by kernel_rfl)
  refine gd_true rfl d14 ?_
  exact OpW.bin d15 d16 (geqT hl' _) rfl
theorem okMy3_18 {b5 b11 : Nat} {A A1 : Option Addr} {nl c n1 c1 : Nat} {o t la sl dy src mn lo hi sk : Int} {a : Act} {w : World} (t1 : a.eval (.tmp 1) = .slice A1 n1 c1) (t2 : a.eval (.tmp 2) = .int .i64 la) (t3 : a.eval (.tmp 3) = .int .i64 sl) (t4 : a.eval (.tmp 4) = .int .i64 dy) (t5 : a.eval (.tmp 5) = .pointer (some ⟨b5, 0, none⟩)) (t11 : a.eval (.tmp 11) = .pointer (some ⟨b11, 0, none⟩)) (m0 : w.cell? ⟨b11, 0, none⟩ = some (.int .i64 src)) (m2 : w.cell? ⟨b11, 2, none⟩ = some (.int .i64 mn)) (m3 : w.cell? ⟨b11, 3, none⟩ = some (.int .i64 lo)) (m4 : w.cell? ⟨b11, 4, none⟩ = some (.int .i64 hi)) (q0 : w.cell? ⟨b5, 0, none⟩ = some (.int .i64 o)) (q1 : w.cell? ⟨b5, 1, none⟩ = some (.int .i64 t)) (q2 : w.cell? ⟨b5, 2, none⟩ = some (.slice A nl c)) (hh : CV w 40 #[.slice A1 n1 c1, .int .i64 sl] (.bool false)) (hi' : CV w 31 #[.int .i64 dy, .int .i64 lo, .int .i64 hi] (.bool true)) (hl' : la ≤ dy) (hs' : CV w 69 #[.agg #[.int .i64 o, .int .i64 t, .slice A nl c], .slice A1 n1 c1, .int .i64 src] (.int .i64 sk)) : OpOk Try.prog opsMy3 (wordsMy3 b5 b11 A A1 nl c n1 c1 o t la sl dy src mn lo hi sk) 46 a w 18 := by
  refine OpOk.gen rfl (fun a1 w1 H => ?_)
  have d14 : a1.eval (.tmp 31) = .bool true := H.dep 14 31 rfl (by kernel_rfl)
  have d17 : a1.eval (.tmp 34) = .bool true := H.dep 17 34 rfl (by kernel_rfl)
  refine gd_none ?_
  exact OpW.pick (b := true) d14 d17
theorem okMy3_19 {b5 b11 : Nat} {A A1 : Option Addr} {nl c n1 c1 : Nat} {o t la sl dy src mn lo hi sk : Int} {a : Act} {w : World} (t1 : a.eval (.tmp 1) = .slice A1 n1 c1) (t2 : a.eval (.tmp 2) = .int .i64 la) (t3 : a.eval (.tmp 3) = .int .i64 sl) (t4 : a.eval (.tmp 4) = .int .i64 dy) (t5 : a.eval (.tmp 5) = .pointer (some ⟨b5, 0, none⟩)) (t11 : a.eval (.tmp 11) = .pointer (some ⟨b11, 0, none⟩)) (m0 : w.cell? ⟨b11, 0, none⟩ = some (.int .i64 src)) (m2 : w.cell? ⟨b11, 2, none⟩ = some (.int .i64 mn)) (m3 : w.cell? ⟨b11, 3, none⟩ = some (.int .i64 lo)) (m4 : w.cell? ⟨b11, 4, none⟩ = some (.int .i64 hi)) (q0 : w.cell? ⟨b5, 0, none⟩ = some (.int .i64 o)) (q1 : w.cell? ⟨b5, 1, none⟩ = some (.int .i64 t)) (q2 : w.cell? ⟨b5, 2, none⟩ = some (.slice A nl c)) (hh : CV w 40 #[.slice A1 n1 c1, .int .i64 sl] (.bool false)) (hi' : CV w 31 #[.int .i64 dy, .int .i64 lo, .int .i64 hi] (.bool true)) (hl' : la ≤ dy) (hs' : CV w 69 #[.agg #[.int .i64 o, .int .i64 t, .slice A nl c], .slice A1 n1 c1, .int .i64 src] (.int .i64 sk)) : OpOk Try.prog opsMy3 (wordsMy3 b5 b11 A A1 nl c n1 c1 o t la sl dy src mn lo hi sk) 46 a w 19 := by
  refine OpOk.gen rfl (fun a1 w1 H => ?_)
  have d18 : a1.eval (.tmp 35) = .bool true := H.dep 18 35 rfl (by kernel_rfl)
  refine gd_none ?_
  exact OpW.move d18 rfl
theorem okMy3_20 {b5 b11 : Nat} {A A1 : Option Addr} {nl c n1 c1 : Nat} {o t la sl dy src mn lo hi sk : Int} {a : Act} {w : World} (t1 : a.eval (.tmp 1) = .slice A1 n1 c1) (t2 : a.eval (.tmp 2) = .int .i64 la) (t3 : a.eval (.tmp 3) = .int .i64 sl) (t4 : a.eval (.tmp 4) = .int .i64 dy) (t5 : a.eval (.tmp 5) = .pointer (some ⟨b5, 0, none⟩)) (t11 : a.eval (.tmp 11) = .pointer (some ⟨b11, 0, none⟩)) (m0 : w.cell? ⟨b11, 0, none⟩ = some (.int .i64 src)) (m2 : w.cell? ⟨b11, 2, none⟩ = some (.int .i64 mn)) (m3 : w.cell? ⟨b11, 3, none⟩ = some (.int .i64 lo)) (m4 : w.cell? ⟨b11, 4, none⟩ = some (.int .i64 hi)) (q0 : w.cell? ⟨b5, 0, none⟩ = some (.int .i64 o)) (q1 : w.cell? ⟨b5, 1, none⟩ = some (.int .i64 t)) (q2 : w.cell? ⟨b5, 2, none⟩ = some (.slice A nl c)) (hh : CV w 40 #[.slice A1 n1 c1, .int .i64 sl] (.bool false)) (hi' : CV w 31 #[.int .i64 dy, .int .i64 lo, .int .i64 hi] (.bool true)) (hl' : la ≤ dy) (hs' : CV w 69 #[.agg #[.int .i64 o, .int .i64 t, .slice A nl c], .slice A1 n1 c1, .int .i64 src] (.int .i64 sk)) : OpOk Try.prog opsMy3 (wordsMy3 b5 b11 A A1 nl c n1 c1 o t la sl dy src mn lo hi sk) 46 a w 20 := by
  refine OpOk.gen rfl (fun a1 w1 H => ?_)
  have d19 : a1.eval (.tmp 36) = .bool true := H.dep 19 36 rfl (by kernel_rfl)
  have e5 : a1.eval (.tmp 5) = .pointer (some ⟨b5, 0, none⟩) := (H.out 5 (by kernel_rfl)).trans t5
  refine gd_true rfl d19 ?_
  exact OpW.load e5 (ld24 ⟨H.cell q0, H.cell q1, H.cell q2⟩) rfl
theorem okMy3_21 {b5 b11 : Nat} {A A1 : Option Addr} {nl c n1 c1 : Nat} {o t la sl dy src mn lo hi sk : Int} {a : Act} {w : World} (t1 : a.eval (.tmp 1) = .slice A1 n1 c1) (t2 : a.eval (.tmp 2) = .int .i64 la) (t3 : a.eval (.tmp 3) = .int .i64 sl) (t4 : a.eval (.tmp 4) = .int .i64 dy) (t5 : a.eval (.tmp 5) = .pointer (some ⟨b5, 0, none⟩)) (t11 : a.eval (.tmp 11) = .pointer (some ⟨b11, 0, none⟩)) (m0 : w.cell? ⟨b11, 0, none⟩ = some (.int .i64 src)) (m2 : w.cell? ⟨b11, 2, none⟩ = some (.int .i64 mn)) (m3 : w.cell? ⟨b11, 3, none⟩ = some (.int .i64 lo)) (m4 : w.cell? ⟨b11, 4, none⟩ = some (.int .i64 hi)) (q0 : w.cell? ⟨b5, 0, none⟩ = some (.int .i64 o)) (q1 : w.cell? ⟨b5, 1, none⟩ = some (.int .i64 t)) (q2 : w.cell? ⟨b5, 2, none⟩ = some (.slice A nl c)) (hh : CV w 40 #[.slice A1 n1 c1, .int .i64 sl] (.bool false)) (hi' : CV w 31 #[.int .i64 dy, .int .i64 lo, .int .i64 hi] (.bool true)) (hl' : la ≤ dy) (hs' : CV w 69 #[.agg #[.int .i64 o, .int .i64 t, .slice A nl c], .slice A1 n1 c1, .int .i64 src] (.int .i64 sk)) : OpOk Try.prog opsMy3 (wordsMy3 b5 b11 A A1 nl c n1 c1 o t la sl dy src mn lo hi sk) 46 a w 21 := by
  refine OpOk.gen rfl (fun a1 w1 H => ?_)
  have d19 : a1.eval (.tmp 36) = .bool true := H.dep 19 36 rfl (by kernel_rfl)
  have e1 : a1.eval (.tmp 1) = .slice A1 n1 c1 := (H.out 1 (by kernel_rfl)).trans t1
  refine gd_true rfl d19 ?_
  exact OpW.move e1 rfl
theorem okMy3_22 {b5 b11 : Nat} {A A1 : Option Addr} {nl c n1 c1 : Nat} {o t la sl dy src mn lo hi sk : Int} {a : Act} {w : World} (t1 : a.eval (.tmp 1) = .slice A1 n1 c1) (t2 : a.eval (.tmp 2) = .int .i64 la) (t3 : a.eval (.tmp 3) = .int .i64 sl) (t4 : a.eval (.tmp 4) = .int .i64 dy) (t5 : a.eval (.tmp 5) = .pointer (some ⟨b5, 0, none⟩)) (t11 : a.eval (.tmp 11) = .pointer (some ⟨b11, 0, none⟩)) (m0 : w.cell? ⟨b11, 0, none⟩ = some (.int .i64 src)) (m2 : w.cell? ⟨b11, 2, none⟩ = some (.int .i64 mn)) (m3 : w.cell? ⟨b11, 3, none⟩ = some (.int .i64 lo)) (m4 : w.cell? ⟨b11, 4, none⟩ = some (.int .i64 hi)) (q0 : w.cell? ⟨b5, 0, none⟩ = some (.int .i64 o)) (q1 : w.cell? ⟨b5, 1, none⟩ = some (.int .i64 t)) (q2 : w.cell? ⟨b5, 2, none⟩ = some (.slice A nl c)) (hh : CV w 40 #[.slice A1 n1 c1, .int .i64 sl] (.bool false)) (hi' : CV w 31 #[.int .i64 dy, .int .i64 lo, .int .i64 hi] (.bool true)) (hl' : la ≤ dy) (hs' : CV w 69 #[.agg #[.int .i64 o, .int .i64 t, .slice A nl c], .slice A1 n1 c1, .int .i64 src] (.int .i64 sk)) : OpOk Try.prog opsMy3 (wordsMy3 b5 b11 A A1 nl c n1 c1 o t la sl dy src mn lo hi sk) 46 a w 22 := by
  refine OpOk.gen rfl (fun a1 w1 H => ?_)
  have d19 : a1.eval (.tmp 36) = .bool true := H.dep 19 36 rfl (by kernel_rfl)
  have e11 : a1.eval (.tmp 11) = .pointer (some ⟨b11, 0, none⟩) := (H.out 11 (by kernel_rfl)).trans t11
  refine gd_true rfl d19 ?_
  exact OpW.field e11 (fa73_0 _) rfl
theorem okMy3_23 {b5 b11 : Nat} {A A1 : Option Addr} {nl c n1 c1 : Nat} {o t la sl dy src mn lo hi sk : Int} {a : Act} {w : World} (t1 : a.eval (.tmp 1) = .slice A1 n1 c1) (t2 : a.eval (.tmp 2) = .int .i64 la) (t3 : a.eval (.tmp 3) = .int .i64 sl) (t4 : a.eval (.tmp 4) = .int .i64 dy) (t5 : a.eval (.tmp 5) = .pointer (some ⟨b5, 0, none⟩)) (t11 : a.eval (.tmp 11) = .pointer (some ⟨b11, 0, none⟩)) (m0 : w.cell? ⟨b11, 0, none⟩ = some (.int .i64 src)) (m2 : w.cell? ⟨b11, 2, none⟩ = some (.int .i64 mn)) (m3 : w.cell? ⟨b11, 3, none⟩ = some (.int .i64 lo)) (m4 : w.cell? ⟨b11, 4, none⟩ = some (.int .i64 hi)) (q0 : w.cell? ⟨b5, 0, none⟩ = some (.int .i64 o)) (q1 : w.cell? ⟨b5, 1, none⟩ = some (.int .i64 t)) (q2 : w.cell? ⟨b5, 2, none⟩ = some (.slice A nl c)) (hh : CV w 40 #[.slice A1 n1 c1, .int .i64 sl] (.bool false)) (hi' : CV w 31 #[.int .i64 dy, .int .i64 lo, .int .i64 hi] (.bool true)) (hl' : la ≤ dy) (hs' : CV w 69 #[.agg #[.int .i64 o, .int .i64 t, .slice A nl c], .slice A1 n1 c1, .int .i64 src] (.int .i64 sk)) : OpOk Try.prog opsMy3 (wordsMy3 b5 b11 A A1 nl c n1 c1 o t la sl dy src mn lo hi sk) 46 a w 23 := by
  refine OpOk.gen rfl (fun a1 w1 H => ?_)
  have d19 : a1.eval (.tmp 36) = .bool true := H.dep 19 36 rfl (by kernel_rfl)
  have d22 : a1.eval (.tmp 39) = .pointer (some ⟨b11, 0, none⟩) := H.dep 22 39 rfl (by kernel_rfl)
  refine gd_true rfl d19 ?_
  exact OpW.load d22 (ld3 (H.cell m0)) rfl
theorem okMy3_24 {b5 b11 : Nat} {A A1 : Option Addr} {nl c n1 c1 : Nat} {o t la sl dy src mn lo hi sk : Int} {a : Act} {w : World} (t1 : a.eval (.tmp 1) = .slice A1 n1 c1) (t2 : a.eval (.tmp 2) = .int .i64 la) (t3 : a.eval (.tmp 3) = .int .i64 sl) (t4 : a.eval (.tmp 4) = .int .i64 dy) (t5 : a.eval (.tmp 5) = .pointer (some ⟨b5, 0, none⟩)) (t11 : a.eval (.tmp 11) = .pointer (some ⟨b11, 0, none⟩)) (m0 : w.cell? ⟨b11, 0, none⟩ = some (.int .i64 src)) (m2 : w.cell? ⟨b11, 2, none⟩ = some (.int .i64 mn)) (m3 : w.cell? ⟨b11, 3, none⟩ = some (.int .i64 lo)) (m4 : w.cell? ⟨b11, 4, none⟩ = some (.int .i64 hi)) (q0 : w.cell? ⟨b5, 0, none⟩ = some (.int .i64 o)) (q1 : w.cell? ⟨b5, 1, none⟩ = some (.int .i64 t)) (q2 : w.cell? ⟨b5, 2, none⟩ = some (.slice A nl c)) (hh : CV w 40 #[.slice A1 n1 c1, .int .i64 sl] (.bool false)) (hi' : CV w 31 #[.int .i64 dy, .int .i64 lo, .int .i64 hi] (.bool true)) (hl' : la ≤ dy) (hs' : CV w 69 #[.agg #[.int .i64 o, .int .i64 t, .slice A nl c], .slice A1 n1 c1, .int .i64 src] (.int .i64 sk)) : OpOk Try.prog opsMy3 (wordsMy3 b5 b11 A A1 nl c n1 c1 o t la sl dy src mn lo hi sk) 46 a w 24 := by
  refine OpOk.gen rfl (fun a1 w1 H => ?_)
  have d19 : a1.eval (.tmp 36) = .bool true := H.dep 19 36 rfl (by kernel_rfl)
  have d20 : a1.eval (.tmp 37) = .agg #[.int .i64 o, .int .i64 t, .slice A nl c] := H.dep 20 37 rfl (by kernel_rfl)
  have d21 : a1.eval (.tmp 38) = .slice A1 n1 c1 := H.dep 21 38 rfl (by kernel_rfl)
  have d23 : a1.eval (.tmp 40) = .int .i64 src := H.dep 23 40 rfl (by kernel_rfl)
  refine gd_true rfl d19 ?_
  exact OpW.call (vs := #[.agg #[.int .i64 o, .int .i64 t, .slice A nl c], .slice A1 n1 c1, .int .i64 src]) (enters_of Try.func69 (by kernel_rfl) rfl) (by simp [d20, d21, d23]) (hs' w1 H.low)
theorem okMy3_25 {b5 b11 : Nat} {A A1 : Option Addr} {nl c n1 c1 : Nat} {o t la sl dy src mn lo hi sk : Int} {a : Act} {w : World} (t1 : a.eval (.tmp 1) = .slice A1 n1 c1) (t2 : a.eval (.tmp 2) = .int .i64 la) (t3 : a.eval (.tmp 3) = .int .i64 sl) (t4 : a.eval (.tmp 4) = .int .i64 dy) (t5 : a.eval (.tmp 5) = .pointer (some ⟨b5, 0, none⟩)) (t11 : a.eval (.tmp 11) = .pointer (some ⟨b11, 0, none⟩)) (m0 : w.cell? ⟨b11, 0, none⟩ = some (.int .i64 src)) (m2 : w.cell? ⟨b11, 2, none⟩ = some (.int .i64 mn)) (m3 : w.cell? ⟨b11, 3, none⟩ = some (.int .i64 lo)) (m4 : w.cell? ⟨b11, 4, none⟩ = some (.int .i64 hi)) (q0 : w.cell? ⟨b5, 0, none⟩ = some (.int .i64 o)) (q1 : w.cell? ⟨b5, 1, none⟩ = some (.int .i64 t)) (q2 : w.cell? ⟨b5, 2, none⟩ = some (.slice A nl c)) (hh : CV w 40 #[.slice A1 n1 c1, .int .i64 sl] (.bool false)) (hi' : CV w 31 #[.int .i64 dy, .int .i64 lo, .int .i64 hi] (.bool true)) (hl' : la ≤ dy) (hs' : CV w 69 #[.agg #[.int .i64 o, .int .i64 t, .slice A nl c], .slice A1 n1 c1, .int .i64 src] (.int .i64 sk)) : OpOk Try.prog opsMy3 (wordsMy3 b5 b11 A A1 nl c n1 c1 o t la sl dy src mn lo hi sk) 46 a w 25 := by
  refine OpOk.gen rfl (fun a1 w1 H => ?_)
  have d19 : a1.eval (.tmp 36) = .bool true := H.dep 19 36 rfl (by kernel_rfl)
  have e11 : a1.eval (.tmp 11) = .pointer (some ⟨b11, 0, none⟩) := (H.out 11 (by kernel_rfl)).trans t11
  refine gd_true rfl d19 ?_
  exact OpW.field e11 (fa73_2 _) rfl
theorem okMy3_26 {b5 b11 : Nat} {A A1 : Option Addr} {nl c n1 c1 : Nat} {o t la sl dy src mn lo hi sk : Int} {a : Act} {w : World} (t1 : a.eval (.tmp 1) = .slice A1 n1 c1) (t2 : a.eval (.tmp 2) = .int .i64 la) (t3 : a.eval (.tmp 3) = .int .i64 sl) (t4 : a.eval (.tmp 4) = .int .i64 dy) (t5 : a.eval (.tmp 5) = .pointer (some ⟨b5, 0, none⟩)) (t11 : a.eval (.tmp 11) = .pointer (some ⟨b11, 0, none⟩)) (m0 : w.cell? ⟨b11, 0, none⟩ = some (.int .i64 src)) (m2 : w.cell? ⟨b11, 2, none⟩ = some (.int .i64 mn)) (m3 : w.cell? ⟨b11, 3, none⟩ = some (.int .i64 lo)) (m4 : w.cell? ⟨b11, 4, none⟩ = some (.int .i64 hi)) (q0 : w.cell? ⟨b5, 0, none⟩ = some (.int .i64 o)) (q1 : w.cell? ⟨b5, 1, none⟩ = some (.int .i64 t)) (q2 : w.cell? ⟨b5, 2, none⟩ = some (.slice A nl c)) (hh : CV w 40 #[.slice A1 n1 c1, .int .i64 sl] (.bool false)) (hi' : CV w 31 #[.int .i64 dy, .int .i64 lo, .int .i64 hi] (.bool true)) (hl' : la ≤ dy) (hs' : CV w 69 #[.agg #[.int .i64 o, .int .i64 t, .slice A nl c], .slice A1 n1 c1, .int .i64 src] (.int .i64 sk)) : OpOk Try.prog opsMy3 (wordsMy3 b5 b11 A A1 nl c n1 c1 o t la sl dy src mn lo hi sk) 46 a w 26 := by
  refine OpOk.gen rfl (fun a1 w1 H => ?_)
  have d19 : a1.eval (.tmp 36) = .bool true := H.dep 19 36 rfl (by kernel_rfl)
  have d25 : a1.eval (.tmp 42) = .pointer (some ⟨b11, 2, none⟩) := H.dep 25 42 rfl (by kernel_rfl)
  refine gd_true rfl d19 ?_
  exact OpW.load d25 (ld3 (H.cell m2)) rfl
theorem okMy3_27 {b5 b11 : Nat} {A A1 : Option Addr} {nl c n1 c1 : Nat} {o t la sl dy src mn lo hi sk : Int} {a : Act} {w : World} (t1 : a.eval (.tmp 1) = .slice A1 n1 c1) (t2 : a.eval (.tmp 2) = .int .i64 la) (t3 : a.eval (.tmp 3) = .int .i64 sl) (t4 : a.eval (.tmp 4) = .int .i64 dy) (t5 : a.eval (.tmp 5) = .pointer (some ⟨b5, 0, none⟩)) (t11 : a.eval (.tmp 11) = .pointer (some ⟨b11, 0, none⟩)) (m0 : w.cell? ⟨b11, 0, none⟩ = some (.int .i64 src)) (m2 : w.cell? ⟨b11, 2, none⟩ = some (.int .i64 mn)) (m3 : w.cell? ⟨b11, 3, none⟩ = some (.int .i64 lo)) (m4 : w.cell? ⟨b11, 4, none⟩ = some (.int .i64 hi)) (q0 : w.cell? ⟨b5, 0, none⟩ = some (.int .i64 o)) (q1 : w.cell? ⟨b5, 1, none⟩ = some (.int .i64 t)) (q2 : w.cell? ⟨b5, 2, none⟩ = some (.slice A nl c)) (hh : CV w 40 #[.slice A1 n1 c1, .int .i64 sl] (.bool false)) (hi' : CV w 31 #[.int .i64 dy, .int .i64 lo, .int .i64 hi] (.bool true)) (hl' : la ≤ dy) (hs' : CV w 69 #[.agg #[.int .i64 o, .int .i64 t, .slice A nl c], .slice A1 n1 c1, .int .i64 src] (.int .i64 sk)) : OpOk Try.prog opsMy3 (wordsMy3 b5 b11 A A1 nl c n1 c1 o t la sl dy src mn lo hi sk) 46 a w 27 := by
  refine OpOk.gen rfl (fun a1 w1 H => ?_)
  have d19 : a1.eval (.tmp 36) = .bool true := H.dep 19 36 rfl (by kernel_rfl)
  have d24 : a1.eval (.tmp 41) = .int .i64 sk := H.dep 24 41 rfl (by kernel_rfl)
  have d26 : a1.eval (.tmp 43) = .int .i64 mn := H.dep 26 43 rfl (by kernel_rfl)
  refine gd_true rfl d19 ?_
  exact OpW.bin d24 d26 (geq3 _) rfl
theorem okMy3_28 {b5 b11 : Nat} {A A1 : Option Addr} {nl c n1 c1 : Nat} {o t la sl dy src mn lo hi sk : Int} {a : Act} {w : World} (t1 : a.eval (.tmp 1) = .slice A1 n1 c1) (t2 : a.eval (.tmp 2) = .int .i64 la) (t3 : a.eval (.tmp 3) = .int .i64 sl) (t4 : a.eval (.tmp 4) = .int .i64 dy) (t5 : a.eval (.tmp 5) = .pointer (some ⟨b5, 0, none⟩)) (t11 : a.eval (.tmp 11) = .pointer (some ⟨b11, 0, none⟩)) (m0 : w.cell? ⟨b11, 0, none⟩ = some (.int .i64 src)) (m2 : w.cell? ⟨b11, 2, none⟩ = some (.int .i64 mn)) (m3 : w.cell? ⟨b11, 3, none⟩ = some (.int .i64 lo)) (m4 : w.cell? ⟨b11, 4, none⟩ = some (.int .i64 hi)) (q0 : w.cell? ⟨b5, 0, none⟩ = some (.int .i64 o)) (q1 : w.cell? ⟨b5, 1, none⟩ = some (.int .i64 t)) (q2 : w.cell? ⟨b5, 2, none⟩ = some (.slice A nl c)) (hh : CV w 40 #[.slice A1 n1 c1, .int .i64 sl] (.bool false)) (hi' : CV w 31 #[.int .i64 dy, .int .i64 lo, .int .i64 hi] (.bool true)) (hl' : la ≤ dy) (hs' : CV w 69 #[.agg #[.int .i64 o, .int .i64 t, .slice A nl c], .slice A1 n1 c1, .int .i64 src] (.int .i64 sk)) : OpOk Try.prog opsMy3 (wordsMy3 b5 b11 A A1 nl c n1 c1 o t la sl dy src mn lo hi sk) 46 a w 28 := by
  refine OpOk.gen rfl (fun a1 w1 H => ?_)
  have d19 : a1.eval (.tmp 36) = .bool true := H.dep 19 36 rfl (by kernel_rfl)
  have d27 : a1.eval (.tmp 44) = .bool (decide (mn ≤ sk)) := H.dep 27 44 rfl (by kernel_rfl)
  refine gd_none ?_
  exact OpW.pick (b := true) d19 d27
theorem okMy3_29 {b5 b11 : Nat} {A A1 : Option Addr} {nl c n1 c1 : Nat} {o t la sl dy src mn lo hi sk : Int} {a : Act} {w : World} (t1 : a.eval (.tmp 1) = .slice A1 n1 c1) (t2 : a.eval (.tmp 2) = .int .i64 la) (t3 : a.eval (.tmp 3) = .int .i64 sl) (t4 : a.eval (.tmp 4) = .int .i64 dy) (t5 : a.eval (.tmp 5) = .pointer (some ⟨b5, 0, none⟩)) (t11 : a.eval (.tmp 11) = .pointer (some ⟨b11, 0, none⟩)) (m0 : w.cell? ⟨b11, 0, none⟩ = some (.int .i64 src)) (m2 : w.cell? ⟨b11, 2, none⟩ = some (.int .i64 mn)) (m3 : w.cell? ⟨b11, 3, none⟩ = some (.int .i64 lo)) (m4 : w.cell? ⟨b11, 4, none⟩ = some (.int .i64 hi)) (q0 : w.cell? ⟨b5, 0, none⟩ = some (.int .i64 o)) (q1 : w.cell? ⟨b5, 1, none⟩ = some (.int .i64 t)) (q2 : w.cell? ⟨b5, 2, none⟩ = some (.slice A nl c)) (hh : CV w 40 #[.slice A1 n1 c1, .int .i64 sl] (.bool false)) (hi' : CV w 31 #[.int .i64 dy, .int .i64 lo, .int .i64 hi] (.bool true)) (hl' : la ≤ dy) (hs' : CV w 69 #[.agg #[.int .i64 o, .int .i64 t, .slice A nl c], .slice A1 n1 c1, .int .i64 src] (.int .i64 sk)) : OpOk Try.prog opsMy3 (wordsMy3 b5 b11 A A1 nl c n1 c1 o t la sl dy src mn lo hi sk) 46 a w 29 := by
  refine OpOk.gen rfl (fun a1 w1 H => ?_)
  have d28 : a1.eval (.tmp 45) = .bool (decide (mn ≤ sk)) := H.dep 28 45 rfl (by kernel_rfl)
  refine gd_none ?_
  exact OpW.assign d28 rfl
theorem regionMy3 {F : Fence} {n : Nat} (hF : WideF F Try.prog) {Q : Exit → Act → World → Prop} {b5 b11 : Nat} {A A1 : Option Addr} {nl c n1 c1 : Nat} {o t la sl dy src mn lo hi sk : Int} {a : Act} {w : World} (hsz : a.tmps.size = 46)
    (t1 : a.eval (.tmp 1) = .slice A1 n1 c1) (t2 : a.eval (.tmp 2) = .int .i64 la) (t3 : a.eval (.tmp 3) = .int .i64 sl) (t4 : a.eval (.tmp 4) = .int .i64 dy) (t5 : a.eval (.tmp 5) = .pointer (some ⟨b5, 0, none⟩)) (t11 : a.eval (.tmp 11) = .pointer (some ⟨b11, 0, none⟩)) (m0 : w.cell? ⟨b11, 0, none⟩ = some (.int .i64 src)) (m2 : w.cell? ⟨b11, 2, none⟩ = some (.int .i64 mn)) (m3 : w.cell? ⟨b11, 3, none⟩ = some (.int .i64 lo)) (m4 : w.cell? ⟨b11, 4, none⟩ = some (.int .i64 hi)) (q0 : w.cell? ⟨b5, 0, none⟩ = some (.int .i64 o)) (q1 : w.cell? ⟨b5, 1, none⟩ = some (.int .i64 t)) (q2 : w.cell? ⟨b5, 2, none⟩ = some (.slice A nl c)) (hh : CV w 40 #[.slice A1 n1 c1, .int .i64 sl] (.bool false)) (hi' : CV w 31 #[.int .i64 dy, .int .i64 lo, .int .i64 hi] (.bool true)) (hl' : la ≤ dy) (hs' : CV w 69 #[.agg #[.int .i64 o, .int .i64 t, .slice A nl c], .slice A1 n1 c1, .int .i64 src] (.int .i64 sk))
    (hK : ∀ (a' : Act) (w' : World), a'.tmps.size = 46 → a'.defers = a.defers → Below w.heap.size w w' → (∀ e, ndstB opsMy3 e = true → a'.eval (.tmp e) = a.eval (.tmp e)) → (∀ (j d : Nat), (opsMy3[j]?).bind (·.dst) = some d → (wordsMy3 b5 b11 A A1 nl c n1 c1 o t la sl dy src mn lo hi sk).at_ j (a'.eval (.tmp d)) w') → Q .normal a' w') :
    (Code.region 2 opsMy3 true).wpIn F n Try.prog Q a w := by
  refine region_S (wordsMy3 b5 b11 A A1 nl c n1 c1 o t la sl dy src mn lo hi sk) 46 hF (by kernel_rfl) Try.mixed (by kernel_rfl) (by kernel_rfl) ?_ hsz 30 (by kernel_rfl) ?_ hK
  · exact ⟨(fun _ _ _ h _ => h), (fun _ _ _ h _ => h), (fun _ _ _ h _ => h), (fun _ _ _ h _ => h), (fun _ _ _ h _ => h), (fun _ _ _ h _ => h), (fun _ _ _ h _ => h), (fun _ _ _ h _ => h), (fun _ _ _ h _ => h), (fun _ _ _ h _ => h), (fun _ _ _ h _ => h), (fun _ _ _ h _ => h), (fun _ _ _ h _ => h), (fun _ _ _ h _ => h), (fun _ _ _ h _ => h), (fun _ _ _ h _ => h), (fun _ _ _ h _ => h), (fun _ _ _ h _ => h), (fun _ _ _ h _ => h), (fun _ _ _ h _ => h), (fun _ _ _ h _ => h), (fun _ _ _ h _ => h), (fun _ _ _ h _ => h), (fun _ _ _ h _ => h), (fun _ _ _ h _ => h), (fun _ _ _ h _ => h), (fun _ _ _ h _ => h), (fun _ _ _ h _ => h), (fun _ _ _ h _ => h), (fun _ _ _ h _ => h), trivial⟩
  · exact ⟨⟨⟨⟨⟨⟨⟨⟨⟨⟨⟨⟨⟨⟨⟨⟨⟨⟨⟨⟨⟨⟨⟨⟨⟨⟨⟨⟨⟨⟨trivial, okMy3_0 t1 t2 t3 t4 t5 t11 m0 m2 m3 m4 q0 q1 q2 hh.drew hi'.drew hl' hs'.drew⟩, okMy3_1 t1 t2 t3 t4 t5 t11 m0 m2 m3 m4 q0 q1 q2 hh.drew hi'.drew hl' hs'.drew⟩, okMy3_2 t1 t2 t3 t4 t5 t11 m0 m2 m3 m4 q0 q1 q2 hh.drew hi'.drew hl' hs'.drew⟩, okMy3_3 t1 t2 t3 t4 t5 t11 m0 m2 m3 m4 q0 q1 q2 hh.drew hi'.drew hl' hs'.drew⟩, okMy3_4 t1 t2 t3 t4 t5 t11 m0 m2 m3 m4 q0 q1 q2 hh.drew hi'.drew hl' hs'.drew⟩, okMy3_5 t1 t2 t3 t4 t5 t11 m0 m2 m3 m4 q0 q1 q2 hh.drew hi'.drew hl' hs'.drew⟩, okMy3_6 t1 t2 t3 t4 t5 t11 m0 m2 m3 m4 q0 q1 q2 hh.drew hi'.drew hl' hs'.drew⟩, okMy3_7 t1 t2 t3 t4 t5 t11 m0 m2 m3 m4 q0 q1 q2 hh.drew hi'.drew hl' hs'.drew⟩, okMy3_8 t1 t2 t3 t4 t5 t11 m0 m2 m3 m4 q0 q1 q2 hh.drew hi'.drew hl' hs'.drew⟩, okMy3_9 t1 t2 t3 t4 t5 t11 m0 m2 m3 m4 q0 q1 q2 hh.drew hi'.drew hl' hs'.drew⟩, okMy3_10 t1 t2 t3 t4 t5 t11 m0 m2 m3 m4 q0 q1 q2 hh.drew hi'.drew hl' hs'.drew⟩, okMy3_11 t1 t2 t3 t4 t5 t11 m0 m2 m3 m4 q0 q1 q2 hh.drew hi'.drew hl' hs'.drew⟩, okMy3_12 t1 t2 t3 t4 t5 t11 m0 m2 m3 m4 q0 q1 q2 hh.drew hi'.drew hl' hs'.drew⟩, okMy3_13 t1 t2 t3 t4 t5 t11 m0 m2 m3 m4 q0 q1 q2 hh.drew hi'.drew hl' hs'.drew⟩, okMy3_14 t1 t2 t3 t4 t5 t11 m0 m2 m3 m4 q0 q1 q2 hh.drew hi'.drew hl' hs'.drew⟩, okMy3_15 t1 t2 t3 t4 t5 t11 m0 m2 m3 m4 q0 q1 q2 hh.drew hi'.drew hl' hs'.drew⟩, okMy3_16 t1 t2 t3 t4 t5 t11 m0 m2 m3 m4 q0 q1 q2 hh.drew hi'.drew hl' hs'.drew⟩, okMy3_17 t1 t2 t3 t4 t5 t11 m0 m2 m3 m4 q0 q1 q2 hh.drew hi'.drew hl' hs'.drew⟩, okMy3_18 t1 t2 t3 t4 t5 t11 m0 m2 m3 m4 q0 q1 q2 hh.drew hi'.drew hl' hs'.drew⟩, okMy3_19 t1 t2 t3 t4 t5 t11 m0 m2 m3 m4 q0 q1 q2 hh.drew hi'.drew hl' hs'.drew⟩, okMy3_20 t1 t2 t3 t4 t5 t11 m0 m2 m3 m4 q0 q1 q2 hh.drew hi'.drew hl' hs'.drew⟩, okMy3_21 t1 t2 t3 t4 t5 t11 m0 m2 m3 m4 q0 q1 q2 hh.drew hi'.drew hl' hs'.drew⟩, okMy3_22 t1 t2 t3 t4 t5 t11 m0 m2 m3 m4 q0 q1 q2 hh.drew hi'.drew hl' hs'.drew⟩, okMy3_23 t1 t2 t3 t4 t5 t11 m0 m2 m3 m4 q0 q1 q2 hh.drew hi'.drew hl' hs'.drew⟩, okMy3_24 t1 t2 t3 t4 t5 t11 m0 m2 m3 m4 q0 q1 q2 hh.drew hi'.drew hl' hs'.drew⟩, okMy3_25 t1 t2 t3 t4 t5 t11 m0 m2 m3 m4 q0 q1 q2 hh.drew hi'.drew hl' hs'.drew⟩, okMy3_26 t1 t2 t3 t4 t5 t11 m0 m2 m3 m4 q0 q1 q2 hh.drew hi'.drew hl' hs'.drew⟩, okMy3_27 t1 t2 t3 t4 t5 t11 m0 m2 m3 m4 q0 q1 q2 hh.drew hi'.drew hl' hs'.drew⟩, okMy3_28 t1 t2 t3 t4 t5 t11 m0 m2 m3 m4 q0 q1 q2 hh.drew hi'.drew hl' hs'.drew⟩, okMy3_29 t1 t2 t3 t4 t5 t11 m0 m2 m3 m4 q0 q1 q2 hh.drew hi'.drew hl' hs'.drew⟩
end Go.Proofs.Ytfcnombmphophaa
namespace Go.Proofs.Ytfcnombmphophaa
open Go.RowKit Go.Shelf
noncomputable def opsMyA0 : Array Oper := (Try.f52.body.bind (regionOf 0)).getD #[]
noncomputable def opsMyA1 : Array Oper := (Try.f52.body.bind (regionOf 1)).getD #[]
noncomputable def code52 : Code := .seq (.region 0 opsMyA0 false) (.seq (.region 1 opsMyA1 false) (.seq (.region 2 opsMy0 true) .ret))
theorem body52 : Try.f52.body = some code52 := by kernel_rfl
theorem cv_has {w : World} {A1 : Option Addr} {c1 : Nat} {done : List Int} {n : Int} {b : Bool} (hd : done.length ≤ 12) (h1 : IntsAt w w.heap.size A1 done) (hb : hasI done n = b) : CV w 40 #[.slice A1 done.length c1, .int .i64 n] (.bool b) := by
  intro W1 hw
  refine (hasI_any A1 c1 done n W1 (by omega) ((h1.below hw (Nat.le_refl _)).more hw.size)).mono ?_
  rintro e w' ⟨rfl, rfl⟩
  exact ⟨_, rfl, by rw [hb], Below.refl _ _⟩
theorem cv_in {w : World} {n lo hi : Int} {b : Bool} (hb : inR n lo hi = b) : CV w 31 #[.int .i64 n, .int .i64 lo, .int .i64 hi] (.bool b) := by
  intro W1 hw
  refine (in_any n lo hi W1).mono ?_
  rintro e w' ⟨rfl, rfl⟩
  exact ⟨_, rfl, by rw [hb], Below.refl _ _⟩
theorem cv_stock {w : World} {o t ow : Int} {A A1 : Option Addr} {l : List Sale} {done : List Int} {c c1 : Nat} (hl : l.length ≤ 12) (hd : done.length ≤ 12) (ht0 : 0 ≤ t) (ht : t ≤ 1000) (hm : ∀ s, s ∈ l → 0 ≤ s.many ∧ s.many ≤ 1000)
    (hdn : ∀ d, d ∈ done → 0 ≤ d ∧ d < l.length) (hs : SalesAt w w.heap.size A l) (h1 : IntsAt w w.heap.size A1 done) :
    CV w 69 #[.agg #[.int .i64 o, .int .i64 t, .slice A l.length c], .slice A1 done.length c1, .int .i64 ow] (.int .i64 (stockR t l done ow)) := by
  intro W1 hw
  refine (stockR_any o t ow A A1 l done c c1 W1 hl hd ht0 ht hm hdn ((hs.below hw (Nat.le_refl _)).more hw.size) ((h1.below hw (Nat.le_refl _)).more hw.size)).mono ?_
  rintro e w' ⟨rfl, hb⟩
  exact ⟨_, rfl, rfl, hb⟩
set_option maxHeartbeats 1000000 in
theorem may_any (o t : Int) (A A1 : Option Addr) (l : List Sale) (done : List Int) (c c1 k : Nat) (la dy : Int) (W : World) (hl : l.length ≤ 12) (hd : done.length ≤ 12) (ht0 : 0 ≤ t) (ht : t ≤ 1000) (hm : ∀ s, s ∈ l → 0 ≤ s.many ∧ s.many ≤ 1000)
    (hdn : ∀ d, d ∈ done → 0 ≤ d ∧ d < l.length) (hk : k < l.length) (hs : SalesAt W W.heap.size A l) (h1 : IntsAt W W.heap.size A1 done) :
    Calls Try.prog 52 #[.agg #[.int .i64 o, .int .i64 t, .slice A l.length c], .slice A1 done.length c1, .int .i64 la, .int .i64 k, .int .i64 dy] W (TP W (mayR t l done la k dy)) := by
  refine (callsIn_wide (n := 5)).1 (callsIn_of_wp Try.func52 body52 trivial ?_ rfl)
  obtain ⟨a, ha⟩ : ∃ a : Act, a = { tmps := #[.agg #[.int .i64 o, .int .i64 t, .slice A l.length c], .slice A1 done.length c1, .int .i64 la, .int .i64 k, .int .i64 dy] ++ Array.replicate (Try.f52.ntmps - (#[.agg #[.int .i64 o, .int .i64 t, .slice A l.length c], .slice A1 done.length c1, .int .i64 la, .int .i64 k, .int .i64 dy] : Array Value).size) undef, defers := [] } := ⟨_, rfl⟩
  have hsz : a.tmps.size = 46 := by rw [ha]; simp [Try.ntmps52]
  have t0 : a.eval (.tmp 0) = .agg #[.int .i64 o, .int .i64 t, .slice A l.length c] := by rw [ha]; simp [Act.eval]
  have t1 : a.eval (.tmp 1) = .slice A1 done.length c1 := by rw [ha]; simp [Act.eval]
  have t2 : a.eval (.tmp 2) = .int .i64 la := by rw [ha]; simp [Act.eval]
  have t3 : a.eval (.tmp 3) = .int .i64 k := by rw [ha]; simp [Act.eval]
  have t4 : a.eval (.tmp 4) = .int .i64 dy := by rw [ha]; simp [Act.eval]
  have hdf : a.defers = [] := by rw [ha]
  rw [← ha]
  clear ha
  have hret : ∀ (a' : Act) (W' : World) (v : Bool), a'.defers = [] → a'.eval (.tmp 10) = .bool v → Below W.heap.size W W' → v = mayR t l done la k dy → bodyPost Try.prog Try.f52 (TP W (mayR t l done la k dy)) .ret a' W' := fun a' W' v hd h4 hb he =>
    bodyPost_ret (v := .bool v) (res1 Try.results52 h4) hd ⟨by rw [he], hb⟩
  unfold code52
  refine wpIn_seq (region_p 2 ?_)
  intro K hK
  refine ListK.box (i := 0) (u := .agg #[.int .i64 o, .int .i64 t, .slice A l.length c]) rfl (by simp [t0]) (bx24 W _ _ _ _ _) ?_
  refine ListK.assign (i := 1) (v := .bool false) rfl (by simp) ?_
  refine ListK.done (hK _ _ ?_)
  clear hK K
  have wb := Whole.new W 24 #[.int .i64 o, .int .i64 t, .slice A l.length c]
  have hB1 : Below W.heap.size W (W.alloc (.cells #[.int .i64 o, .int .i64 t, .slice A l.length c] 24)) := (Below.refl _ W).alloc (Nat.le_refl _) _
  have hS1 := hB1.size
  have hlt : W.heap.size < (W.alloc (.cells #[.int .i64 o, .int .i64 t, .slice A l.length c] 24)).heap.size := by simp
  generalize hb5 : W.heap.size = b5 at *
  generalize W.alloc (.cells #[.int .i64 o, .int .i64 t, .slice A l.length c] 24) = W1 at *
  have hs1 : SalesAt W1 W1.heap.size A l := (hs.below hB1 (Nat.le_refl _)).more hS1
  have h11 : IntsAt W1 W1.heap.size A1 done := (h1.below hB1 (Nat.le_refl _)).more hS1
  have h2 := wb.cell 2
  have hgl : l[k]? = some l[k] := List.getElem?_eq_getElem hk
  have hsl := saleOf_eq hgl
  obtain ⟨b, off, hA, hbB, s0, s1, s2, s3, s4⟩ := hs1 k _ hgl
  subst hA
  refine wpIn_seq (region_p 7 ?_)
  intro K hK
  refine ListK.field (i := 0) (u := .pointer (some ⟨b5, 0, none⟩)) (v := .pointer (some ⟨b5, 2, none⟩)) rfl (by simp [hsz]) (fa24_2 _) ?_
  refine ListK.load (i := 1) (p := ⟨b5, 2, none⟩) (v := .slice (some ⟨b, off, none⟩) l.length c) rfl (by simp [hsz]) (ld22 (h2)) ?_
  refine ListK.move (i := 2) (v := .int .i64 k) rfl (by simp [t3]) ?_
  refine ListK.index (i := 3) (u := .slice (some ⟨b, off, none⟩) l.length c) (u' := .int .i64 k) (v := .pointer (some ⟨b, off + k * 5, none⟩)) rfl (by simp [hsz]) (by simp [hsz]) (ix22 hk _) ?_
  refine ListK.load (i := 4) (p := ⟨b, off + k * 5, none⟩) (v := saleV l[k]) rfl (by simp [hsz]) (ld73 s0 s1 s2 s3 s4) ?_
  refine ListK.alloc (i := 5) rfl (al73 W1) ?_
  refine ListK.store (i := 6) (u := .pointer (some ⟨W1.heap.size, 0, none⟩)) (u' := saleV l[k]) rfl (by simp [hsz]) (by simp [hsz]) (sa73 W1 _) ?_
  refine ListK.done (hK _ _ ?_)
  clear hK K
  have hx := Whole.new W1 73 (saleC l[k])
  have hB2 : Below W1.heap.size W1 (W1.alloc (.cells (saleC l[k]) 73)) := (Below.refl _ W1).alloc (Nat.le_refl _) _
  have wb2 := wb.alloc (.cells (saleC l[k]) 73)
  have hs2 := (hs1.below hB2 (Nat.le_refl _)).more hB2.size
  have h12 := (h11.below hB2 (Nat.le_refl _)).more hB2.size
  have hB3 : Below b5 W (W1.alloc (.cells (saleC l[k]) 73)) := hB1.trans (hB2.mono hS1)
  generalize hb11 : W1.heap.size = b11 at *
  generalize W1.alloc (.cells (saleC l[k]) 73) = W2 at *
  generalize hA : Act.put _ _ _ = a1
  have hz_a1 : a1.tmps.size = 46 := by rw [← hA]; simp only [size_put, hsz]
  have u1 : a1.eval (.tmp 1) = .slice A1 done.length c1 := by rw [← hA]; exact (by simp [t1])
  have u2 : a1.eval (.tmp 2) = .int .i64 la := by rw [← hA]; exact (by simp [t2])
  have u3 : a1.eval (.tmp 3) = .int .i64 k := by rw [← hA]; exact (by simp [t3])
  have u4 : a1.eval (.tmp 4) = .int .i64 dy := by rw [← hA]; exact (by simp [t4])
  have u5 : a1.eval (.tmp 5) = .pointer (some ⟨b5, 0, none⟩) := by rw [← hA]; exact (by simp [hsz])
  have u11 : a1.eval (.tmp 11) = .pointer (some ⟨b11, 0, none⟩) := by rw [← hA]; exact (by simp [hsz])
  have hd_a1 : a1.defers = [] := by rw [← hA]; simp only [defers_put, hdf]
  clear hA
  have hfin : ∀ (a' : Act) (W' : World) (v : Bool), a'.defers = a1.defers → a'.eval (.tmp 10) = .bool v → Below W2.heap.size W2 W' → v = mayR t l done la k dy → bodyPost Try.prog Try.f52 (TP W (mayR t l done la k dy)) .ret a' W' := fun a' W' v hd h4 hb he =>
    hret a' W' v (hd.trans hd_a1) h4 (hB3.trans (hb.mono (by have := hB3.size; omega))) he
  have m0 : W2.cell? ⟨b11, 0, none⟩ = some (.int .i64 l[k].src) := hx.cell 0
  have m2 : W2.cell? ⟨b11, 2, none⟩ = some (.int .i64 l[k].many) := hx.cell 2
  have m3 : W2.cell? ⟨b11, 3, none⟩ = some (.int .i64 l[k].lo) := hx.cell 3
  have m4 : W2.cell? ⟨b11, 4, none⟩ = some (.int .i64 l[k].hi) := hx.cell 4
  have q0 : W2.cell? ⟨b5, 0, none⟩ = some (.int .i64 o) := wb2.cell 0
  have q1 : W2.cell? ⟨b5, 1, none⟩ = some (.int .i64 t) := wb2.cell 1
  have q2 : W2.cell? ⟨b5, 2, none⟩ = some (.slice (some ⟨b, off, none⟩) l.length c) := wb2.cell 2
  have hmd : mayR t l done la k dy = (!hasI done k && (inR dy l[k].lo l[k].hi && (decide (la ≤ dy) && decide (l[k].many ≤ stockR t l done l[k].src)))) := by
    unfold mayR
    rw [Int.toNat_natCast, hsl]
  have hst := cv_stock (o := o) (t := t) (ow := l[k].src) (c := c) (c1 := c1) hl hd ht0 ht hm hdn hs2 h12
  generalize stockR t l done l[k].src = sk at *
  cases hH : hasI done (k : Int) with
  | true =>
    refine wpIn_seq (regionMy0 (sk := sk) (wideF_plain _) hz_a1 u1 u2 u3 u4 u5 u11 m0 m2 m3 m4 q0 q1 q2 (cv_has hd h12 hH) ?_)
    intro a2 W3 hz2 hd2 hb3 hr hw
    have v10 : a2.eval (.tmp 10) = .bool false := hw 29 10 (by kernel_rfl)
    exact wpIn_ret (hfin a2 W3 false hd2 v10 hb3 (by rw [hmd, hH]; rfl))
  | false =>
    cases hI : inR dy l[k].lo l[k].hi with
    | false =>
      refine wpIn_seq (regionMy1 (sk := sk) (wideF_plain _) hz_a1 u1 u2 u3 u4 u5 u11 m0 m2 m3 m4 q0 q1 q2 (cv_has hd h12 hH) (cv_in hI) ?_)
      intro a2 W3 hz2 hd2 hb3 hr hw
      have v10 : a2.eval (.tmp 10) = .bool false := hw 29 10 (by kernel_rfl)
      exact wpIn_ret (hfin a2 W3 false hd2 v10 hb3 (by rw [hmd, hH, hI]; rfl))
    | true =>
      by_cases hL : la ≤ dy
      · refine wpIn_seq (regionMy3 (sk := sk) (wideF_plain _) hz_a1 u1 u2 u3 u4 u5 u11 m0 m2 m3 m4 q0 q1 q2 (cv_has hd h12 hH) (cv_in hI) hL hst ?_)
        intro a2 W3 hz2 hd2 hb3 hr hw
        have v10 : a2.eval (.tmp 10) = .bool (decide (l[k].many ≤ sk)) := hw 29 10 (by kernel_rfl)
        exact wpIn_ret (hfin a2 W3 _ hd2 v10 hb3 (by rw [hmd, hH, hI]; simp [hL]))
      · refine wpIn_seq (regionMy2 (sk := sk) (wideF_plain _) hz_a1 u1 u2 u3 u4 u5 u11 m0 m2 m3 m4 q0 q1 q2 (cv_has hd h12 hH) (cv_in hI) hL ?_)
        intro a2 W3 hz2 hd2 hb3 hr hw
        have v10 : a2.eval (.tmp 10) = .bool false := hw 29 10 (by kernel_rfl)
        exact wpIn_ret (hfin a2 W3 false hd2 v10 hb3 (by rw [hmd, hH, hI]; simp [hL]))
end Go.Proofs.Ytfcnombmphophaa
namespace Go.Proofs.Ytfcnombmphophaa
open Go.RowKit Go.Shelf
theorem IntsAt.take {w : World} {B : Nat} {A : Option Addr} {l : List Int} (h : IntsAt w B A l) (k : Nat) : IntsAt w B A (l.take k) := by
  intro j x hj
  rw [List.getElem?_take] at hj
  split at hj
  · exact h j x hj
  · cases hj
end Go.Proofs.Ytfcnombmphophaa
namespace Go.Proofs.Ytfcnombmphophaa
open Go.RowKit Go.Shelf
theorem cv_may {w : World} {o t la dy : Int} {A A1 : Option Addr} {l : List Sale} {done : List Int} {c c1 k m : Nat} {b : Bool} (hl : l.length ≤ 12) (hmd : m = done.length) (hd : done.length ≤ 12) (ht0 : 0 ≤ t) (ht : t ≤ 1000) (hm : ∀ s, s ∈ l → 0 ≤ s.many ∧ s.many ≤ 1000)
    (hdn : ∀ d, d ∈ done → 0 ≤ d ∧ d < l.length) (hk : k < l.length) (hs : SalesAt w w.heap.size A l) (h1 : IntsAt w w.heap.size A1 done) (hb : mayR t l done la k dy = b) :
    CV w 52 #[.agg #[.int .i64 o, .int .i64 t, .slice A l.length c], .slice A1 m c1, .int .i64 la, .int .i64 k, .int .i64 dy] (.bool b) := by
  subst hmd
  intro W1 hw
  refine (may_any o t A A1 l done c c1 k la dy W1 hl hd ht0 ht hm hdn hk ((hs.below hw (Nat.le_refl _)).more hw.size) ((h1.below hw (Nat.le_refl _)).more hw.size)).mono ?_
  rintro e w' ⟨rfl, hb'⟩
  exact ⟨_, rfl, by rw [hb], hb'⟩
end Go.Proofs.Ytfcnombmphophaa
