/- Texts for the laws of package recall, part 4: contracts of the program's functions, each for every input that its words name. -/
import Derived.Test.YtfcnombmphophaaG3
import Derived.OpenShut
import Derived.ChangeBook
import Derived.ChangeStays
import Derived.Deep.Frames
import Derived.ChangeOld

set_option linter.unusedVariables false

namespace Go.Proofs.Ytfcnombmphophaa
open Go.RowKit Go.Shelf
theorem four_nil (W : World) : Calls Try.prog 35 #[.slice none 0 0] W (QP W fourL) := by
  have := four_gen (.slice none 0 0) [] W (.inl ⟨rfl, rfl⟩)
  rwa [List.append_nil] at this
theorem four_one (s : Sale) (b : Nat) (W : World) (h : Whole W b 61 (saleC s)) : Calls Try.prog 35 #[.slice (some ⟨b, 0, none⟩) 1 1] W (QP W (fourL ++ [s])) :=
  four_gen _ [s] W (.inr ⟨s, b, rfl, rfl, h⟩)
theorem whole_ints {W : World} {p : Nat} (ys : List Int) (h : Whole W p 3 (ys.map (Value.int .i64)).toArray) : IntsAt W W.heap.size (some ⟨p, 0, none⟩) ys := by
  intro k x hx
  refine ⟨p, 0, rfl, h.lt, ?_⟩
  rw [Nat.zero_add, h.cell]
  simp [hx]
theorem ints_lit {W : World} {v : Value} {xs : List Int} {p : Nat} (ys : List Int) (h : RI W v xs) (hw : Whole W p 3 (ys.map (Value.int .i64)).toArray) (hl : xs.length ≤ 10000) (hs : sameL xs ys = true) :
    Calls Try.prog 25 #[v, .slice (some ⟨p, 0, none⟩) ys.length ys.length] W fun e w' => e = .returned (.bool true) ∧ Below W.heap.size W w' := by
  obtain ⟨A, c, rfl, _, hi⟩ := h
  have := ints_any A (some ⟨p, 0, none⟩) c ys.length xs ys W hl hi (whole_ints ys hw)
  rw [hs] at this
  exact this
theorem eql27T {x y : Operand} {m n : Int} (h : m = n) (w : World) : (do eqGuard .eql 27 x y (.int .i64 m) (.int .i64 n); binOp .eql 27 (.int .i64 m) (.int .i64 n) : Sem Value).run Try.prog w = .ok (.bool true) w := by
  subst h
  go_simp
theorem eql46 {x y : Operand} (a b c d : Int) (w : World) : (do eqGuard .eql 46 x y (.agg #[.int .i64 a, .int .i64 b]) (.agg #[.int .i64 c, .int .i64 d]); binOp .eql 46 (.agg #[.int .i64 a, .int .i64 b]) (.agg #[.int .i64 c, .int .i64 d]) : Sem Value).run Try.prog w = .ok (.bool (a == c && b == d)) w := by
  cases h : (a == c) <;> cases h2 : (b == d) <;> go_simp
theorem bs25_4 (a b c d : Int) (w : World) : (Instr.buildSlice 25 4 #[(0, .int .i64 a), (1, .int .i64 b), (2, .int .i64 c), (3, .int .i64 d)]).run Try.prog w = .ok (.slice (some ⟨w.heap.size, 0, none⟩) 4 4) (w.alloc (.cells #[.int .i64 a, .int .i64 b, .int .i64 c, .int .i64 d] 3)) := by
  kernel_rfl
section
variable {P : Program} {ops : Array Oper} {K : Act → World → Prop} {Kp : Nat → World → World → Prop} {fuel : Nat} {listed : Array Bool} {a : Act} {w : World} {i j d : Nat} {ty : TypeId} {pos : String} {aft : Array Edge} {gd : Option (Nat × Bool)}
theorem StepK.buildG {t : TypeId} {n : Nat} {parts : Array (Nat × Operand)} {ps : Array (Nat × Value)} {v : Value} {w' : World} (hi : ops[i]? = some ⟨some d, .buildSlice t n parts, ty, pos, aft, gd⟩)
    (hp : parts.map (fun (i, x) => (i, a.eval x)) = ps) (hv : (Instr.buildSlice t n ps).run P w = .ok v w') (hk : Kp i w w')
    (h : AnyK P ops K Kp fuel (listed.setIfInBounds i true) (a.put (some d) v) w') (hw : Region.wanted ⟨some d, .buildSlice t n parts, ty, pos, aft, gd⟩ (yielded ops a.tmps) = true := by rfl) : StepK P ops K Kp fuel listed a w i := by
  unfold StepK opG
  simp only [hi]
  rw [if_pos hw]
  simp only [Oper.wp, execOp, hp]; simp [hv, Oper.upon]; exact ⟨hk, h⟩
end
section
attribute [local irreducible] AnyK StepK
noncomputable def opsU6 : Array Oper := (Try.f16.body.bind (regionOf 6)).getD #[]
set_option maxRecDepth 10000 in
set_option maxHeartbeats 2000000 in
theorem regionU6 {F : Fence} {n : Nat} (hF : WideF F Try.prog) {Q : Exit → Act → World → Prop} {a : Act} {w : World} {p1 p3 : Nat} {vc vs vl vo vd : Value} (hsz : a.tmps.size = 91)
    (t1 : a.eval (.tmp 1) = .pointer (some ⟨p1, 0, none⟩)) (t2 : a.eval (.tmp 2) = .int .i64 0) (t3 : a.eval (.tmp 3) = .pointer (some ⟨p3, 0, none⟩)) (t4 : a.eval (.tmp 4) = .int .i64 0) (t5 : a.eval (.tmp 5) = vc) (t6 : a.eval (.tmp 6) = vs) (t7 : a.eval (.tmp 7) = .int .i64 0) (t8 : a.eval (.tmp 8) = vl) (t9 : a.eval (.tmp 9) = .int .i64 0) (t10 : a.eval (.tmp 10) = vo) (t11 : a.eval (.tmp 11) = vd) (t12 : a.eval (.tmp 12) = .int .i64 0)
    (m0 : w.cell? ⟨p1, 0, none⟩ = some (.int .i64 1)) (m1 : w.cell? ⟨p1, 1, none⟩ = some (.int .i64 2)) (m2 : w.cell? ⟨p3, 0, none⟩ = some (.int .i64 0)) (m3 : w.cell? ⟨p3, 1, none⟩ = some (.int .i64 7)) (hvc : RI w vc [0, 1, 2, 3]) (hvs : RI w vs [1, 2]) (hvl : RI w vl [4]) (hpr : ∀ A c W, Below w.heap.size w W → SalesAt W W.heap.size A fourL → Calls Try.prog 19 #[.agg #[.int .i64 4, .int .i64 10, .slice A fourL.length c], vo, vd] W fun e w' => e = .returned (.bool true) ∧ Below W.heap.size W w')
    (hK : ∀ a' W', Below w.heap.size w W' → a'.tmps.size = 91 → a'.defers = a.defers → a'.eval (.tmp 0) = .bool true → Q .normal a' W') :
    (Code.region 6 opsU6 true).wpIn F n Try.prog Q a w := by
  have hR : (fun w : World => w.cell? ⟨p1, 0, none⟩ = some (.int .i64 1) ∧ w.cell? ⟨p1, 1, none⟩ = some (.int .i64 2) ∧ w.cell? ⟨p3, 0, none⟩ = some (.int .i64 0) ∧ w.cell? ⟨p3, 1, none⟩ = some (.int .i64 7)) w.drew := ⟨m0, m1, m2, m3⟩
  have hB : Below w.heap.size w w.drew := (Below.refl _ _).drew
  refine region_K (KpR (fun w => w.cell? ⟨p1, 0, none⟩ = some (.int .i64 1) ∧ w.cell? ⟨p1, 1, none⟩ = some (.int .i64 2) ∧ w.cell? ⟨p3, 0, none⟩ = some (.int .i64 0) ∧ w.cell? ⟨p3, 1, none⟩ = some (.int .i64 7)) (fun _ => false)) hF (by kernel_rfl) Try.mixed ?_
  change AnyK _ _ _ _ 50 (Array.replicate 50 false) _ _
  generalize w.drew = W at *
  refine AnyK.move (i := 0) may_o (v := .int .i64 0) (by simp [t2]) hR ?_
  refine AnyK.bin (i := 1) may_o (u := .int .i64 0) (u' := .int .i64 (0)) (v := .bool true) (by simp [hsz]) (by simp) (fun w => eql27T rfl w) hR ?_
  refine AnyK.move (i := 2) may_o (v := .bool true) (by simp [hsz]) hR ?_
  refine AnyK.load (i := 3) may_o (p := ⟨p1, 0, none⟩) (v := .agg #[.int .i64 1, .int .i64 2]) (by simp [t1]) (fun w hw => ld46 ⟨hw.1, hw.2.1⟩) hR (hw := (by exact wanted_g (e := 44) (b' := true) rfl (by simp [hsz]) rfl)) ?_
  refine AnyK.pick1 (i := 4) (by kernel_rfl) ?_
  refine StepK.call (i := 4) (f := 36) (vs := #[.int .i64 (1), .int .i64 (2)]) rfl (enters_of Try.func36 (by kernel_rfl) rfl) (by simp) (by simp) ((between_any 1 2 _).mono ?_) (hw := (by exact wanted_g (e := 44) (b' := true) rfl (by simp [hsz]) rfl))
  rintro _ W4 ⟨rfl, hb4⟩
  refine ⟨_, rfl, (fun _ hw => ⟨(hb4.cell (block_lt_of_cell hw.1)).trans hw.1, (hb4.cell (block_lt_of_cell hw.2.1)).trans hw.2.1, (hb4.cell (block_lt_of_cell hw.2.2.1)).trans hw.2.2.1, (hb4.cell (block_lt_of_cell hw.2.2.2)).trans hw.2.2.2⟩), ?_⟩
  replace hR : (fun w : World => w.cell? ⟨p1, 0, none⟩ = some (.int .i64 1) ∧ w.cell? ⟨p1, 1, none⟩ = some (.int .i64 2) ∧ w.cell? ⟨p3, 0, none⟩ = some (.int .i64 0) ∧ w.cell? ⟨p3, 1, none⟩ = some (.int .i64 7)) W4 := ⟨(hb4.cell (block_lt_of_cell hR.1)).trans hR.1, (hb4.cell (block_lt_of_cell hR.2.1)).trans hR.2.1, (hb4.cell (block_lt_of_cell hR.2.2.1)).trans hR.2.2.1, (hb4.cell (block_lt_of_cell hR.2.2.2)).trans hR.2.2.2⟩
  replace hB := hB.trans (hb4.mono hB.size)
  clear hb4 W
  obtain ⟨W, rfl⟩ : ∃ W, W = W4 := ⟨_, rfl⟩
  refine AnyK.bin (i := 5) may_o (u := .agg #[.int .i64 1, .int .i64 2]) (u' := .agg #[.int .i64 1, .int .i64 2]) (v := .bool true) (by simp [hsz]) (by simp [hsz]) (fun w => eql46 1 2 1 2 w) hR (hw := (by exact wanted_g (e := 44) (b' := true) rfl (by simp [hsz]) rfl)) ?_
  refine AnyK.pick (i := 6) may_o (b := true) (v := .bool true) (by simp [hsz]) (by simp [hsz]) hR ?_
  refine AnyK.move (i := 7) may_o (v := .bool true) (by simp [hsz]) hR ?_
  refine AnyK.move (i := 8) may_o (v := .int .i64 0) (by simp [t4]) hR (hw := (by exact wanted_g (e := 49) (b' := true) rfl (by simp [hsz]) rfl)) ?_
  refine AnyK.bin (i := 9) may_o (u := .int .i64 0) (u' := .int .i64 (0)) (v := .bool true) (by simp [hsz]) (by simp) (fun w => eql27T rfl w) hR (hw := (by exact wanted_g (e := 49) (b' := true) rfl (by simp [hsz]) rfl)) ?_
  refine AnyK.pick (i := 10) may_o (b := true) (v := .bool true) (by simp [hsz]) (by simp [hsz]) hR ?_
  refine AnyK.move (i := 11) may_o (v := .bool true) (by simp [hsz]) hR ?_
  refine AnyK.load (i := 12) may_o (p := ⟨p3, 0, none⟩) (v := .agg #[.int .i64 0, .int .i64 7]) (by simp [t3]) (fun w hw => ld46 ⟨hw.2.2.1, hw.2.2.2⟩) hR (hw := (by exact wanted_g (e := 53) (b' := true) rfl (by simp [hsz]) rfl)) ?_
  refine AnyK.pick1 (i := 13) (by kernel_rfl) ?_
  refine StepK.call (i := 13) (f := 36) (vs := #[.int .i64 (0), .int .i64 (7)]) rfl (enters_of Try.func36 (by kernel_rfl) rfl) (by simp) (by simp) ((between_any 0 7 _).mono ?_) (hw := (by exact wanted_g (e := 53) (b' := true) rfl (by simp [hsz]) rfl))
  rintro _ W13 ⟨rfl, hb13⟩
  refine ⟨_, rfl, (fun _ hw => ⟨(hb13.cell (block_lt_of_cell hw.1)).trans hw.1, (hb13.cell (block_lt_of_cell hw.2.1)).trans hw.2.1, (hb13.cell (block_lt_of_cell hw.2.2.1)).trans hw.2.2.1, (hb13.cell (block_lt_of_cell hw.2.2.2)).trans hw.2.2.2⟩), ?_⟩
  replace hR : (fun w : World => w.cell? ⟨p1, 0, none⟩ = some (.int .i64 1) ∧ w.cell? ⟨p1, 1, none⟩ = some (.int .i64 2) ∧ w.cell? ⟨p3, 0, none⟩ = some (.int .i64 0) ∧ w.cell? ⟨p3, 1, none⟩ = some (.int .i64 7)) W13 := ⟨(hb13.cell (block_lt_of_cell hR.1)).trans hR.1, (hb13.cell (block_lt_of_cell hR.2.1)).trans hR.2.1, (hb13.cell (block_lt_of_cell hR.2.2.1)).trans hR.2.2.1, (hb13.cell (block_lt_of_cell hR.2.2.2)).trans hR.2.2.2⟩
  replace hB := hB.trans (hb13.mono hB.size)
  clear hb13 W
  obtain ⟨W, rfl⟩ : ∃ W, W = W13 := ⟨_, rfl⟩
  refine AnyK.bin (i := 14) may_o (u := .agg #[.int .i64 0, .int .i64 7]) (u' := .agg #[.int .i64 0, .int .i64 7]) (v := .bool true) (by simp [hsz]) (by simp [hsz]) (fun w => eql46 0 7 0 7 w) hR (hw := (by exact wanted_g (e := 53) (b' := true) rfl (by simp [hsz]) rfl)) ?_
  refine AnyK.pick (i := 15) may_o (b := true) (v := .bool true) (by simp [hsz]) (by simp [hsz]) hR ?_
  refine AnyK.move (i := 16) may_o (v := .bool true) (by simp [hsz]) hR ?_
  refine AnyK.move (i := 17) may_o (v := .int .i64 0) (by simp [t7]) hR (hw := (by exact wanted_g (e := 58) (b' := true) rfl (by simp [hsz]) rfl)) ?_
  refine AnyK.bin (i := 18) may_o (u := .int .i64 0) (u' := .int .i64 (0)) (v := .bool true) (by simp [hsz]) (by simp) (fun w => eql27T rfl w) hR (hw := (by exact wanted_g (e := 58) (b' := true) rfl (by simp [hsz]) rfl)) ?_
  refine AnyK.pick (i := 19) may_o (b := true) (v := .bool true) (by simp [hsz]) (by simp [hsz]) hR ?_
  refine AnyK.move (i := 20) may_o (v := .bool true) (by simp [hsz]) hR ?_
  refine AnyK.move (i := 21) may_o (v := vc) (by simp [t5]) hR (hw := (by exact wanted_g (e := 62) (b' := true) rfl (by simp [hsz]) rfl)) ?_
  refine AnyK.pick1 (i := 22) (by kernel_rfl) ?_
  refine StepK.buildG (i := 22) (ps := #[(0, .int .i64 (0)), (1, .int .i64 (1)), (2, .int .i64 (2)), (3, .int .i64 (3))]) rfl (by simp) (bs25_4 _ _ _ _ _) (fun _ hw => ⟨cell_alloc_l _ hw.1, cell_alloc_l _ hw.2.1, cell_alloc_l _ hw.2.2.1, cell_alloc_l _ hw.2.2.2⟩) ?_ (hw := (by exact wanted_g (e := 62) (b' := true) rfl (by simp [hsz]) rfl))
  have n22 := Whole.new W 3 #[.int .i64 (0), .int .i64 (1), .int .i64 (2), .int .i64 (3)]
  replace hR : (fun w : World => w.cell? ⟨p1, 0, none⟩ = some (.int .i64 1) ∧ w.cell? ⟨p1, 1, none⟩ = some (.int .i64 2) ∧ w.cell? ⟨p3, 0, none⟩ = some (.int .i64 0) ∧ w.cell? ⟨p3, 1, none⟩ = some (.int .i64 7)) (W.alloc (.cells #[.int .i64 (0), .int .i64 (1), .int .i64 (2), .int .i64 (3)] 3)) := ⟨cell_alloc_l _ hR.1, cell_alloc_l _ hR.2.1, cell_alloc_l _ hR.2.2.1, cell_alloc_l _ hR.2.2.2⟩
  replace hB := hB.alloc hB.size (.cells #[.int .i64 (0), .int .i64 (1), .int .i64 (2), .int .i64 (3)] 3)
  generalize hp22 : W.heap.size = p22 at *
  generalize W.alloc (.cells #[.int .i64 (0), .int .i64 (1), .int .i64 (2), .int .i64 (3)] 3) = W22 at *
  clear hp22 W
  obtain ⟨W, rfl⟩ : ∃ W, W = W22 := ⟨_, rfl⟩
  refine AnyK.pick1 (i := 23) (by kernel_rfl) ?_
  refine StepK.call (i := 23) (f := 25) (vs := #[vc, .slice (some ⟨p22, 0, none⟩) 4 4]) rfl (enters_of Try.func25 (by kernel_rfl) rfl) (by simp) (by simp [hsz]) ((ints_lit [0, 1, 2, 3] (hvc.below hB) n22 (by decide) rfl).mono ?_) (hw := (by exact wanted_g (e := 62) (b' := true) rfl (by simp [hsz]) rfl))
  rintro _ W23 ⟨rfl, hb23⟩
  refine ⟨_, rfl, (fun _ hw => ⟨(hb23.cell (block_lt_of_cell hw.1)).trans hw.1, (hb23.cell (block_lt_of_cell hw.2.1)).trans hw.2.1, (hb23.cell (block_lt_of_cell hw.2.2.1)).trans hw.2.2.1, (hb23.cell (block_lt_of_cell hw.2.2.2)).trans hw.2.2.2⟩), ?_⟩
  replace hR : (fun w : World => w.cell? ⟨p1, 0, none⟩ = some (.int .i64 1) ∧ w.cell? ⟨p1, 1, none⟩ = some (.int .i64 2) ∧ w.cell? ⟨p3, 0, none⟩ = some (.int .i64 0) ∧ w.cell? ⟨p3, 1, none⟩ = some (.int .i64 7)) W23 := ⟨(hb23.cell (block_lt_of_cell hR.1)).trans hR.1, (hb23.cell (block_lt_of_cell hR.2.1)).trans hR.2.1, (hb23.cell (block_lt_of_cell hR.2.2.1)).trans hR.2.2.1, (hb23.cell (block_lt_of_cell hR.2.2.2)).trans hR.2.2.2⟩
  replace hB := hB.trans (hb23.mono hB.size)
  clear n22
  clear hb23 W
  obtain ⟨W, rfl⟩ : ∃ W, W = W23 := ⟨_, rfl⟩
  refine AnyK.pick (i := 24) may_o (b := true) (v := .bool true) (by simp [hsz]) (by simp [hsz]) hR ?_
  refine AnyK.move (i := 25) may_o (v := .bool true) (by simp [hsz]) hR ?_
  refine AnyK.move (i := 26) may_o (v := vs) (by simp [t6]) hR (hw := (by exact wanted_g (e := 67) (b' := true) rfl (by simp [hsz]) rfl)) ?_
  refine AnyK.pick1 (i := 27) (by kernel_rfl) ?_
  refine StepK.buildG (i := 27) (ps := #[(0, .int .i64 (1)), (1, .int .i64 (2))]) rfl (by simp) (bs25_2 _ _ _) (fun _ hw => ⟨cell_alloc_l _ hw.1, cell_alloc_l _ hw.2.1, cell_alloc_l _ hw.2.2.1, cell_alloc_l _ hw.2.2.2⟩) ?_ (hw := (by exact wanted_g (e := 67) (b' := true) rfl (by simp [hsz]) rfl))
  have n27 := Whole.new W 3 #[.int .i64 (1), .int .i64 (2)]
  replace hR : (fun w : World => w.cell? ⟨p1, 0, none⟩ = some (.int .i64 1) ∧ w.cell? ⟨p1, 1, none⟩ = some (.int .i64 2) ∧ w.cell? ⟨p3, 0, none⟩ = some (.int .i64 0) ∧ w.cell? ⟨p3, 1, none⟩ = some (.int .i64 7)) (W.alloc (.cells #[.int .i64 (1), .int .i64 (2)] 3)) := ⟨cell_alloc_l _ hR.1, cell_alloc_l _ hR.2.1, cell_alloc_l _ hR.2.2.1, cell_alloc_l _ hR.2.2.2⟩
  replace hB := hB.alloc hB.size (.cells #[.int .i64 (1), .int .i64 (2)] 3)
  generalize hp27 : W.heap.size = p27 at *
  generalize W.alloc (.cells #[.int .i64 (1), .int .i64 (2)] 3) = W27 at *
  clear hp27 W
  obtain ⟨W, rfl⟩ : ∃ W, W = W27 := ⟨_, rfl⟩
  refine AnyK.pick1 (i := 28) (by kernel_rfl) ?_
  refine StepK.call (i := 28) (f := 25) (vs := #[vs, .slice (some ⟨p27, 0, none⟩) 2 2]) rfl (enters_of Try.func25 (by kernel_rfl) rfl) (by simp) (by simp [hsz]) ((ints_lit [1, 2] (hvs.below hB) n27 (by decide) rfl).mono ?_) (hw := (by exact wanted_g (e := 67) (b' := true) rfl (by simp [hsz]) rfl))
  rintro _ W28 ⟨rfl, hb28⟩
  refine ⟨_, rfl, (fun _ hw => ⟨(hb28.cell (block_lt_of_cell hw.1)).trans hw.1, (hb28.cell (block_lt_of_cell hw.2.1)).trans hw.2.1, (hb28.cell (block_lt_of_cell hw.2.2.1)).trans hw.2.2.1, (hb28.cell (block_lt_of_cell hw.2.2.2)).trans hw.2.2.2⟩), ?_⟩
  replace hR : (fun w : World => w.cell? ⟨p1, 0, none⟩ = some (.int .i64 1) ∧ w.cell? ⟨p1, 1, none⟩ = some (.int .i64 2) ∧ w.cell? ⟨p3, 0, none⟩ = some (.int .i64 0) ∧ w.cell? ⟨p3, 1, none⟩ = some (.int .i64 7)) W28 := ⟨(hb28.cell (block_lt_of_cell hR.1)).trans hR.1, (hb28.cell (block_lt_of_cell hR.2.1)).trans hR.2.1, (hb28.cell (block_lt_of_cell hR.2.2.1)).trans hR.2.2.1, (hb28.cell (block_lt_of_cell hR.2.2.2)).trans hR.2.2.2⟩
  replace hB := hB.trans (hb28.mono hB.size)
  clear n27
  clear hb28 W
  obtain ⟨W, rfl⟩ : ∃ W, W = W28 := ⟨_, rfl⟩
  refine AnyK.pick (i := 29) may_o (b := true) (v := .bool true) (by simp [hsz]) (by simp [hsz]) hR ?_
  refine AnyK.move (i := 30) may_o (v := .bool true) (by simp [hsz]) hR ?_
  refine AnyK.move (i := 31) may_o (v := .int .i64 0) (by simp [t9]) hR (hw := (by exact wanted_g (e := 72) (b' := true) rfl (by simp [hsz]) rfl)) ?_
  refine AnyK.bin (i := 32) may_o (u := .int .i64 0) (u' := .int .i64 (0)) (v := .bool true) (by simp [hsz]) (by simp) (fun w => eql27T rfl w) hR (hw := (by exact wanted_g (e := 72) (b' := true) rfl (by simp [hsz]) rfl)) ?_
  refine AnyK.pick (i := 33) may_o (b := true) (v := .bool true) (by simp [hsz]) (by simp [hsz]) hR ?_
  refine AnyK.move (i := 34) may_o (v := .bool true) (by simp [hsz]) hR ?_
  refine AnyK.move (i := 35) may_o (v := vl) (by simp [t8]) hR (hw := (by exact wanted_g (e := 76) (b' := true) rfl (by simp [hsz]) rfl)) ?_
  refine AnyK.pick1 (i := 36) (by kernel_rfl) ?_
  refine StepK.buildG (i := 36) (ps := #[(0, .int .i64 (4))]) rfl (by simp) (bs25_1 _ _) (fun _ hw => ⟨cell_alloc_l _ hw.1, cell_alloc_l _ hw.2.1, cell_alloc_l _ hw.2.2.1, cell_alloc_l _ hw.2.2.2⟩) ?_ (hw := (by exact wanted_g (e := 76) (b' := true) rfl (by simp [hsz]) rfl))
  have n36 := Whole.new W 3 #[.int .i64 (4)]
  replace hR : (fun w : World => w.cell? ⟨p1, 0, none⟩ = some (.int .i64 1) ∧ w.cell? ⟨p1, 1, none⟩ = some (.int .i64 2) ∧ w.cell? ⟨p3, 0, none⟩ = some (.int .i64 0) ∧ w.cell? ⟨p3, 1, none⟩ = some (.int .i64 7)) (W.alloc (.cells #[.int .i64 (4)] 3)) := ⟨cell_alloc_l _ hR.1, cell_alloc_l _ hR.2.1, cell_alloc_l _ hR.2.2.1, cell_alloc_l _ hR.2.2.2⟩
  replace hB := hB.alloc hB.size (.cells #[.int .i64 (4)] 3)
  generalize hp36 : W.heap.size = p36 at *
  generalize W.alloc (.cells #[.int .i64 (4)] 3) = W36 at *
  clear hp36 W
  obtain ⟨W, rfl⟩ : ∃ W, W = W36 := ⟨_, rfl⟩
  refine AnyK.pick1 (i := 37) (by kernel_rfl) ?_
  refine StepK.call (i := 37) (f := 25) (vs := #[vl, .slice (some ⟨p36, 0, none⟩) 1 1]) rfl (enters_of Try.func25 (by kernel_rfl) rfl) (by simp) (by simp [hsz]) ((ints_lit [4] (hvl.below hB) n36 (by decide) rfl).mono ?_) (hw := (by exact wanted_g (e := 76) (b' := true) rfl (by simp [hsz]) rfl))
  rintro _ W37 ⟨rfl, hb37⟩
  refine ⟨_, rfl, (fun _ hw => ⟨(hb37.cell (block_lt_of_cell hw.1)).trans hw.1, (hb37.cell (block_lt_of_cell hw.2.1)).trans hw.2.1, (hb37.cell (block_lt_of_cell hw.2.2.1)).trans hw.2.2.1, (hb37.cell (block_lt_of_cell hw.2.2.2)).trans hw.2.2.2⟩), ?_⟩
  replace hR : (fun w : World => w.cell? ⟨p1, 0, none⟩ = some (.int .i64 1) ∧ w.cell? ⟨p1, 1, none⟩ = some (.int .i64 2) ∧ w.cell? ⟨p3, 0, none⟩ = some (.int .i64 0) ∧ w.cell? ⟨p3, 1, none⟩ = some (.int .i64 7)) W37 := ⟨(hb37.cell (block_lt_of_cell hR.1)).trans hR.1, (hb37.cell (block_lt_of_cell hR.2.1)).trans hR.2.1, (hb37.cell (block_lt_of_cell hR.2.2.1)).trans hR.2.2.1, (hb37.cell (block_lt_of_cell hR.2.2.2)).trans hR.2.2.2⟩
  replace hB := hB.trans (hb37.mono hB.size)
  clear n36
  clear hb37 W
  obtain ⟨W, rfl⟩ : ∃ W, W = W37 := ⟨_, rfl⟩
  refine AnyK.pick (i := 38) may_o (b := true) (v := .bool true) (by simp [hsz]) (by simp [hsz]) hR ?_
  refine AnyK.move (i := 39) may_o (v := .bool true) (by simp [hsz]) hR ?_
  refine AnyK.move (i := 40) may_o (v := .int .i64 0) (by simp [t12]) hR (hw := (by exact wanted_g (e := 81) (b' := true) rfl (by simp [hsz]) rfl)) ?_
  refine AnyK.bin (i := 41) may_o (u := .int .i64 0) (u' := .int .i64 (0)) (v := .bool true) (by simp [hsz]) (by simp) (fun w => eql27T rfl w) hR (hw := (by exact wanted_g (e := 81) (b' := true) rfl (by simp [hsz]) rfl)) ?_
  refine AnyK.pick (i := 42) may_o (b := true) (v := .bool true) (by simp [hsz]) (by simp [hsz]) hR ?_
  refine AnyK.move (i := 43) may_o (v := .bool true) (by simp [hsz]) hR ?_
  refine AnyK.move (i := 45) may_o (v := vo) (by simp [t10]) hR (hw := (by exact wanted_g (e := 85) (b' := true) rfl (by simp [hsz]) rfl)) ?_
  refine AnyK.move (i := 46) may_o (v := vd) (by simp [t11]) hR (hw := (by exact wanted_g (e := 85) (b' := true) rfl (by simp [hsz]) rfl)) ?_
  refine AnyK.pick1 (i := 44) (by kernel_rfl) ?_
  refine StepK.call (i := 44) (f := 35) (vs := #[.slice none 0 0]) rfl (enters_of Try.func35 (by kernel_rfl) rfl) (by simp) (by simp) ((four_nil _).mono ?_) (hw := (by exact wanted_g (e := 85) (b' := true) rfl (by simp [hsz]) rfl))
  rintro _ W44 ⟨A44, c44, rfl, hs44, hb44⟩
  refine ⟨_, rfl, (fun _ hw => ⟨(hb44.cell (block_lt_of_cell hw.1)).trans hw.1, (hb44.cell (block_lt_of_cell hw.2.1)).trans hw.2.1, (hb44.cell (block_lt_of_cell hw.2.2.1)).trans hw.2.2.1, (hb44.cell (block_lt_of_cell hw.2.2.2)).trans hw.2.2.2⟩), ?_⟩
  replace hR : (fun w : World => w.cell? ⟨p1, 0, none⟩ = some (.int .i64 1) ∧ w.cell? ⟨p1, 1, none⟩ = some (.int .i64 2) ∧ w.cell? ⟨p3, 0, none⟩ = some (.int .i64 0) ∧ w.cell? ⟨p3, 1, none⟩ = some (.int .i64 7)) W44 := ⟨(hb44.cell (block_lt_of_cell hR.1)).trans hR.1, (hb44.cell (block_lt_of_cell hR.2.1)).trans hR.2.1, (hb44.cell (block_lt_of_cell hR.2.2.1)).trans hR.2.2.1, (hb44.cell (block_lt_of_cell hR.2.2.2)).trans hR.2.2.2⟩
  replace hB := hB.trans (hb44.mono hB.size)
  clear hb44 W
  obtain ⟨W, rfl⟩ : ∃ W, W = W44 := ⟨_, rfl⟩
  refine AnyK.pick1 (i := 47) (by kernel_rfl) ?_
  refine StepK.call (i := 47) (f := 19) (vs := #[.agg #[.int .i64 4, .int .i64 10, .slice A44 fourL.length c44], vo, vd]) rfl (enters_of Try.func19 (by kernel_rfl) rfl) (by simp) (by simp [hsz]) ((hpr A44 c44 W hB hs44).mono ?_) (hw := (by exact wanted_g (e := 85) (b' := true) rfl (by simp [hsz]) rfl))
  rintro _ W47 ⟨rfl, hb47⟩
  refine ⟨_, rfl, (fun _ hw => ⟨(hb47.cell (block_lt_of_cell hw.1)).trans hw.1, (hb47.cell (block_lt_of_cell hw.2.1)).trans hw.2.1, (hb47.cell (block_lt_of_cell hw.2.2.1)).trans hw.2.2.1, (hb47.cell (block_lt_of_cell hw.2.2.2)).trans hw.2.2.2⟩), ?_⟩
  replace hR : (fun w : World => w.cell? ⟨p1, 0, none⟩ = some (.int .i64 1) ∧ w.cell? ⟨p1, 1, none⟩ = some (.int .i64 2) ∧ w.cell? ⟨p3, 0, none⟩ = some (.int .i64 0) ∧ w.cell? ⟨p3, 1, none⟩ = some (.int .i64 7)) W47 := ⟨(hb47.cell (block_lt_of_cell hR.1)).trans hR.1, (hb47.cell (block_lt_of_cell hR.2.1)).trans hR.2.1, (hb47.cell (block_lt_of_cell hR.2.2.1)).trans hR.2.2.1, (hb47.cell (block_lt_of_cell hR.2.2.2)).trans hR.2.2.2⟩
  replace hB := hB.trans (hb47.mono hB.size)
  clear hs44
  clear hb47 W
  obtain ⟨W, rfl⟩ : ∃ W, W = W47 := ⟨_, rfl⟩
  refine AnyK.pick (i := 48) may_o (b := true) (v := .bool true) (by simp [hsz]) (by simp [hsz]) hR ?_
  refine AnyK.assign (i := 49) may_o (v := .bool true) (by simp [hsz]) hR ?_
  refine AnyK.done (by kernel_rfl) (hK _ _ hB ?_ ?_ ?_)
  · simp only [size_put, hsz]
  · simp only [defers_put]
  · exact (by simp [hsz])

end
end Go.Proofs.Ytfcnombmphophaa
namespace Go.Proofs.Ytfcnombmphophaa
open Go.RowKit Go.Shelf
set_option maxRecDepth 100000 in
theorem wk_when {A : Option Addr} {c : Nat} {W : World} (hs : SalesAt W W.heap.size A fourL) : Calls Try.prog 29 #[.agg #[.int .i64 4, .int .i64 10, .slice A fourL.length c], .int .i64 0] W fun e w' => e = .returned (.tuple #[.agg #[.int .i64 1, .int .i64 2], .int .i64 0]) ∧ Below W.heap.size W w' := by
  have h := when_any 4 10 A fourL c 0 W (by decide) hs
  unfold WP at h
  rw [show whenV 4 10 fourL 0 = (1, 2) by decide +kernel, show whenE 4 10 fourL 0 = 0 by decide +kernel] at h
  exact h
set_option maxRecDepth 100000 in
theorem wk_holds {A : Option Addr} {c : Nat} {W : World} (hs : SalesAt W W.heap.size A fourL) : Calls Try.prog 32 #[.agg #[.int .i64 4, .int .i64 10, .slice A fourL.length c], .int .i64 3, .int .i64 4] W fun e w' => e = .returned (.tuple #[.agg #[.int .i64 0, .int .i64 7], .int .i64 0]) ∧ Below W.heap.size W w' := by
  have h := holds_api 4 10 A fourL c 3 4 W (by decide) hs
  unfold DP at h
  rw [show holdsV 4 10 fourL 3 4 = (0, 7) by decide +kernel, show holdsE 4 10 fourL 3 4 = 0 by decide +kernel] at h
  exact h
theorem RM.ri {W0 W : World} {ve vs : Value} {xe xs : List Int} (h : RM W0 ve vs xe xs W) : RI W ve xe ∧ RI W vs xs := ⟨OL.ints ⟨h.low, h.oe⟩, OL.ints ⟨h.low, h.os⟩⟩
set_option maxRecDepth 100000 in
theorem wk_reach {A : Option Addr} {c : Nat} {W : World} (hs : SalesAt W W.heap.size A fourL) : Calls Try.prog 33 #[.agg #[.int .i64 4, .int .i64 10, .slice A fourL.length c], .int .i64 2] W fun e w' => ∃ vc vs, e = .returned (.tuple #[vc, vs, .int .i64 0]) ∧ RI w' vc [0, 1, 2, 3] ∧ RI w' vs [1, 2] ∧ Below W.heap.size W w' := by
  refine (reach_any 4 10 A fourL c 2 W (by decide) hs).mono ?_
  rintro e w' ⟨ve, vs, rfl, h⟩
  rw [show reachE 4 10 fourL 2 = 0 by decide +kernel]
  rw [show reachC 4 10 fourL 2 = [0, 1, 2, 3] by decide +kernel, show reachS 4 10 fourL 2 = [1, 2] by decide +kernel] at h
  exact ⟨ve, vs, rfl, h.ri.1, h.ri.2, h.low⟩
def fiveL : List Sale := fourL ++ [⟨1, 0, 3, 1, 1⟩]
theorem four_five (b : Nat) (W : World) (h : Whole W b 61 (saleC ⟨1, 0, 3, 1, 1⟩)) : Calls Try.prog 35 #[.slice (some ⟨b, 0, none⟩) 1 1] W (QP W fiveL) := four_one _ b W h
set_option maxRecDepth 100000 in
theorem wk_blame {A : Option Addr} {c : Nat} {W : World} (hs : SalesAt W W.heap.size A fiveL) : Calls Try.prog 24 #[.agg #[.int .i64 4, .int .i64 10, .slice A fiveL.length c]] W fun e w' => ∃ vl, e = .returned (.tuple #[vl, .int .i64 0]) ∧ RI w' vl [4] ∧ Below W.heap.size W w' := by
  refine (blame_any 4 10 A _ c W (by decide) hs).mono ?_
  rintro e w' ⟨v, rfl, h, hb⟩
  rw [show fault 4 10 fiveL = 0 by decide +kernel]
  rw [show blameV 4 10 fiveL = [4] by decide +kernel] at h
  exact ⟨v, rfl, h, hb⟩
set_option maxRecDepth 100000 in
theorem wk_order {A : Option Addr} {c : Nat} {W : World} (hs : SalesAt W W.heap.size A fourL) : Calls Try.prog 23 #[.agg #[.int .i64 4, .int .i64 10, .slice A fourL.length c]] W fun e w' => ∃ vo vd xs ds, e = .returned (.tuple #[vo, vd, .int .i64 0]) ∧ RI w' vo xs ∧ RI w' vd ds ∧ proveB 4 10 fourL xs ds = true ∧ Below W.heap.size W w' := by
  have h0 : triedE 4 10 fourL true = 0 := by decide +kernel
  have hl : fourL.length ≤ 1000000 := by decide
  have h := order_any 4 10 A fourL c W hl hs
  generalize fourL = L at *
  refine h.mono ?_
  rintro e w' ⟨v1, v2, xs, ds, he, r1, r2, ho, hb⟩
  have hp := order_prove h0 ho
  clear ho
  exact ⟨v1, v2, xs, ds, by rw [he, h0], r1, r2, hp, hb⟩
theorem wk_prove {A : Option Addr} {c : Nat} {W W0 : World} {vo vd : Value} {xs ds : List Int} (h1 : RI W0 vo xs) (h2 : RI W0 vd ds) (hp : proveB 4 10 fourL xs ds = true) (hb : Below W0.heap.size W0 W) (hs : SalesAt W W.heap.size A fourL) :
    Calls Try.prog 19 #[.agg #[.int .i64 4, .int .i64 10, .slice A fourL.length c], vo, vd] W fun e w' => e = .returned (.bool true) ∧ Below W.heap.size W w' := by
  obtain ⟨A1, c1, rfl, _, i1⟩ := h1.below hb
  obtain ⟨A2, c2, rfl, _, i2⟩ := h2.below hb
  have h := prove_any 4 10 A A1 A2 fourL c c1 c2 xs ds W (by decide) hs i1 i2
  rw [hp] at h
  exact h
theorem sa46 {w : World} {x y : Int} : (Instr.storeAt 46 (.pointer (some ⟨w.heap.size, 0, none⟩)) (.agg #[.int .i64 x, .int .i64 y])).run Try.prog (w.alloc (.cells #[.int .i64 0, .int .i64 0] 46)) = .ok () (((w.alloc (.cells #[.int .i64 0, .int .i64 0] 46)).setCell ⟨w.heap.size, 0, none⟩ (.int .i64 x)).setCell ⟨w.heap.size, 1, none⟩ (.int .i64 y)) := by
  have h := Whole.new w 46 #[.int .i64 0, .int .i64 0]
  exact st46 (h.cell 0) (h.cell 1) (h.frozen 0) (h.frozen 1)
theorem put46 (w : World) (x y : Int) : Whole (((w.alloc (.cells #[.int .i64 0, .int .i64 0] 46)).setCell ⟨w.heap.size, 0, none⟩ (.int .i64 x)).setCell ⟨w.heap.size, 1, none⟩ (.int .i64 y)) w.heap.size 46 #[.int .i64 x, .int .i64 y] ∧
    Below w.heap.size w (((w.alloc (.cells #[.int .i64 0, .int .i64 0] 46)).setCell ⟨w.heap.size, 0, none⟩ (.int .i64 x)).setCell ⟨w.heap.size, 1, none⟩ (.int .i64 y)) :=
  ⟨((Whole.new w 46 #[.int .i64 0, .int .i64 0]).set 0 (.int .i64 x)).set 1 (.int .i64 y), (((Below.refl _ w).alloc (Nat.le_refl _) _).setCell (p := ⟨w.heap.size, 0, none⟩) (Nat.le_refl _) _).setCell (p := ⟨w.heap.size, 1, none⟩) (Nat.le_refl _) _⟩
theorem bs29_1v (s : Sale) (w : World) : (Instr.buildSlice 29 1 #[(0, saleV s)]).run Try.prog w = .ok (.slice (some ⟨w.heap.size, 0, none⟩) 1 1) (w.alloc (.cells (saleC s) 61)) := by
  kernel_rfl
theorem ex3_0 (u v x : Value) (w : World) : (Instr.extract (.tuple #[u, v, x]) 0).run Try.prog w = .ok u w := by
  go_simp
theorem ex3_1 (u v x : Value) (w : World) : (Instr.extract (.tuple #[u, v, x]) 1).run Try.prog w = .ok v w := by
  go_simp
theorem ex3_2 (u v x : Value) (w : World) : (Instr.extract (.tuple #[u, v, x]) 2).run Try.prog w = .ok x w := by
  go_simp

noncomputable def opsU0 : Array Oper := (Try.f16.body.bind (regionOf 0)).getD #[]
noncomputable def opsU1 : Array Oper := (Try.f16.body.bind (regionOf 1)).getD #[]
noncomputable def opsU2 : Array Oper := (Try.f16.body.bind (regionOf 2)).getD #[]
noncomputable def opsU3 : Array Oper := (Try.f16.body.bind (regionOf 3)).getD #[]
noncomputable def opsU4 : Array Oper := (Try.f16.body.bind (regionOf 4)).getD #[]
noncomputable def opsU5 : Array Oper := (Try.f16.body.bind (regionOf 5)).getD #[]
noncomputable def code16 : Code := .seq (.region 0 opsU0 false) (.seq (.region 1 opsU1 false) (.seq (.region 2 opsU2 false) (.seq (.region 3 opsU3 false) (.seq (.region 4 opsU4 false) (.seq (.region 5 opsU5 false) (.seq (.region 6 opsU6 true) .ret))))))
theorem body16 : Try.f16.body = some code16 := by kernel_rfl

set_option maxRecDepth 10000 in
set_option maxHeartbeats 2000000 in
theorem wakes_any (W : World) : Calls Try.prog 16 #[] W fun e w' => e = .returned (.bool true) ∧ Below W.heap.size W w' := by
  refine (callsIn_wide (n := 5)).1 (callsIn_of_wp Try.func16 body16 trivial ?_ rfl)
  obtain ⟨a, ha⟩ : ∃ a : Act, a = { tmps := #[] ++ Array.replicate (Try.f16.ntmps - (#[] : Array Value).size) undef, defers := [] } := ⟨_, rfl⟩
  have hsz : a.tmps.size = 91 := by rw [ha]; simp [Try.ntmps16]
  have hdf : a.defers = [] := by rw [ha]
  rw [← ha]
  clear ha
  unfold code16
  refine wpIn_seq (region_p 1 ?_)
  intro K hK
  refine ListK.assign (i := 0) (v := .bool false) rfl (by simp) ?_
  refine ListK.done (hK _ _ ?_)
  clear hK K
  generalize hA : Act.put _ _ _ = a0
  have hz_a0 : a0.tmps.size = 91 := by rw [← hA]; simp only [size_put, hsz]
  have hd_a0 : a0.defers = [] := by rw [← hA]; simp only [defers_put, hdf]
  clear hA
  refine wpIn_seq (region_p 8 ?_)
  intro K hK
  refine ListK.call (i := 0) (vs := #[.slice none 0 0]) rfl (enters_of Try.func35 (by kernel_rfl) rfl) (by simp) (((four_nil W)).mono ?_)
  rintro _ W1 ⟨A, c, rfl, hs, hb1⟩
  refine ⟨_, rfl, ?_⟩
  refine ListK.call (i := 1) (vs := #[.agg #[.int .i64 4, .int .i64 10, .slice A fourL.length c], .int .i64 0]) rfl (enters_of Try.func29 (by kernel_rfl) rfl) (by simp [hz_a0]) (((wk_when hs)).mono ?_)
  rintro _ W2 ⟨rfl, hb2⟩
  refine ⟨_, rfl, ?_⟩
  refine ListK.move (i := 2) (v := .tuple #[.agg #[.int .i64 1, .int .i64 2], .int .i64 0]) rfl (by simp [hz_a0]) ?_
  refine ListK.extract (i := 3) (u := .tuple #[.agg #[.int .i64 1, .int .i64 2], .int .i64 0]) (v := .agg #[.int .i64 1, .int .i64 2]) rfl (by simp [hz_a0]) (ex0 _ _ _) ?_
  refine ListK.extract (i := 4) (u := .tuple #[.agg #[.int .i64 1, .int .i64 2], .int .i64 0]) (v := .int .i64 0) rfl (by simp [hz_a0]) (ex1 _ _ _) ?_
  refine ListK.alloc (i := 5) rfl (al46 W2) ?_
  refine ListK.store (i := 6) (u := .pointer (some ⟨W2.heap.size, 0, none⟩)) (u' := .agg #[.int .i64 1, .int .i64 2]) rfl (by simp [hz_a0]) (by simp [hz_a0]) sa46 ?_
  refine ListK.assign (i := 7) (v := .int .i64 0) rfl (by simp [hz_a0]) ?_
  refine ListK.done (hK _ _ ?_)
  clear hK K
  have hB1 : Below W.heap.size W W2 := hb1.trans (hb2.mono hb1.size)
  obtain ⟨w1, hb3⟩ := put46 W2 1 2
  have hB2 := hB1.trans (hb3.mono hB1.size)
  generalize W2.heap.size = p1 at *
  generalize ((W2.alloc (.cells #[.int .i64 0, .int .i64 0] 46)).setCell ⟨p1, 0, none⟩ (.int .i64 1)).setCell ⟨p1, 1, none⟩ (.int .i64 2) = W3 at *
  generalize hA : Act.put _ _ _ = a1
  have hz_a1 : a1.tmps.size = 91 := by rw [← hA]; simp only [size_put, hz_a0]
  have u1 : a1.eval (.tmp 1) = .pointer (some ⟨p1, 0, none⟩) := by rw [← hA]; exact (by simp [hz_a0])
  have u2 : a1.eval (.tmp 2) = .int .i64 0 := by rw [← hA]; exact (by simp [hz_a0])
  have hd_a1 : a1.defers = [] := by rw [← hA]; simp only [defers_put, hd_a0]
  clear hA
  clear hb1 hb2 hb3 hB1 hs A c W1 W2
  refine wpIn_seq (region_p 8 ?_)
  intro K hK
  refine ListK.call (i := 0) (vs := #[.slice none 0 0]) rfl (enters_of Try.func35 (by kernel_rfl) rfl) (by simp) (((four_nil W3)).mono ?_)
  rintro _ W4 ⟨A, c, rfl, hs, hb1⟩
  refine ⟨_, rfl, ?_⟩
  refine ListK.call (i := 1) (vs := #[.agg #[.int .i64 4, .int .i64 10, .slice A fourL.length c], .int .i64 3, .int .i64 4]) rfl (enters_of Try.func32 (by kernel_rfl) rfl) (by simp [hz_a1]) (((wk_holds hs)).mono ?_)
  rintro _ W5 ⟨rfl, hb2⟩
  refine ⟨_, rfl, ?_⟩
  refine ListK.move (i := 2) (v := .tuple #[.agg #[.int .i64 0, .int .i64 7], .int .i64 0]) rfl (by simp [hz_a1]) ?_
  refine ListK.extract (i := 3) (u := .tuple #[.agg #[.int .i64 0, .int .i64 7], .int .i64 0]) (v := .agg #[.int .i64 0, .int .i64 7]) rfl (by simp [hz_a1]) (ex0 _ _ _) ?_
  refine ListK.extract (i := 4) (u := .tuple #[.agg #[.int .i64 0, .int .i64 7], .int .i64 0]) (v := .int .i64 0) rfl (by simp [hz_a1]) (ex1 _ _ _) ?_
  refine ListK.alloc (i := 5) rfl (al46 W5) ?_
  refine ListK.store (i := 6) (u := .pointer (some ⟨W5.heap.size, 0, none⟩)) (u' := .agg #[.int .i64 0, .int .i64 7]) rfl (by simp [hz_a1]) (by simp [hz_a1]) sa46 ?_
  refine ListK.assign (i := 7) (v := .int .i64 0) rfl (by simp [hz_a1]) ?_
  refine ListK.done (hK _ _ ?_)
  clear hK K
  have hB1 : Below W3.heap.size W3 W5 := hb1.trans (hb2.mono hb1.size)
  obtain ⟨w3, hb3⟩ := put46 W5 0 7
  have hB3 := hB1.trans (hb3.mono hB1.size)
  replace w1 := w1.below hB3 w1.lt
  replace hB2 := hB2.trans (hB3.mono hB2.size)
  generalize W5.heap.size = p3 at *
  generalize ((W5.alloc (.cells #[.int .i64 0, .int .i64 0] 46)).setCell ⟨p3, 0, none⟩ (.int .i64 0)).setCell ⟨p3, 1, none⟩ (.int .i64 7) = W6 at *
  generalize hA : Act.put _ _ _ = a2
  have hz_a2 : a2.tmps.size = 91 := by rw [← hA]; simp only [size_put, hz_a1]
  have v1 : a2.eval (.tmp 1) = .pointer (some ⟨p1, 0, none⟩) := by rw [← hA]; exact (by simp [u1])
  have v2 : a2.eval (.tmp 2) = .int .i64 0 := by rw [← hA]; exact (by simp [u2])
  have v3 : a2.eval (.tmp 3) = .pointer (some ⟨p3, 0, none⟩) := by rw [← hA]; exact (by simp [hz_a1])
  have v4 : a2.eval (.tmp 4) = .int .i64 0 := by rw [← hA]; exact (by simp [hz_a1])
  have hd_a2 : a2.defers = [] := by rw [← hA]; simp only [defers_put, hd_a1]
  clear hA
  clear hb1 hb2 hb3 hB1 hB3 hs A c W3 W4 W5
  refine wpIn_seq (region_p 9 ?_)
  intro K hK
  refine ListK.call (i := 0) (vs := #[.slice none 0 0]) rfl (enters_of Try.func35 (by kernel_rfl) rfl) (by simp) (((four_nil W6)).mono ?_)
  rintro _ W7 ⟨A, c, rfl, hs, hb1⟩
  refine ⟨_, rfl, ?_⟩
  refine ListK.call (i := 1) (vs := #[.agg #[.int .i64 4, .int .i64 10, .slice A fourL.length c], .int .i64 2]) rfl (enters_of Try.func33 (by kernel_rfl) rfl) (by simp [hz_a2]) (((wk_reach hs)).mono ?_)
  rintro _ W8 ⟨vc, vs, rfl, hvc, hvs, hb2⟩
  refine ⟨_, rfl, ?_⟩
  refine ListK.move (i := 2) (v := .tuple #[vc, vs, .int .i64 0]) rfl (by simp [hz_a2]) ?_
  refine ListK.extract (i := 3) (u := .tuple #[vc, vs, .int .i64 0]) (v := vc) rfl (by simp [hz_a2]) (ex3_0 _ _ _ _) ?_
  refine ListK.extract (i := 4) (u := .tuple #[vc, vs, .int .i64 0]) (v := vs) rfl (by simp [hz_a2]) (ex3_1 _ _ _ _) ?_
  refine ListK.extract (i := 5) (u := .tuple #[vc, vs, .int .i64 0]) (v := .int .i64 0) rfl (by simp [hz_a2]) (ex3_2 _ _ _ _) ?_
  refine ListK.assign (i := 6) (v := vc) rfl (by simp [hz_a2]) ?_
  refine ListK.assign (i := 7) (v := vs) rfl (by simp [hz_a2]) ?_
  refine ListK.assign (i := 8) (v := .int .i64 0) rfl (by simp [hz_a2]) ?_
  refine ListK.done (hK _ _ ?_)
  clear hK K
  have hB3 : Below W6.heap.size W6 W8 := hb1.trans (hb2.mono hb1.size)
  replace w1 := w1.below hB3 w1.lt
  replace w3 := w3.below hB3 w3.lt
  replace hB2 := hB2.trans (hB3.mono hB2.size)
  generalize hA : Act.put _ _ _ = a3
  have hz_a3 : a3.tmps.size = 91 := by rw [← hA]; simp only [size_put, hz_a2]
  have q1 : a3.eval (.tmp 1) = .pointer (some ⟨p1, 0, none⟩) := by rw [← hA]; exact (by simp [v1])
  have q2 : a3.eval (.tmp 2) = .int .i64 0 := by rw [← hA]; exact (by simp [v2])
  have q3 : a3.eval (.tmp 3) = .pointer (some ⟨p3, 0, none⟩) := by rw [← hA]; exact (by simp [v3])
  have q4 : a3.eval (.tmp 4) = .int .i64 0 := by rw [← hA]; exact (by simp [v4])
  have q5 : a3.eval (.tmp 5) = vc := by rw [← hA]; exact (by simp [hz_a2])
  have q6 : a3.eval (.tmp 6) = vs := by rw [← hA]; exact (by simp [hz_a2])
  have q7 : a3.eval (.tmp 7) = .int .i64 0 := by rw [← hA]; exact (by simp [hz_a2])
  have hd_a3 : a3.defers = [] := by rw [← hA]; simp only [defers_put, hd_a2]
  clear hA
  clear hb1 hb2 hB3 hs A c W6 W7
  refine wpIn_seq (region_p 9 ?_)
  intro K hK
  refine ListK.call (i := 0) (vs := #[.int .i64 1, .int .i64 0, .int .i64 3, .int .i64 1, .int .i64 1]) rfl (enters_of Try.func37 (by kernel_rfl) rfl) (by simp) (((mksale_any _ _ _ _ _ W8)).mono ?_)
  rintro _ W9 ⟨rfl, hb0⟩
  refine ⟨_, rfl, ?_⟩
  refine ListK.bsl (i := 1) (ps := #[(0, saleV ⟨1, 0, 3, 1, 1⟩)]) (v := .slice (some ⟨W9.heap.size, 0, none⟩) 1 1) rfl (by simp [hz_a3]) (bs29_1v _ W9) ?_
  refine ListK.call (i := 2) (vs := #[.slice (some ⟨W9.heap.size, 0, none⟩) 1 1]) rfl (enters_of Try.func35 (by kernel_rfl) rfl) (by simp [hz_a3]) (((four_five W9.heap.size _ (Whole.new W9 61 _))).mono ?_)
  rintro _ W10 ⟨A, c, rfl, hs, hb1⟩
  refine ⟨_, rfl, ?_⟩
  refine ListK.call (i := 3) (vs := #[.agg #[.int .i64 4, .int .i64 10, .slice A fiveL.length c]]) rfl (enters_of Try.func24 (by kernel_rfl) rfl) (by simp [hz_a3]) (((wk_blame hs)).mono ?_)
  rintro _ W11 ⟨vl, rfl, hvl, hb2⟩
  refine ⟨_, rfl, ?_⟩
  refine ListK.move (i := 4) (v := .tuple #[vl, .int .i64 0]) rfl (by simp [hz_a3]) ?_
  refine ListK.extract (i := 5) (u := .tuple #[vl, .int .i64 0]) (v := vl) rfl (by simp [hz_a3]) (ex0 _ _ _) ?_
  refine ListK.extract (i := 6) (u := .tuple #[vl, .int .i64 0]) (v := .int .i64 0) rfl (by simp [hz_a3]) (ex1 _ _ _) ?_
  refine ListK.assign (i := 7) (v := vl) rfl (by simp [hz_a3]) ?_
  refine ListK.assign (i := 8) (v := .int .i64 0) rfl (by simp [hz_a3]) ?_
  refine ListK.done (hK _ _ ?_)
  clear hK K
  have hB3 : Below W8.heap.size W8 W11 := ((hb0.alloc hb0.size _).trans (hb1.mono (by have := hb0.size; simp; omega))).trans (hb2.mono (by have := hb0.size; have := hb1.size; simp at this; omega))
  replace w1 := w1.below hB3 w1.lt
  replace w3 := w3.below hB3 w3.lt
  replace hvc := hvc.below hB3
  replace hvs := hvs.below hB3
  replace hB2 := hB2.trans (hB3.mono hB2.size)
  generalize hA : Act.put _ _ _ = a4
  have hz_a4 : a4.tmps.size = 91 := by rw [← hA]; simp only [size_put, hz_a3]
  have x1 : a4.eval (.tmp 1) = .pointer (some ⟨p1, 0, none⟩) := by rw [← hA]; exact (by simp [q1])
  have x2 : a4.eval (.tmp 2) = .int .i64 0 := by rw [← hA]; exact (by simp [q2])
  have x3 : a4.eval (.tmp 3) = .pointer (some ⟨p3, 0, none⟩) := by rw [← hA]; exact (by simp [q3])
  have x4 : a4.eval (.tmp 4) = .int .i64 0 := by rw [← hA]; exact (by simp [q4])
  have x5 : a4.eval (.tmp 5) = vc := by rw [← hA]; exact (by simp [q5])
  have x6 : a4.eval (.tmp 6) = vs := by rw [← hA]; exact (by simp [q6])
  have x7 : a4.eval (.tmp 7) = .int .i64 0 := by rw [← hA]; exact (by simp [q7])
  have x8 : a4.eval (.tmp 8) = vl := by rw [← hA]; exact (by simp [hz_a3])
  have x9 : a4.eval (.tmp 9) = .int .i64 0 := by rw [← hA]; exact (by simp [hz_a3])
  have hd_a4 : a4.defers = [] := by rw [← hA]; simp only [defers_put, hd_a3]
  clear hA
  clear hb0 hb1 hb2 hB3 hs A c W8 W9 W10
  refine wpIn_seq (region_p 9 ?_)
  intro K hK
  refine ListK.call (i := 0) (vs := #[.slice none 0 0]) rfl (enters_of Try.func35 (by kernel_rfl) rfl) (by simp) (((four_nil W11)).mono ?_)
  rintro _ W12 ⟨A, c, rfl, hs, hb1⟩
  refine ⟨_, rfl, ?_⟩
  refine ListK.call (i := 1) (vs := #[.agg #[.int .i64 4, .int .i64 10, .slice A fourL.length c]]) rfl (enters_of Try.func23 (by kernel_rfl) rfl) (by simp [hz_a4]) (((wk_order hs)).mono ?_)
  rintro _ W13 ⟨vo, vd, xs, ds, rfl, hvo, hvd, hpr, hb2⟩
  refine ⟨_, rfl, ?_⟩
  refine ListK.move (i := 2) (v := .tuple #[vo, vd, .int .i64 0]) rfl (by simp [hz_a4]) ?_
  refine ListK.extract (i := 3) (u := .tuple #[vo, vd, .int .i64 0]) (v := vo) rfl (by simp [hz_a4]) (ex3_0 _ _ _ _) ?_
  refine ListK.extract (i := 4) (u := .tuple #[vo, vd, .int .i64 0]) (v := vd) rfl (by simp [hz_a4]) (ex3_1 _ _ _ _) ?_
  refine ListK.extract (i := 5) (u := .tuple #[vo, vd, .int .i64 0]) (v := .int .i64 0) rfl (by simp [hz_a4]) (ex3_2 _ _ _ _) ?_
  refine ListK.assign (i := 6) (v := vo) rfl (by simp [hz_a4]) ?_
  refine ListK.assign (i := 7) (v := vd) rfl (by simp [hz_a4]) ?_
  refine ListK.assign (i := 8) (v := .int .i64 0) rfl (by simp [hz_a4]) ?_
  refine ListK.done (hK _ _ ?_)
  clear hK K
  have hB3 : Below W11.heap.size W11 W13 := hb1.trans (hb2.mono hb1.size)
  replace w1 := w1.below hB3 w1.lt
  replace w3 := w3.below hB3 w3.lt
  replace hvc := hvc.below hB3
  replace hvs := hvs.below hB3
  replace hvl := hvl.below hB3
  replace hB2 := hB2.trans (hB3.mono hB2.size)
  generalize hA : Act.put _ _ _ = a5
  have hz_a5 : a5.tmps.size = 91 := by rw [← hA]; simp only [size_put, hz_a4]
  have y1 : a5.eval (.tmp 1) = .pointer (some ⟨p1, 0, none⟩) := by rw [← hA]; exact (by simp [x1])
  have y2 : a5.eval (.tmp 2) = .int .i64 0 := by rw [← hA]; exact (by simp [x2])
  have y3 : a5.eval (.tmp 3) = .pointer (some ⟨p3, 0, none⟩) := by rw [← hA]; exact (by simp [x3])
  have y4 : a5.eval (.tmp 4) = .int .i64 0 := by rw [← hA]; exact (by simp [x4])
  have y5 : a5.eval (.tmp 5) = vc := by rw [← hA]; exact (by simp [x5])
  have y6 : a5.eval (.tmp 6) = vs := by rw [← hA]; exact (by simp [x6])
  have y7 : a5.eval (.tmp 7) = .int .i64 0 := by rw [← hA]; exact (by simp [x7])
  have y8 : a5.eval (.tmp 8) = vl := by rw [← hA]; exact (by simp [x8])
  have y9 : a5.eval (.tmp 9) = .int .i64 0 := by rw [← hA]; exact (by simp [x9])
  have y10 : a5.eval (.tmp 10) = vo := by rw [← hA]; exact (by simp [hz_a4])
  have y11 : a5.eval (.tmp 11) = vd := by rw [← hA]; exact (by simp [hz_a4])
  have y12 : a5.eval (.tmp 12) = .int .i64 0 := by rw [← hA]; exact (by simp [hz_a4])
  have hd_a5 : a5.defers = [] := by rw [← hA]; simp only [defers_put, hd_a4]
  clear hA
  clear hb1 hb2 hB3 hs A c W11 W12
  refine wpIn_seq (regionU6 (wideF_plain _) hz_a5 y1 y2 y3 y4 y5 y6 y7 y8 y9 y10 y11 y12 (w1.cell 0) (w1.cell 1) (w3.cell 0) (w3.cell 1) hvc hvs hvl (fun A c W' hb hs => wk_prove hvo hvd hpr hb hs) ?_)
  intro a6 W14 hb hz6 hd6 h0
  refine wpIn_ret ?_
  show bodyPost Try.prog Try.f16 (fun e w' => e = .returned (.bool true) ∧ Below W.heap.size W w') Exit.ret _ _
  exact bodyPost_ret (v := .bool true) (res1 Try.results16 h0) (hd6.trans hd_a5) ⟨rfl, hB2.trans (hb.mono hB2.size)⟩
end Go.Proofs.Ytfcnombmphophaa
namespace Go.Proofs.Ytfcnombmphophaa
open Go.RowKit Go.Shelf
section
variable {P : Program} {ops : Array Oper} {Q : Exit → Act → World → Prop} {md : Region.Mode}
/-- How many operations are not listed yet. -/
def leftOf (listed : Array Bool) : Nat → Nat
  | 0 => 0
  | k + 1 => leftOf listed k + if listed.getD k true = false then 1 else 0
theorem leftOf_set {listed : Array Bool} {i : Nat} (h : listed.getD i true = false) : ∀ k, leftOf (listed.setIfInBounds i true) k + (if i < k then 1 else 0) = leftOf listed k
  | 0 => rfl
  | k + 1 => by
    have ih := leftOf_set h k
    have hi : i < listed.size := by
      by_cases hlt : i < listed.size
      · exact hlt
      · simp [hlt] at h
    have hu : ∀ A : Array Bool, leftOf A (k + 1) = leftOf A k + if A.getD k true = false then 1 else 0 := fun _ => rfl
    rw [hu, hu]
    by_cases e : k = i
    · subst e
      have e1 : (if k < k then 1 else 0) = 0 := if_neg (by omega)
      have e2 : (if k < k + 1 then 1 else 0) = 1 := if_pos (by omega)
      have e3 : (if (listed.setIfInBounds k true).getD k true = false then 1 else 0) = 0 := if_neg (by simp [hi])
      have e4 : (if listed.getD k true = false then 1 else 0) = 1 := if_pos h
      omega
    · have e0 : (listed.setIfInBounds i true).getD k true = listed.getD k true := by
        simp [Ne.symm e, Array.getD_eq_getD_getElem?]
      rw [e0]
      by_cases h2 : i < k
      · have e1 : (if i < k then 1 else 0) = 1 := if_pos h2
        have e2 : (if i < k + 1 then 1 else 0) = 1 := if_pos (by omega)
        omega
      · have e1 : (if i < k then 1 else 0) = 0 := if_neg h2
        have e2 : (if i < k + 1 then 1 else 0) = 0 := if_neg (by omega)
        omega
theorem AnyG.inv {Kp : Nat → World → World → Prop} (S : Array Bool → Act → World → Prop)
    (hstep : ∀ listed a w i, S listed a w → i ∈ Region.ready md ops listed → opG P ops Q i (fun a' w' => Kp i w w' ∧ S (listed.setIfInBounds i true) a' w') a w)
    (hdone : ∀ listed a w, S listed a w → Region.ready md ops listed = [] → Q .normal a w) : ∀ (fuel : Nat) (listed : Array Bool) (a : Act) (w : World), S listed a w → leftOf listed ops.size ≤ fuel → AnyG P md ops Q Kp fuel listed a w
  | 0, listed, a, w, hS, hf => by
    have hr : Region.ready md ops listed = [] := by
      cases h : Region.ready md ops listed with
      | nil => rfl
      | cons i r =>
        have hi : i ∈ Region.ready md ops listed := by rw [h]; exact List.mem_cons_self
        obtain ⟨h1, o, ho, _⟩ := mem_ready.1 hi
        have := leftOf_set h1 ops.size
        rw [if_pos (Array.getElem?_eq_some_iff.1 ho).1] at this
        omega
    exact ⟨hr, hdone _ _ _ hS hr⟩
  | fuel + 1, listed, a, w, hS, hf => by
    refine ⟨hdone _ _ _ hS, fun i hi => ?_⟩
    obtain ⟨h1, o, ho, _⟩ := mem_ready.1 hi
    have hl := leftOf_set h1 ops.size
    rw [if_pos (Array.getElem?_eq_some_iff.1 ho).1] at hl
    refine opG_mono ?_ (hstep listed a w i hS hi)
    rintro a' w' ⟨hk, hS'⟩
    exact ⟨hk, AnyG.inv S hstep hdone fuel _ a' w' hS' (by omega)⟩
end

/-- The words on the slots: number by number. -/
abbrev Words := List (Value → World → Prop)
def Words.at_ (L : Words) (i : Nat) : Value → World → Prop := (L[i]?).getD (fun _ _ => True)
def StableW (p : Value → World → Prop) : Prop := ∀ v w w', p v w → Below w.heap.size w w' → p v w'
/-- The slots that the operations write: all, once each. -/
def dstsB (ops : Array Oper) (N : Nat) : Bool := (List.range ops.size).all fun i => match ops[i]? with
  | some o => (match o.dst with | some d => decide (d < N) && (List.range ops.size).all (fun j => j == i || match ops[j]? with | some oj => oj.dst != some d | none => true) | none => false)
  | none => true
theorem dsts_spec {ops : Array Oper} {N i : Nat} {o : Oper} (h : dstsB ops N = true) (hi : ops[i]? = some o) : ∃ d, o.dst = some d ∧ d < N ∧ ∀ j oj, ops[j]? = some oj → j ≠ i → oj.dst ≠ some d := by
  have h1 := List.all_eq_true.1 h i (List.mem_range.2 (Array.getElem?_eq_some_iff.1 hi).1)
  simp only [hi] at h1
  cases hd : o.dst with
  | none => simp [hd] at h1
  | some d =>
    simp only [hd, Bool.and_eq_true, decide_eq_true_eq] at h1
    refine ⟨d, rfl, h1.1, fun j oj hj hne => ?_⟩
    have h2 := List.all_eq_true.1 h1.2 j (List.mem_range.2 (Array.getElem?_eq_some_iff.1 hj).1)
    simp only [hj, Bool.or_eq_true, beq_iff_eq, bne_iff_ne] at h2
    rcases h2 with h2 | h2
    · exact absurd h2 hne
    · exact h2

section
variable {P : Program} {ops : Array Oper} {L : Words}
/-- What an operation that is carried out must leave. -/
def OpW (P : Program) (p : Value → World → Prop) (o : Oper) (d : Nat) (a : Act) (w : World) : Prop :=
  o.wp P a w (fun a' w' => ∃ v, a' = a.put (some d) v ∧ p v w' ∧ Below w.heap.size w w') (fun _ _ _ => False)
def OpS (P : Program) (ops : Array Oper) (p : Value → World → Prop) (o : Oper) (d : Nat) (a : Act) (w : World) : Prop :=
  if Region.wanted o (yielded ops a.tmps) = true then OpW P p o d a w else p undef w
/-- An operation keeps its word, if those for which it waits keep theirs. -/
def OpOk (P : Program) (ops : Array Oper) (L : Words) (N : Nat) (a0 : Act) (w0 : World) (i : Nat) : Prop :=
  ∀ (o : Oper) (d : Tmp), ops[i]? = some o → o.dst = some d → ∀ (a : Act) (w : World), a.tmps.size = N → Below w0.heap.size w0 w → (∀ e : Tmp, (∀ (j : Nat) (oj : Oper), ops[j]? = some oj → oj.dst ≠ some e) → a.eval (.tmp e) = a0.eval (.tmp e)) →
    (∀ (j : Nat) (oj : Oper) (dj : Tmp), ops[j]? = some oj → oj.dst = some dj → waitsB .any o j = true → L.at_ j (a.eval (.tmp dj)) w) → OpS P ops (L.at_ i) o d a w
structure SInv (ops : Array Oper) (L : Words) (N : Nat) (a0 : Act) (w0 : World) (listed : Array Bool) (a : Act) (w : World) : Prop where
  sz : a.tmps.size = N
  df : a.defers = a0.defers
  low : Below w0.heap.size w0 w
  ls : listed.size = ops.size
  rest : ∀ e : Tmp, (∀ (j : Nat) (oj : Oper), ops[j]? = some oj → oj.dst ≠ some e) → a.eval (.tmp e) = a0.eval (.tmp e)
  slots : ∀ (j : Nat) (oj : Oper) (dj : Tmp), ops[j]? = some oj → oj.dst = some dj → listed[j]? = some true → L.at_ j (a.eval (.tmp dj)) w

theorem SInv.step {N : Nat} {a0 : Act} {w0 : World} {Q : Exit → Act → World → Prop} (hd : dstsB ops N = true) (hst : ∀ i, StableW (L.at_ i)) (hop : ∀ i, i < ops.size → OpOk P ops L N a0 w0 i)
    (hQ : LetsOut (fun _ _ _ => False) → LetsOut Q) {listed : Array Bool} {a : Act} {w : World} {i : Nat} (hS : SInv ops L N a0 w0 listed a w) (hi : i ∈ Region.ready .any ops listed) :
    opG P ops Q i (fun a' w' => True ∧ SInv ops L N a0 w0 (listed.setIfInBounds i true) a' w') a w := by
  obtain ⟨h1, o, ho, hall⟩ := mem_ready.1 hi
  obtain ⟨d, hod, hdN, hdu⟩ := dsts_spec hd ho
  have hlt := (Array.getElem?_eq_some_iff.1 ho).1
  have hdeps : ∀ j oj dj, ops[j]? = some oj → oj.dst = some dj → waitsB .any o j = true → L.at_ j (a.eval (.tmp dj)) w := by
    intro j oj dj hj hdj hw
    obtain ⟨e, he, hb, rfl⟩ := waits_iff.1 hw
    have h2 := hall e he hb
    refine hS.slots _ oj dj hj hdj ?_
    have hlt2 := (Array.getElem?_eq_some_iff.1 hj).1
    rw [← hS.ls] at hlt2
    simp [hlt2] at h2 ⊢
    exact h2
  have hok := hop i hlt o d ho hod a w hS.sz hS.low hS.rest hdeps
  have hput : ∀ v w', L.at_ i v w' → Below w.heap.size w w' → SInv ops L N a0 w0 (listed.setIfInBounds i true) (a.put (some d) v) w' := by
    intro v w' hv hb
    refine ⟨by rw [size_put]; exact hS.sz, by rw [defers_put]; exact hS.df, hS.low.trans (hb.mono hS.low.size), by simp [hS.ls], fun e he => ?_, fun j oj dj hj hdj hl => ?_⟩
    · rw [ev_ne (by rintro rfl; exact he i o ho hod)]
      exact hS.rest e he
    · by_cases e : j = i
      · subst e
        rw [ho] at hj
        cases hj
        rw [hod] at hdj
        cases hdj
        rw [ev_same (by rw [hS.sz]; exact hdN)]
        exact hv
      · have hne : dj ≠ d := by
          rintro rfl
          exact hdu j oj hj e hdj
        rw [ev_ne hne]
        have hl' : listed[j]? = some true := by
          rw [Array.getElem?_setIfInBounds, if_neg (Ne.symm e)] at hl
          exact hl
        exact hst j _ _ _ (hS.slots j oj dj hj hdj hl') hb
  unfold OpS at hok
  unfold opG
  simp only [ho]
  split
  · rename_i hw
    rw [if_pos hw] at hok
    unfold OpW at hok
    unfold Oper.wp at *
    generalize (execOp a.eval o).run P w = r at *
    cases r with
    | ok x w' =>
      cases x <;> simp only [Oper.upon] at hok ⊢ <;>
        first
          | (obtain ⟨v, e1, e2, e3⟩ := hok
             rw [e1]
             exact ⟨trivial, hput v _ e2 e3⟩)
          | (refine Calls.mono hok (fun e w'' he => ?_)
             cases e with
             | returned u =>
               obtain ⟨v, e1, e2, e3⟩ := he
               show True ∧ SInv ops L N a0 w0 _ (a.put o.dst u) w''
               rw [e1]
               exact ⟨trivial, hput v _ e2 e3⟩
             | panicked c => exact he.elim
             | outgrown => exact hQ he)
          | (refine Rows.mono hok (fun u w'' he => ?_)
             obtain ⟨v, e1, e2, e3⟩ := he
             rw [e1]
             exact ⟨trivial, hput v _ e2 e3⟩)
          | exact hok.elim
    | halt x w' => cases x <;> simp only [Oper.upon] at hok ⊢
  · rename_i hw
    rw [if_neg hw] at hok
    rw [hod]
    exact ⟨trivial, hput _ _ hok (Below.refl _ _)⟩
end
/-- Each operation waits for elder ones alone. -/
def forwardB (ops : Array Oper) : Bool := (List.range ops.size).all fun i => match ops[i]? with
  | some o => o.after.all fun e => !Region.binds .any e || decide (e.on < i)
  | none => true
theorem forward_spec {ops : Array Oper} (h : forwardB ops = true) {i : Nat} {o : Oper} (hi : ops[i]? = some o) : ∀ e ∈ o.after, Region.binds .any e = true → e.on < i := by
  intro e he hb
  have h1 := List.all_eq_true.1 h i (List.mem_range.2 (Array.getElem?_eq_some_iff.1 hi).1)
  simp only [hi] at h1
  rw [Array.all_eq_true'] at h1
  have h2 := h1 e he
  simp only [hb, Bool.not_true, Bool.false_or, decide_eq_true_eq] at h2
  exact h2
theorem all_listed {ops : Array Oper} (h : forwardB ops = true) {listed : Array Bool} (hl : listed.size = ops.size) (hr : Region.ready .any ops listed = []) : ∀ i, i < ops.size → listed[i]? = some true := by
  intro i
  induction i using Nat.strongRecOn with
  | _ i ih =>
    intro hi
    have ho : ops[i]? = some ops[i] := Array.getElem?_eq_getElem hi
    have hli : i < listed.size := by omega
    cases hv : listed[i] with
    | true => rw [Array.getElem?_eq_getElem hli, hv]
    | false =>
      have : i ∈ Region.ready .any ops listed := by
        refine mem_ready.2 ⟨by simp [hli, hv], ops[i], ho, fun e he hb => ?_⟩
        have h1 := forward_spec h ho e he hb
        have h2 := ih e.on h1 (by omega)
        simp [Array.getD_eq_getD_getElem?, h2]
      rw [hr] at this
      cases this
/-- No operation writes slot e. -/
def ndstB (ops : Array Oper) (e : Nat) : Bool := ops.all fun o => o.dst != some e
theorem ndst_spec {ops : Array Oper} {e : Nat} (h : ndstB ops e = true) : ∀ (j : Nat) (oj : Oper), ops[j]? = some oj → oj.dst ≠ some e := by
  intro j oj hj
  unfold ndstB at h
  have := (Array.all_eq_true.1 h) j (Array.getElem?_eq_some_iff.1 hj).1
  obtain ⟨hlt, he⟩ := Array.getElem?_eq_some_iff.1 hj
  rw [he] at this
  simpa using this
/-- All of the first k operations keep their words. -/
def OpsOk (P : Program) (ops : Array Oper) (L : Words) (N : Nat) (a0 : Act) (w0 : World) : Nat → Prop
  | 0 => True
  | k + 1 => OpsOk P ops L N a0 w0 k ∧ OpOk P ops L N a0 w0 k
theorem OpsOk.at_ {P : Program} {ops : Array Oper} {L : Words} {N : Nat} {a0 : Act} {w0 : World} : ∀ {k : Nat}, OpsOk P ops L N a0 w0 k → ∀ i, i < k → OpOk P ops L N a0 w0 i
  | k + 1, h, i, hi => by
    by_cases e : i = k
    · subst e
      exact h.2
    · exact OpsOk.at_ h.1 i (by omega)
def AllS : Words → Prop
  | [] => True
  | p :: L => StableW p ∧ AllS L
theorem AllS.at_ : ∀ {L : Words}, AllS L → ∀ i, StableW (L.at_ i)
  | [], _, i => fun _ _ _ h _ => by simp [Words.at_]
  | p :: L, h, 0 => h.1
  | p :: L, h, i + 1 => AllS.at_ h.2 i

section
variable {P : Program} {ops : Array Oper} {Q : Exit → Act → World → Prop} {a : Act} {w : World}
theorem region_S {F : Fence} {n id : Nat} (L : Words) (N : Nat) (hF : WideF F P) (hnd : Region.noDefer ops = true) (hm : P.follows .mixedOrders = true) (hds : dstsB ops N = true) (hfw : forwardB ops = true) (hst : AllS L) (hsz : a.tmps.size = N)
    (k : Nat) (hk : ops.size = k) (hop : OpsOk P ops L N a w.drew k)
    (hK : ∀ (a' : Act) (w' : World), a'.tmps.size = N → a'.defers = a.defers → Below w.heap.size w w' → (∀ e, ndstB ops e = true → a'.eval (.tmp e) = a.eval (.tmp e)) → (∀ (j d : Nat), (ops[j]?).bind (·.dst) = some d → L.at_ j (a'.eval (.tmp d)) w') → Q .normal a' w') :
    (Code.region id ops true).wpIn F n P Q a w := by
  refine region_K (fun _ _ _ => True) hF hnd hm ?_
  refine AnyG.inv (SInv ops L N a w.drew) ?_ ?_ _ _ _ _ ?_ ?_
  · intro listed a' w' i hS hi
    exact SInv.step hds hst.at_ (fun i hi => hop.at_ i (by omega)) (fun ⟨_, _, h⟩ => h.elim) hS hi
  · intro listed a' w' hS hr
    have hall := all_listed hfw hS.ls hr
    have hb : Below w.heap.size w w' := (Below.refl w.heap.size w).drew.trans hS.low
    refine hK a' w' hS.sz hS.df hb (fun e he => hS.rest e (ndst_spec he)) (fun j d hj => ?_)
    rw [Option.bind_eq_some_iff] at hj
    obtain ⟨oj, h1, h2⟩ := hj
    exact hS.slots j oj d h1 h2 (hall j (Array.getElem?_eq_some_iff.1 h1).1)
  · refine ⟨hsz, rfl, Below.refl _ _, by simp, fun _ _ => rfl, fun j oj dj _ _ hl => ?_⟩
    simp [Array.getElem?_replicate] at hl
  · have : ∀ (m k : Nat), leftOf (Array.replicate m false) k ≤ k := by
      intro m k
      induction k with
      | zero => exact Nat.le_refl _
      | succ k ih =>
        unfold leftOf
        split <;> omega
    exact this _ _
end

section
variable {P : Program} {ops : Array Oper} {L : Words} {N : Nat} {a0 : Act} {w0 : World} {i d : Nat} {ty : TypeId} {pos : String} {aft : Array Edge} {gd : Option (Nat × Bool)}
/-- What is known when operation i comes up. -/
structure Dp (ops : Array Oper) (L : Words) (N : Nat) (a0 : Act) (w0 : World) (i : Nat) (a : Act) (w : World) : Prop where
  sz : a.tmps.size = N
  low : Below w0.heap.size w0 w
  out : ∀ e, ndstB ops e = true → a.eval (.tmp e) = a0.eval (.tmp e)
  dep : ∀ (j d : Nat), (ops[j]?).bind (·.dst) = some d → (ops[i]?).map (fun o => waitsB .any o j) = some true → L.at_ j (a.eval (.tmp d)) w
/-- By the guard: A, or B. -/
def Gd (ops : Array Oper) (gd : Option (Nat × Bool)) (a : Act) (A B : Prop) : Prop := match gd with
  | none => A
  | some (j, b) => ∃ e c, (ops[j]?).bind (·.dst) = some e ∧ a.eval (.tmp e) = .bool c ∧ ((c == b) = true → A) ∧ ((c == b) = false → B)
theorem OpOk.gen {op : Op} (hi : ops[i]? = some ⟨some d, op, ty, pos, aft, gd⟩) (h : ∀ a w, Dp ops L N a0 w0 i a w → Gd ops gd a (OpW P (L.at_ i) ⟨some d, op, ty, pos, aft, gd⟩ d a w) (L.at_ i undef w)) : OpOk P ops L N a0 w0 i := by
  intro o d' ho hod a w hz hb hr hdep
  rw [hi] at ho
  cases ho
  cases hod
  have hg := h a w ⟨hz, hb, fun e he => hr e (ndst_spec he), fun j dj hj hw => by
    rw [Option.bind_eq_some_iff] at hj
    obtain ⟨oj, h1, h2⟩ := hj
    rw [hi] at hw
    simp at hw
    exact hdep j oj dj h1 h2 hw⟩
  unfold OpS
  cases gd with
  | none =>
    rw [if_pos (show Region.wanted _ _ = true from rfl)]
    exact hg
  | some jb =>
    obtain ⟨j, b⟩ := jb
    obtain ⟨e, c, h1, h2, h3, h4⟩ := hg
    have hw : Region.wanted ⟨some d, op, ty, pos, aft, some (j, b)⟩ (yielded ops a.tmps) = (c == b) := wanted_g h1 h2 rfl
    rw [hw]
    split
    · rename_i hc
      exact h3 hc
    · rename_i hc
      exact h4 (by simpa using hc)
variable {a : Act} {w w' : World} {p : Value → World → Prop} {v : Value}
theorem OpW.val {o : Oper} (hd : o.dst = some d) (hr : (execOp a.eval o).run P w = .ok (.value v) w') (hp : p v w') (hb : Below w.heap.size w w') : OpW P p o d a w := by
  unfold OpW
  simp only [Oper.wp, hr, Oper.upon, hd]
  exact ⟨v, rfl, hp, hb⟩
theorem OpW.move {x : Operand} (hx : a.eval x = v) (hp : p v w) : OpW P p ⟨some d, .move x, ty, pos, aft, gd⟩ d a w := OpW.val rfl (by simp [execOp, hx]) hp (Below.refl _ _)
theorem OpW.assign {x : Operand} (hx : a.eval x = v) (hp : p v w) : OpW P p ⟨some d, .assign x, ty, pos, aft, gd⟩ d a w := OpW.val rfl (by simp [execOp, hx]) hp (Below.refl _ _)
theorem OpW.load {t : TypeId} {x : Operand} {ad : Addr} (hx : a.eval x = .pointer (some ad)) (hv : (Instr.loadAt t (.pointer (some ad))).run P w = .ok v w) (hp : p v w) : OpW P p ⟨some d, .load t x, ty, pos, aft, gd⟩ d a w :=
  OpW.val rfl (by simp [execOp, hx, hv]) hp (Below.refl _ _)
theorem OpW.field {t : TypeId} {x : Operand} {f : Nat} {u : Value} (hx : a.eval x = u) (hv : (Instr.fieldAt t u f).run P w = .ok v w) (hp : p v w) : OpW P p ⟨some d, .fieldAddr t x f, ty, pos, aft, gd⟩ d a w :=
  OpW.val rfl (by simp [execOp, hx, hv]) hp (Below.refl _ _)
theorem OpW.index {t : TypeId} {x y : Operand} {u u' : Value} (hx : a.eval x = u) (hy : a.eval y = u') (hv : (Instr.indexAt t u u').run P w = .ok v w) (hp : p v w) : OpW P p ⟨some d, .indexAddr t x y, ty, pos, aft, gd⟩ d a w :=
  OpW.val rfl (by simp [execOp, hx, hy, hv]) hp (Below.refl _ _)
theorem OpW.bin {b : BinOp} {t t' : TypeId} {x y : Operand} {u u' : Value} (hx : a.eval x = u) (hy : a.eval y = u') (hv : (do eqGuard b t x y u u'; binOp b t u u' : Sem Value).run P w = .ok v w) (hp : p v w) : OpW P p ⟨some d, .binOp b t x y t', ty, pos, aft, gd⟩ d a w :=
  OpW.val rfl (by
    simp only [execOp, hx, hy]
    have := hv
    simp only [Sem.run_bind] at this ⊢
    rw [this]
    simp) hp (Below.refl _ _)
theorem OpW.un {b : UnOp} {t : TypeId} {x : Operand} {u : Value} (hx : a.eval x = u) (hv : (Op.unary b u).run P w = .ok v w) (hp : p v w) : OpW P p ⟨some d, .unOp b t x, ty, pos, aft, gd⟩ d a w :=
  OpW.val rfl (by simp [execOp, hx, hv]) hp (Below.refl _ _)
theorem OpW.pick {c x y : Operand} {b : Bool} (hc : a.eval c = .bool b) (hp : p (if b then a.eval x else a.eval y) w) : OpW P p ⟨some d, .pick c x y, ty, pos, aft, gd⟩ d a w :=
  OpW.val rfl (by simp [execOp, hc, asBool]) hp (Below.refl _ _)
theorem OpW.extract {x : Operand} {m : Nat} {u : Value} (hx : a.eval x = u) (hv : (Instr.extract u m).run P w = .ok v w) (hp : p v w) : OpW P p ⟨some d, .extract x m, ty, pos, aft, gd⟩ d a w :=
  OpW.val rfl (by simp [execOp, hx, hv]) hp (Below.refl _ _)
theorem OpW.bld {t : TypeId} {parts : Array (Nat × Operand)} {ps : Array (Nat × Value)} (hp : parts.map (fun (i, x) => (i, a.eval x)) = ps) (hv : (Instr.build t ps).run P w = .ok v w) (hq : p v w) : OpW P p ⟨some d, .build t parts, ty, pos, aft, gd⟩ d a w :=
  OpW.val rfl (by simp only [execOp, hp]; simp [hv]) hq (Below.refl _ _)
theorem OpW.bsl {t : TypeId} {m : Nat} {parts : Array (Nat × Operand)} {ps : Array (Nat × Value)} (hp : parts.map (fun (i, x) => (i, a.eval x)) = ps) (hv : (Instr.buildSlice t m ps).run P w = .ok v w') (hq : p v w') (hb : Below w.heap.size w w') : OpW P p ⟨some d, .buildSlice t m parts, ty, pos, aft, gd⟩ d a w :=
  OpW.val rfl (by simp only [execOp, hp]; simp [hv]) hq hb
theorem OpW.len {x : Operand} {tys : Array TypeId} {u : Value} (hx : a.eval x = u) (hv : (builtin .len tys ty #[false] #[u]).run P w = .ok (.value v) w) (hc : (match x with | .const _ => true | _ => false) = false) (hp : p v w) : OpW P p ⟨some d, .call { callee := .builtin .len, args := #[x], argTypes := tys }, ty, pos, aft, gd⟩ d a w :=
  OpW.val rfl (by cases x <;> simp_all [execOp, resolve, invoke]) hp (Below.refl _ _)
theorem OpW.call {f : FuncId} {args : Array Operand} {tys : Array TypeId} {vs : Array Value} (he : ∀ args w, (callFunc f args).run P w = .ok (.enter f args) w) (hp : args.map a.eval = vs)
    (h : Calls P f vs w fun e w' => ∃ v, e = .returned v ∧ p v w' ∧ Below w.heap.size w w') : OpW P p ⟨some d, .call { callee := .value (.func f), args := args, argTypes := tys }, ty, pos, aft, gd⟩ d a w := by
  unfold OpW
  simp only [Oper.wp, execOp, resolve, hp, Act.eval, Deferred.ofValue]
  simp [invoke, he, Oper.upon]
  refine h.mono ?_
  rintro e w' ⟨v, rfl, h1, h2⟩
  exact ⟨v, rfl, h1, h2⟩
theorem gd_none {A B : Prop} (h : A) : Gd ops none a A B := h
theorem gd_false {A B : Prop} {j e : Nat} {b c : Bool} (hj : (ops[j]?).bind (·.dst) = some e) (he : a.eval (.tmp e) = .bool c) (hn : (c == b) = false) (h : B) : Gd ops (some (j, b)) a A B := ⟨e, c, hj, he, fun h2 => (by rw [hn] at h2; cases h2), fun _ => h⟩
theorem Dp.cell (H : Dp ops L N a0 w0 i a w) {q : Addr} {u : Value} (hc : w0.cell? q = some u) : w.cell? q = some u := (H.low.cell (block_lt_of_cell hc)).trans hc
theorem gd_true {A B : Prop} {j e : Nat} {b : Bool} (hj : (ops[j]?).bind (·.dst) = some e) (he : a.eval (.tmp e) = .bool b) (h : A) : Gd ops (some (j, b)) a A B := ⟨e, b, hj, he, fun _ => h, fun h => by simp at h⟩
end
end Go.Proofs.Ytfcnombmphophaa
namespace Go.Proofs.Ytfcnombmphophaa
open Go.RowKit Go.Shelf
section
variable {P : Program} {ops : Array Oper} {L : Words} {N : Nat} {a0 : Act} {w0 : World}
/-- Each operation waits for those of which it knows something, and for elder ones alone: a plain region is one of the orders. -/
theorem SInv.list (hd : dstsB ops N = true) (hfw : forwardB ops = true) (hst : ∀ i, StableW (L.at_ i)) (K : Act → World → Prop) : ∀ (k i : Nat), i + k = ops.size → (hop : ∀ i, i < ops.size → OpOk P ops L N a0 w0 i) →
    (hK : ∀ a w, (∃ listed, SInv ops L N a0 w0 listed a w ∧ ∀ j, j < ops.size → listed[j]? = some true) → K a w) → ∀ (listed : Array Bool) (a : Act) (w : World), SInv ops L N a0 w0 listed a w → (∀ j, j < ops.size → listed[j]? = some (decide (j < i))) → ListK P ops K k i a w := by
  intro k
  induction k with
  | zero =>
    intro i hi hop hK listed a w hS hl
    have : ListK P ops K 0 i a w = K a w := by unfold ListK; rfl
    rw [this]
    exact hK a w ⟨listed, hS, fun j hj => by rw [hl j hj]; simp; omega⟩
  | succ k ih =>
    intro i hi hop hK listed a w hS hl
    have hlt : i < ops.size := by omega
    have ho : ops[i]? = some ops[i] := Array.getElem?_eq_getElem hlt
    have hready : i ∈ Region.ready .any ops listed := by
      refine mem_ready.2 ⟨?_, ops[i], ho, fun e he hb => ?_⟩
      · have := hl i hlt
        simp only [Nat.lt_irrefl, decide_false] at this
        simp [Array.getD_eq_getD_getElem?, this]
      · have h1 := forward_spec hfw ho e he hb
        have := hl e.on (by omega)
        simp only [h1, decide_true] at this
        simp [Array.getD_eq_getD_getElem?, this]
    have hs := SInv.step (Q := fun _ _ _ => False) hd hst hop (fun h => h) hS hready
    have : ListK P ops K (k + 1) i a w = opG P ops (fun _ _ _ => False) i (ListK P ops K k (i + 1)) a w := by unfold ListK; rfl
    rw [this]
    refine opG_mono ?_ hs
    rintro a' w' ⟨-, hS'⟩
    refine ih (i + 1) (by omega) hop hK _ a' w' hS' (fun j hj => ?_)
    rw [Array.getElem?_setIfInBounds]
    by_cases e : i = j
    · subst e
      rw [if_pos rfl, if_pos (by rw [hS.ls]; exact hj)]
      simp
    · rw [if_neg e, hl j hj]
      congr 1
      by_cases h2 : j < i
      · simp [h2, show j < i + 1 by omega]
      · simp [h2, show ¬ j < i + 1 by omega]
/-- A word that holds under a condition; else nothing was computed. -/
def Wd (C : Prop) (p : Value → World → Prop) : Value → World → Prop := fun v w => (C → p v w) ∧ (¬ C → v = undef)
theorem Wd.st {C : Prop} {p : Value → World → Prop} (h : StableW p) : StableW (Wd C p) := fun v w w' hv hb => ⟨fun hc => h v w w' (hv.1 hc) hb, hv.2⟩
variable {i d : Nat} {ty : TypeId} {pos : String} {aft : Array Edge}
end
end Go.Proofs.Ytfcnombmphophaa
namespace Go.Proofs.Ytfcnombmphophaa
open Go.RowKit Go.Shelf
set_option maxHeartbeats 400000 in
theorem in_any (n lo hi : Int) (w : World) :
    Calls Try.prog 31 #[.int .i64 n, .int .i64 lo, .int .i64 hi] w fun e w' => e = .returned (.bool (inR n lo hi)) ∧ w = w' := by
  by_cases h1 : lo ≤ n
  · go_enter Try.func31, Try.ntmps31
    go_wp2
    go_ret
    exact ⟨by simp [inR, h1], rfl⟩
  · have hd : decide (lo ≤ n) = false := by simpa using h1
    go_enter Try.func31, Try.ntmps31
    go_wp2
    go_ret
    exact ⟨by simp [inR]; omega, rfl⟩
/-- Is a number in a list? -/
def hasI (l : List Int) (n : Int) : Bool := l.any (fun x => x == n)
theorem saleOk_ref (o : Int) (s : Sale) : saleOk o s = (inR s.src 0 (o - 1) && (inR s.dst 0 (o - 1) && (!decide (s.src = s.dst) && (inR s.many 1 1000 && (inR s.lo 0 s.hi && !decide (100 < s.hi)))))) := by
  rw [Bool.eq_iff_iff]
  simp only [saleOk, Bool.and_eq_true, inR_iff, decide_eq_true_eq, Bool.not_eq_true', decide_eq_false_iff_not]
  omega
theorem all_drop {α : Type} (p : α → Bool) (l : List α) (k : Nat) (hk : k < l.length) : (l.drop k).all p = (p l[k] && (l.drop (k + 1)).all p) := by
  rw [List.drop_eq_getElem_cons hk]
  rfl
set_option maxHeartbeats 2000000 in
theorem refFault_any (o t : Int) (A : Option Addr) (l : List Sale) (c : Nat) (w : World) (hl : l.length ≤ 12) (hs : SalesAt w w.heap.size A l) :
    Calls Try.prog 51 #[.agg #[.int .i64 o, .int .i64 t, .slice A l.length c]] w
      fun e w' => e = .returned (.int .i64 (fault o t l)) ∧ Below w.heap.size w w' := by
  have hB := (Below.refl w.heap.size w).alloc (Nat.le_refl _) (.cells #[.int .i64 o, .int .i64 t, .slice A l.length c] 24)
  have Hs := Lib.hid (hs.below hB (Nat.le_refl _))
  clear hs
  by_cases h8 : 8 < l.length
  · have HF := Lib.hid (fault_limit (o := o) (t := t) h8)
    go_enter Try.func51, Try.ntmps51
    go_wp2_with fail
    go_ret
    exact ⟨by rw [HF.out]; rfl, hB⟩
  · by_cases h1 : inR o 1 6 = true
    · have ho := inR_iff.1 h1
      by_cases h2 : inR t 0 1000 = true
      · go_enter Try.func51, Try.ntmps51
        go_wp2_with (first | (go_at_call 31; refine (in_any _ _ _ _).mono ?_; rintro e w' ⟨rfl, rfl⟩))
        go_loopw [3] (fun i wr => ∃ k : Nat, k ≤ l.length ∧ i = .int .i64 k ∧ l.all (saleOk o) = (l.drop k).all (saleOk o) ∧ Below (w.heap.size + 1) (w.alloc (.cells #[.int .i64 o, .int .i64 t, .slice A l.length c] 24)) wr) (fun i _ => l.length - (intOf i).toNat)
        case atStart => exact ⟨0, Nat.zero_le _, rfl, rfl, Below.refl _ _⟩
        case round =>
          obtain ⟨k, hk, rfl, hgood, hb⟩ := hrel
          have hz : w.heap.size + 1 ≤ wr.heap.size := by have := hb.size; simp at this; omega
          have q0 : wr.cell? ⟨w.heap.size, 0, none⟩ = some (.int .i64 o) := (hb.cell (p := ⟨w.heap.size, 0, none⟩) (by simp)).trans (by go_simp)
          have q2 : wr.cell? ⟨w.heap.size, 2, none⟩ = some (.slice A l.length c) := (hb.cell (p := ⟨w.heap.size, 2, none⟩) (by simp)).trans (by go_simp)
          have hB2 := hB.trans (hb.mono (by simp))
          by_cases hlt' : k < l.length
          · obtain ⟨b, off, rfl, hbB, c0, c1, c2, c3, c4⟩ := (Hs.out.more (by omega)).below hb (Nat.le_refl _) k l[k] (List.getElem?_eq_getElem hlt')
            have hg2 := all_drop (saleOk o) l k hlt'
            have HG := Lib.hid hgood
            have HG2 := Lib.hid hg2
            clear hgood hg2
            have hzz : w.heap.size < wr.heap.size := by omega
            have hbz : b < wr.heap.size := by omega
            generalize l[k] = s at *
            obtain ⟨sa, sb, sm, sx, sy⟩ := s
            simp only [] at c0 c1 c2 c3 c4
            by_cases hok : saleOk o ⟨sa, sb, sm, sx, sy⟩ = true
            · have HK := Lib.hid hok
              rw [saleOk_ref] at hok
              simp only [Bool.and_eq_true, Bool.not_eq_true', decide_eq_false_iff_not] at hok
              obtain ⟨e1, e2, e3', e4, e5, e6'⟩ := hok
              have e3 : (sa == sb) = false := by simpa using e3'
              have e6 : sy ≤ 100 := by omega
              clear e3' e6'
              go_wp2_with (first | (go_at_call 31; refine (in_any _ _ _ _).mono ?_; rintro e w' ⟨rfl, rfl⟩))
              exact ⟨⟨k + 1, by omega, by simp, by rw [HG.out, HG2.out, HK.out]; rfl, hb.alloc hz _⟩, by simp [intOf]; omega⟩
            · have hok' : saleOk o ⟨sa, sb, sm, sx, sy⟩ = false := by simpa using hok
              have HF := Lib.hid (fault_all (o := o) (t := t) (l := l) (by omega) (by rw [HG.out, HG2.out, hok']; rfl))
              have HK := Lib.hid hok'
              clear hok hok'
              go_wp2_with (first | (go_at_call 31; refine (in_any _ _ _ _).mono ?_; rintro e w' ⟨rfl, rfl⟩))
              all_goals first
                | (go_ret; exact ⟨by rw [HF.out]; rfl, hB2.alloc (by omega) _⟩)
                | (exfalso; have := HK.out; rw [saleOk_ref] at this; simp_all; omega)
                | (exfalso; have := HK.out; rw [saleOk_ref] at this; simp_all)
          · obtain rfl : k = l.length := by omega
            have HF := Lib.hid (fault_ok (o := o) (t := t) (l := l) (by omega) h1 h2 (by rw [hgood, List.drop_length]; rfl))
            clear hgood
            go_wp2_with fail
            go_ret
            exact ⟨by rw [HF.out]; rfl, hB2⟩
      · have h2' : inR t 0 1000 = false := by simpa using h2
        have HF := Lib.hid (fault_tot (o := o) (t := t) (l := l) (by omega) h2')
        clear h2
        go_enter Try.func51, Try.ntmps51
        go_wp2_with (first | (go_at_call 31; refine (in_any _ _ _ _).mono ?_; rintro e w' ⟨rfl, rfl⟩))
        go_ret
        exact ⟨by rw [HF.out]; rfl, hB⟩
    · have h1' : inR o 1 6 = false := by simpa using h1
      have HF := Lib.hid (fault_own (o := o) (t := t) (l := l) (by omega) h1')
      clear h1
      go_enter Try.func51, Try.ntmps51
      go_wp2_with (first | (go_at_call 31; refine (in_any _ _ _ _).mono ?_; rintro e w' ⟨rfl, rfl⟩))
      go_ret
      exact ⟨by rw [HF.out]; rfl, hB⟩
set_option maxHeartbeats 400000 in
theorem lawFault_any (o t : Int) (A : Option Addr) (l : List Sale) (c : Nat) (w : World) (hl : l.length ≤ 12) (hs : SalesAt w w.heap.size A l) :
    Calls Try.prog 21 #[.agg #[.int .i64 o, .int .i64 t, .slice A l.length c]] w
      fun e w' => e = .returned (.int .i64 (fault o t l)) ∧ Below w.heap.size w w' := by
  have hB := (Below.refl w.heap.size w).alloc (Nat.le_refl _) (.cells #[.int .i64 o, .int .i64 t, .slice A l.length c] 24)
  have Hs := Lib.hid ((hs.below hB (Nat.le_refl _)).more (by simp : w.heap.size ≤ (w.alloc (.cells #[.int .i64 o, .int .i64 t, .slice A l.length c] 24)).heap.size))
  clear hs
  go_enter Try.func21, Try.ntmps21
  go_wp2_with (go_at_call 51; refine (refFault_any o t A l c _ hl Hs.out).mono ?_; rintro e w' ⟨rfl, hb⟩)
  go_ret
  exact ⟨rfl, hB.trans (hb.mono (by simp))⟩
end Go.Proofs.Ytfcnombmphophaa
namespace Go.Proofs.Ytfcnombmphophaa
open Go.RowKit Go.Shelf
/-- What one sale does to an owner. -/
def stepR (l : List Sale) (ow : Int) (x d : Int) : Int :=
  let s := saleOf l d.toNat
  let y := if s.dst = ow then x + s.many else x
  if s.src = ow then y - s.many else y
def stockR (t : Int) (l : List Sale) (done : List Int) (ow : Int) : Int := done.foldl (stepR l ow) (if ow = 0 then t else 0)
end Go.Proofs.Ytfcnombmphophaa
namespace Go.Proofs.Ytfcnombmphophaa
open Go.RowKit Go.Shelf
theorem fa24_0 {b o : Nat} (w : World) : (Instr.fieldAt 24 (.pointer (some ⟨b, o, none⟩)) 0).run Try.prog w = .ok (.pointer (some ⟨b, o, none⟩)) w := by
  go_simp
theorem fa24_1 {b o : Nat} (w : World) : (Instr.fieldAt 24 (.pointer (some ⟨b, o, none⟩)) 1).run Try.prog w = .ok (.pointer (some ⟨b, o + 1, none⟩)) w := by
  go_simp
theorem fa24_2 {b o : Nat} (w : World) : (Instr.fieldAt 24 (.pointer (some ⟨b, o, none⟩)) 2).run Try.prog w = .ok (.pointer (some ⟨b, o + 2, none⟩)) w := by
  go_simp
theorem fa73_0 {b o : Nat} (w : World) : (Instr.fieldAt 73 (.pointer (some ⟨b, o, none⟩)) 0).run Try.prog w = .ok (.pointer (some ⟨b, o, none⟩)) w := by
  go_simp
theorem fa73_1 {b o : Nat} (w : World) : (Instr.fieldAt 73 (.pointer (some ⟨b, o, none⟩)) 1).run Try.prog w = .ok (.pointer (some ⟨b, o + 1, none⟩)) w := by
  go_simp
theorem fa73_2 {b o : Nat} (w : World) : (Instr.fieldAt 73 (.pointer (some ⟨b, o, none⟩)) 2).run Try.prog w = .ok (.pointer (some ⟨b, o + 2, none⟩)) w := by
  go_simp
theorem fa73_3 {b o : Nat} (w : World) : (Instr.fieldAt 73 (.pointer (some ⟨b, o, none⟩)) 3).run Try.prog w = .ok (.pointer (some ⟨b, o + 3, none⟩)) w := by
  go_simp
theorem fa71_0 {b o : Nat} (w : World) : (Instr.fieldAt 71 (.pointer (some ⟨b, o, none⟩)) 0).run Try.prog w = .ok (.pointer (some ⟨b, o, none⟩)) w := by
  go_simp
theorem fa71_1 {b o : Nat} (w : World) : (Instr.fieldAt 71 (.pointer (some ⟨b, o, none⟩)) 1).run Try.prog w = .ok (.pointer (some ⟨b, o + 1, none⟩)) w := by
  go_simp
theorem ld22 {w : World} {p : Addr} {v : Value} (h : w.cell? p = some v) : (Instr.loadAt 22 (.pointer (some p))).run Try.prog w = .ok v w := by
  go_simp
theorem ld24 {w : World} {b : Nat} {u v x : Value} (h : w.cell? ⟨b, 0, none⟩ = some u ∧ w.cell? ⟨b, 1, none⟩ = some v ∧ w.cell? ⟨b, 2, none⟩ = some x) : (Instr.loadAt 24 (.pointer (some ⟨b, 0, none⟩))).run Try.prog w = .ok (.agg #[u, v, x]) w := by
  obtain ⟨h0, h1, h2⟩ := h
  go_simp
theorem ld73 {w : World} {b o : Nat} {s : Sale} (h0 : w.cell? ⟨b, o, none⟩ = some (.int .i64 s.src)) (h1 : w.cell? ⟨b, o + 1, none⟩ = some (.int .i64 s.dst)) (h2 : w.cell? ⟨b, o + 2, none⟩ = some (.int .i64 s.many)) (h3 : w.cell? ⟨b, o + 3, none⟩ = some (.int .i64 s.lo)) (h4 : w.cell? ⟨b, o + 4, none⟩ = some (.int .i64 s.hi)) :
    (Instr.loadAt 73 (.pointer (some ⟨b, o, none⟩))).run Try.prog w = .ok (saleV s) w := by
  go_simp
theorem ix22 {b o n c : Nat} {i : Nat} (h : i < n) (w : World) : (Instr.indexAt 22 (.slice (some ⟨b, o, none⟩) n c) (.int .i64 i)).run Try.prog w = .ok (.pointer (some ⟨b, o + i * 5, none⟩)) w := by
  go_simp
theorem ln22 (A : Option Addr) (n c : Nat) (ty : TypeId) (w : World) : (builtin .len #[22] ty #[false] #[.slice A n c]).run Try.prog w = .ok (.value (.int .i64 n)) w := by
  go_simp
theorem bx24 (w : World) (o t : Int) (A : Option Addr) (n c : Nat) : (Instr.box 24 (.agg #[.int .i64 o, .int .i64 t, .slice A n c])).run Try.prog w = .ok (.pointer (some ⟨w.heap.size, 0, none⟩)) (w.alloc (.cells #[.int .i64 o, .int .i64 t, .slice A n c] 24)) := by
  go_simp
theorem al73 (w : World) : (Instr.alloc 73 true (.tuple #[])).run Try.prog w = .ok (.pointer (some ⟨w.heap.size, 0, none⟩)) (w.alloc (.cells #[.int .i64 0, .int .i64 0, .int .i64 0, .int .i64 0, .int .i64 0] 73)) := by
  go_simp
theorem sa73 (w : World) (s : Sale) : (Instr.storeAt 73 (.pointer (some ⟨w.heap.size, 0, none⟩)) (saleV s)).run Try.prog (w.alloc (.cells #[.int .i64 0, .int .i64 0, .int .i64 0, .int .i64 0, .int .i64 0] 73)) = .ok () (w.alloc (.cells (saleC s) 73)) := by
  unfold saleV saleC
  go_simp
/-- A call that gives a value, wherever a world stands that is at most longer. -/
abbrev CV (w : World) (f : FuncId) (args : Array Value) (v : Value) : Prop := ∀ W1, Below w.heap.size w W1 → Calls Try.prog f args W1 fun e w' => ∃ u, e = .returned u ∧ u = v ∧ Below W1.heap.size W1 w'
theorem CV.drew {w : World} {f : FuncId} {args : Array Value} {v : Value} (h : CV w f args v) : CV w.drew f args v := fun W1 hb => h W1 (((Below.refl w.heap.size w).drew).trans hb)
end Go.Proofs.Ytfcnombmphophaa
namespace Go.Proofs.Ytfcnombmphophaa
open Go.RowKit Go.Shelf
end Go.Proofs.Ytfcnombmphophaa
namespace Go.Proofs.Ytfcnombmphophaa
open Go.RowKit Go.Shelf
theorem IntsAt.take {w : World} {B : Nat} {A : Option Addr} {l : List Int} (h : IntsAt w B A l) (k : Nat) : IntsAt w B A (l.take k) := by
  intro j x hj
  rw [List.getElem?_take] at hj
  split at hj
  · exact h j x hj
  · cases hj
end Go.Proofs.Ytfcnombmphophaa
namespace Go.Proofs.Ytfcnombmphophaa
open Go.RowKit Go.Shelf
end Go.Proofs.Ytfcnombmphophaa
namespace Go.Proofs.Ytfcnombmphophaa
open Go.RowKit Go.Shelf
/-- The memory of Batch: the batch at block h, the result at h + 1, what is made at h + 2; a list of sales that is owned. -/
structure BtM (w : World) (h : Nat) (o t : Int) (A : Option Addr) (n c : Nat) (v : Value) (xs : List Sale) (W : World) : Prop where
  kb : Whole W h 24 #[.int .i64 o, .int .i64 t, .slice A n c]
  kr : Whole W (h + 1) 31 #[.int .i64 0, .int .i64 0, .slice none 0 0]
  kx : Whole W (h + 2) 31 #[.int .i64 o, .int .i64 t, v]
  low : Below h w W
  own : W.ownsRow (h + 3) 61 5 v xs.length (salesL xs)
section
variable {w W W' : World} {h : Nat} {o t : Int} {A : Option Addr} {n c : Nat} {v : Value} {xs : List Sale}
theorem BtM.base (b : BtM w h o t A n c v xs W) : h + 3 ≤ W.heap.size := b.kx.lt
theorem BtM.below (b : BtM w h o t A n c v xs W) (hb : Below W.heap.size W W') : BtM w h o t A n c v xs W' :=
  ⟨b.kb.below hb b.kb.lt, b.kr.below hb b.kr.lt, b.kx.below hb b.kx.lt, b.low.trans (hb.mono (by have := b.base; omega)), b.own.kept (grown_of_below hb) (by cases v.ownBlock <;> simp)⟩
theorem BtM.far (b : BtM w h o t A n c v xs W) {g : Nat} (hg : g < h + 3) : some g ≠ v.ownBlock := fun e => by have := (b.own.lt g e.symm).1; omega
theorem BtM.put (b : BtM w h o t A n c v xs W) {g cap : Nat} {s : Sale} (hown : W'.ownsRow (h + 3) 61 5 (.slice (some ⟨g, 0, none⟩) (xs.length + 1) cap) (xs.length + 1) (salesL xs ++ saleL s)) (hgr : W.grownBy W' v.ownBlock) :
    BtM w h o t A n c (.slice (some ⟨g, 0, none⟩) (xs.length + 1) cap) (xs ++ [s]) (W'.setCell ⟨h + 2, 2, none⟩ (.slice (some ⟨g, 0, none⟩) (xs.length + 1) cap)) := by
  have k0 : Whole W' h 24 _ := (hgr.block _ b.kb.lt (b.far (by omega))).trans b.kb
  have k1 : Whole W' (h + 1) 31 _ := (hgr.block _ b.kr.lt (b.far (by omega))).trans b.kr
  have k2 : Whole W' (h + 2) 31 _ := (hgr.block _ b.kx.lt (b.far (by omega))).trans b.kx
  have hlo : Below h w W' := b.low.grown hgr (by have := b.base; omega) (fun k e => by have := (b.own.lt k e).1; omega)
  refine ⟨k0.far (by simp) _, k1.far (by simp) _, k2.set 2 _, hlo.setCell (p := ⟨h + 2, 2, none⟩) (by simp) _, ?_⟩
  rw [salesL_app]
  refine World.ownsRow.kept ?_ (grown_set W' ⟨h + 2, 2, none⟩ _) (.inr ?_)
  · simpa using hown
  · intro e
    have hg : g = h + 2 := by simpa [Value.ownBlock] using e
    have := (hown.lt g rfl).1
    omega
end
theorem bd46r (x y : Int) (w : World) : (Instr.build 46 #[(0, .int .i64 x), (1, .int .i64 y)]).run Try.prog w = .ok (.agg #[.int .i64 x, .int .i64 y]) w := by
  go_simp
theorem bd61r (s : Sale) (w : World) : (Instr.build 61 #[(0, .int .i64 s.src), (1, .int .i64 s.dst), (2, .int .i64 s.many), (3, .agg #[.int .i64 s.lo, .int .i64 s.hi])]).run Try.prog w = .ok (saleV s) w := by
  unfold saleV
  go_simp
noncomputable def opsBa0 : Array Oper := (Try.f18.body.bind (regionOf 0)).getD #[]
noncomputable def opsBa1 : Array Oper := (Try.f18.body.bind (regionOf 1)).getD #[]
noncomputable def opsBa2 : Array Oper := (Try.f18.body.bind (regionOf 2)).getD #[]
noncomputable def opsBa3 : Array Oper := (Try.f18.body.bind (regionOf 3)).getD #[]
noncomputable def opsBa4 : Array Oper := (Try.f18.body.bind (regionOf 4)).getD #[]
noncomputable def opsBa5 : Array Oper := (Try.f18.body.bind (regionOf 5)).getD #[]
noncomputable def opsBa6 : Array Oper := (Try.f18.body.bind (regionOf 6)).getD #[]
noncomputable def opsBa7 : Array Oper := (Try.f18.body.bind (regionOf 7)).getD #[]
noncomputable def roundBa : Code := .seq (.seq (.region 3 opsBa3 false) (.cond (.tmp 15) .skip (.exit 0))) (.seq (.block 1 (.seq (.region 5 opsBa5 false) (.region 6 opsBa6 false))) (.region 4 opsBa4 false))
noncomputable def code18 : Code := .seq (.region 0 opsBa0 false) (.seq (.region 1 opsBa1 false) (.seq (.seq (.region 2 opsBa2 false) (.block 0 (.loop roundBa))) (.seq (.region 7 opsBa7 false) .ret)))
theorem body18 : Try.f18.body = some code18 := by kernel_rfl
set_option maxRecDepth 10000 in
set_option maxHeartbeats 2000000 in
theorem batch_any (o t : Int) (A : Option Addr) (l : List Sale) (c : Nat) (W : World) (hl : l.length ≤ 60) (hs : SalesAt W W.heap.size A l) :
    Calls Try.prog 18 #[.agg #[.int .i64 o, .int .i64 t, .slice A l.length c]] W
      fun e w' => ∃ A' c', e = .returned (.agg #[.int .i64 o, .int .i64 t, .slice A' l.length c']) ∧ SalesAt w' w'.heap.size A' l ∧ Below W.heap.size W w' := by
  refine (callsIn_wide (n := 5)).1 (callsIn_of_wp Try.func18 body18 trivial ?_ rfl)
  obtain ⟨a, ha⟩ : ∃ a : Act, a = { tmps := #[.agg #[.int .i64 o, .int .i64 t, .slice A l.length c]] ++ Array.replicate (Try.f18.ntmps - (#[.agg #[.int .i64 o, .int .i64 t, .slice A l.length c]] : Array Value).size) undef, defers := [] } := ⟨_, rfl⟩
  have hsz : a.tmps.size = 43 := by rw [ha]; simp [Try.ntmps18]
  have t0 : a.eval (.tmp 0) = .agg #[.int .i64 o, .int .i64 t, .slice A l.length c] := by rw [ha]; simp [Act.eval]
  have hdf : a.defers = [] := by rw [ha]
  rw [← ha]
  clear ha
  unfold code18
  refine wpIn_seq (region_p 2 ?_)
  intro K hK
  refine ListK.box (i := 0) (u := .agg #[.int .i64 o, .int .i64 t, .slice A l.length c]) rfl (by simp [t0]) (bx24 W _ _ _ _ _) ?_
  refine ListK.alloc (i := 1) rfl (al31 _) ?_
  refine ListK.done (hK _ _ ?_)
  clear hK K
  generalize hA : Act.put _ _ _ = a1
  have hz_a1 : a1.tmps.size = 43 := by rw [← hA]; simp only [size_put, hsz]
  have u1 : a1.eval (.tmp 1) = .pointer (some ⟨W.heap.size, 0, none⟩) := by rw [← hA]; exact (by simp [hsz])
  have u2 : a1.eval (.tmp 2) = .pointer (some ⟨(W.alloc (.cells #[.int .i64 o, .int .i64 t, .slice A l.length c] 24)).heap.size, 0, none⟩) := by rw [← hA]; exact (by simp [hsz])
  have hd_a1 : a1.defers = [] := by rw [← hA]; simp only [defers_put, hdf]
  clear hA
  rw [World.size_alloc] at u2
  have wb := (Whole.new W 24 #[.int .i64 o, .int .i64 t, .slice A l.length c]).alloc (.cells #[.int .i64 0, .int .i64 0, .slice none 0 0] 31)
  have wr := Whole.new (W.alloc (.cells #[.int .i64 o, .int .i64 t, .slice A l.length c] 24)) 31 #[.int .i64 0, .int .i64 0, .slice none 0 0]
  have hB1 : Below W.heap.size W ((W.alloc (.cells #[.int .i64 o, .int .i64 t, .slice A l.length c] 24)).alloc (.cells #[.int .i64 0, .int .i64 0, .slice none 0 0] 31)) := ((Below.refl _ W).alloc (Nat.le_refl _) _).alloc (by simp) _
  have hz1 : ((W.alloc (.cells #[.int .i64 o, .int .i64 t, .slice A l.length c] 24)).alloc (.cells #[.int .i64 0, .int .i64 0, .slice none 0 0] 31)).heap.size = W.heap.size + 2 := by simp
  rw [World.size_alloc] at wr
  generalize hh : W.heap.size = h at *
  generalize (W.alloc (.cells #[.int .i64 o, .int .i64 t, .slice A l.length c] 24)).alloc (.cells #[.int .i64 0, .int .i64 0, .slice none 0 0] 31) = W1 at *
  refine wpIn_seq (region_p 7 ?_)
  intro K hK
  refine ListK.field (i := 0) (u := .pointer (some ⟨h, 0, none⟩)) (v := .pointer (some ⟨h, 0, none⟩)) rfl (by simp [u1]) (fa24_0 _) ?_
  refine ListK.load (i := 1) (p := ⟨h, 0, none⟩) (v := .int .i64 o) rfl (by simp [hz_a1]) (ld3 (wb.cell 0)) ?_
  refine ListK.field (i := 2) (u := .pointer (some ⟨h, 0, none⟩)) (v := .pointer (some ⟨h, 1, none⟩)) rfl (by simp [u1]) (fa24_1 _) ?_
  refine ListK.load (i := 3) (p := ⟨h, 1, none⟩) (v := .int .i64 t) rfl (by simp [hz_a1]) (ld3 (wb.cell 1)) ?_
  refine ListK.bld (i := 4) (ps := #[(0, .int .i64 o), (1, .int .i64 t)]) (v := .agg #[.int .i64 o, .int .i64 t, .slice none 0 0]) rfl (by simp [hz_a1]) (bd31 _ _ _) ?_
  refine ListK.alloc (i := 5) rfl (al31 W1) ?_
  refine ListK.store (i := 6) (u := .pointer (some ⟨W1.heap.size, 0, none⟩)) (u' := .agg #[.int .i64 o, .int .i64 t, .slice none 0 0]) rfl (by simp [hz_a1]) (by simp [hz_a1]) (st31n W1 _ _ _ _ _) ?_
  refine ListK.done (hK _ _ ?_)
  clear hK K
  generalize hA : Act.put _ _ _ = a2
  have hz_a2 : a2.tmps.size = 43 := by rw [← hA]; simp only [size_put, hz_a1]
  have v1 : a2.eval (.tmp 1) = .pointer (some ⟨h, 0, none⟩) := by rw [← hA]; exact (by simp [u1])
  have v2 : a2.eval (.tmp 2) = .pointer (some ⟨h + 1, 0, none⟩) := by rw [← hA]; exact (by simp [u2])
  have v3 : a2.eval (.tmp 3) = .pointer (some ⟨W1.heap.size, 0, none⟩) := by rw [← hA]; exact (by simp [hz_a1])
  have hd_a2 : a2.defers = [] := by rw [← hA]; simp only [defers_put, hd_a1]
  clear hA
  have hm : BtM W h o t A l.length c (.slice none 0 0) [] (W1.alloc (.cells #[.int .i64 o, .int .i64 t, .slice none 0 0] 31)) := by
    refine ⟨wb.alloc _, wr.alloc _, ?_, hB1.alloc (by omega) _, World.ownsRow_nil _ _ _ _⟩
    have := Whole.new W1 31 #[.int .i64 o, .int .i64 t, .slice none 0 0]
    rwa [hz1] at this
  generalize W1.alloc (.cells #[.int .i64 o, .int .i64 t, .slice none 0 0] 31) = W2 at *
  rw [hz1] at v3
  refine wpIn_seq (wpIn_seq (region_p 1 ?_))
  intro K hK
  refine ListK.assign (i := 0) (v := .int .i64 0) rfl (by simp) ?_
  refine ListK.done (hK _ _ ?_)
  clear hK K
  refine wpIn_block (wpIn_loop (fun a W' => ∃ (k : Nat) (v : Value), k ≤ l.length ∧ a.tmps.size = 43 ∧ a.defers = [] ∧ a.eval (.tmp 1) = .pointer (some ⟨h, 0, none⟩) ∧ a.eval (.tmp 2) = .pointer (some ⟨h + 1, 0, none⟩) ∧ a.eval (.tmp 3) = .pointer (some ⟨h + 2, 0, none⟩) ∧ a.eval (.tmp 4) = .int .i64 k ∧ BtM W h o t A l.length c v (l.take k) W') (fun a _ => l.length - (intOf (a.eval (.tmp 4))).toNat)
    ⟨0, _, Nat.zero_le _, by simp only [size_put, hz_a2], by simp only [defers_put, hd_a2], (by simp [v1]), (by simp [v2]), (by simp [v3]), (by simp [hz_a2]), hm⟩ ?_)
  clear hsz t0 hdf hz_a1 u1 u2 hd_a1 hz_a2 v1 v2 v3 hd_a2 a a1 a2 wb wr hB1 hz1 hm
  rintro a W2 ⟨k, v, hk, hsz, hdf, t1, t2, t3, t4, hm⟩
  have hkb2 := hm.kb.cell 2
  refine wpIn_seq (wpIn_seq (region_p 5 ?_))
  intro K hK
  refine ListK.move (i := 0) (v := .int .i64 k) rfl (by simp [t4]) ?_
  refine ListK.field (i := 1) (u := .pointer (some ⟨h, 0, none⟩)) (v := .pointer (some ⟨h, 2, none⟩)) rfl (by simp [t1]) (fa24_2 _) ?_
  refine ListK.load (i := 2) (p := ⟨h, 2, none⟩) (v := .slice A l.length c) rfl (by simp [hsz]) (ld22 (hkb2)) ?_
  refine ListK.len (i := 3) (u := .slice A l.length c) (v := .int .i64 l.length) rfl (by simp [hsz]) (ln22 _ _ _ _ _) rfl ?_
  refine ListK.bin (i := 4) (u := .int .i64 k) (u' := .int .i64 (l.length : Int)) (v := .bool (decide (k < (l.length : Int)))) rfl (by simp [hsz]) (by simp [hsz]) (lss3 _) ?_
  refine ListK.done (hK _ _ ?_)
  clear hK K
  have htl : (l.take k).length = k := by rw [List.length_take]; omega
  by_cases hkl : k < l.length
  · refine wpIn_cond (t := true) (by simp [hsz]; omega) (wpIn_skip ?_)
    generalize hA : Act.put _ _ _ = a1
    have hz_a1 : a1.tmps.size = 43 := by rw [← hA]; simp only [size_put, hsz]
    have u1 : a1.eval (.tmp 1) = .pointer (some ⟨h, 0, none⟩) := by rw [← hA]; exact (by simp [t1])
    have u2 : a1.eval (.tmp 2) = .pointer (some ⟨h + 1, 0, none⟩) := by rw [← hA]; exact (by simp [t2])
    have u3 : a1.eval (.tmp 3) = .pointer (some ⟨h + 2, 0, none⟩) := by rw [← hA]; exact (by simp [t3])
    have u4 : a1.eval (.tmp 4) = .int .i64 k := by rw [← hA]; exact (by simp [t4])
    have hd_a1 : a1.defers = [] := by rw [← hA]; simp only [defers_put, hdf]
    clear hA
    have htk := List.take_succ_eq_append_getElem hkl
    obtain ⟨b, off, hA, hbB, s0, s1, s2, s3, s4⟩ := (hs.below hm.low (Nat.le_refl _)) k _ (List.getElem?_eq_getElem hkl)
    subst hA
    generalize l[k] = s at *
    show (Code.seq _ _).wpIn _ _ _ _ _ _
    refine wpIn_seq (wpIn_block (wpIn_seq (region_p 7 ?_)))
    intro K5 hK5
    refine ListK.field (i := 0) (u := .pointer (some ⟨h, 0, none⟩)) (v := .pointer (some ⟨h, 2, none⟩)) rfl (by simp [u1]) (fa24_2 _) ?_
    refine ListK.load (i := 1) (p := ⟨h, 2, none⟩) (v := .slice (some ⟨b, off, none⟩) l.length c) rfl (by simp [hz_a1]) (ld22 (hkb2)) ?_
    refine ListK.move (i := 2) (v := .int .i64 k) rfl (by simp [u4]) ?_
    refine ListK.index (i := 3) (u := .slice (some ⟨b, off, none⟩) l.length c) (u' := .int .i64 k) (v := .pointer (some ⟨b, off + k * 5, none⟩)) rfl (by simp [hz_a1]) (by simp [hz_a1]) (ix22 hkl _) ?_
    refine ListK.load (i := 4) (p := ⟨b, off + k * 5, none⟩) (v := saleV s) rfl (by simp [hz_a1]) (ld73 s0 s1 s2 s3 s4) ?_
    refine ListK.alloc (i := 5) rfl (al73 W2) ?_
    refine ListK.store (i := 6) (u := .pointer (some ⟨W2.heap.size, 0, none⟩)) (u' := saleV s) rfl (by simp [hz_a1]) (by simp [hz_a1]) (sa73 W2 _) ?_
    refine ListK.done (hK5 _ _ ?_)
    have hwx := Whole.new W2 73 (saleC s)
    have hm1 := hm.below ((Below.refl _ W2).alloc (Nat.le_refl _) (.cells (saleC s) 73))
    generalize hbx : W2.heap.size = bx at *
    generalize W2.alloc (.cells (saleC s) 73) = W3 at *
    clear hm s0 s1 s2 s3 s4 hkb2 hbx W2
    generalize hA : Act.put _ _ _ = a2
    have hz_a2 : a2.tmps.size = 43 := by rw [← hA]; simp only [size_put, hz_a1]
    have x1 : a2.eval (.tmp 1) = .pointer (some ⟨h, 0, none⟩) := by rw [← hA]; exact (by simp [u1])
    have x2 : a2.eval (.tmp 2) = .pointer (some ⟨h + 1, 0, none⟩) := by rw [← hA]; exact (by simp [u2])
    have x3 : a2.eval (.tmp 3) = .pointer (some ⟨h + 2, 0, none⟩) := by rw [← hA]; exact (by simp [u3])
    have x4 : a2.eval (.tmp 4) = .int .i64 k := by rw [← hA]; exact (by simp [u4])
    have x5 : a2.eval (.tmp 5) = .pointer (some ⟨bx, 0, none⟩) := by rw [← hA]; exact (by simp [hz_a1])
    have hd_a2 : a2.defers = [] := by rw [← hA]; simp only [defers_put, hd_a1]
    clear hA
    have c0 : W3.cell? ⟨bx, 0, none⟩ = some (.int .i64 s.src) := hwx.cell 0
    have c1 : W3.cell? ⟨bx, 1, none⟩ = some (.int .i64 s.dst) := hwx.cell 1
    have c2 : W3.cell? ⟨bx, 2, none⟩ = some (.int .i64 s.many) := hwx.cell 2
    have c3 : W3.cell? ⟨bx, 3, none⟩ = some (.int .i64 s.lo) := hwx.cell 3
    have c4 : W3.cell? ⟨bx, 4, none⟩ = some (.int .i64 s.hi) := hwx.cell 4
    have hkx2 := hm1.kx.cell 2
    show (Code.region 6 opsBa6 false).wpIn _ _ _ _ _ _
    refine region_p 20 ?_
    intro K6 hK6
    refine ListK.field (i := 0) (u := .pointer (some ⟨h + 2, 0, none⟩)) (v := .pointer (some ⟨h + 2, 2, none⟩)) rfl (by simp [x3]) (fa31_2 _) ?_
    refine ListK.load (i := 1) (p := ⟨h + 2, 2, none⟩) (v := v) rfl (by simp [hz_a2]) (ld29 (hkx2)) ?_
    refine ListK.field (i := 2) (u := .pointer (some ⟨bx, 0, none⟩)) (v := .pointer (some ⟨bx, 0, none⟩)) rfl (by simp [x5]) (fa73_0 _) ?_
    refine ListK.load (i := 3) (p := ⟨bx, 0, none⟩) (v := .int .i64 s.src) rfl (by simp [hz_a2]) (ld3 (c0)) ?_
    refine ListK.field (i := 4) (u := .pointer (some ⟨bx, 0, none⟩)) (v := .pointer (some ⟨bx, 1, none⟩)) rfl (by simp [x5]) (fa73_1 _) ?_
    refine ListK.load (i := 5) (p := ⟨bx, 1, none⟩) (v := .int .i64 s.dst) rfl (by simp [hz_a2]) (ld3 (c1)) ?_
    refine ListK.field (i := 6) (u := .pointer (some ⟨bx, 0, none⟩)) (v := .pointer (some ⟨bx, 2, none⟩)) rfl (by simp [x5]) (fa73_2 _) ?_
    refine ListK.load (i := 7) (p := ⟨bx, 2, none⟩) (v := .int .i64 s.many) rfl (by simp [hz_a2]) (ld3 (c2)) ?_
    refine ListK.field (i := 8) (u := .pointer (some ⟨bx, 0, none⟩)) (v := .pointer (some ⟨bx, 3, none⟩)) rfl (by simp [x5]) (fa73_3 _) ?_
    refine ListK.field (i := 9) (u := .pointer (some ⟨bx, 3, none⟩)) (v := .pointer (some ⟨bx, 3, none⟩)) rfl (by simp [hz_a2]) (fa71_0 _) ?_
    refine ListK.load (i := 10) (p := ⟨bx, 3, none⟩) (v := .int .i64 s.lo) rfl (by simp [hz_a2]) (ld3 (c3)) ?_
    refine ListK.field (i := 11) (u := .pointer (some ⟨bx, 0, none⟩)) (v := .pointer (some ⟨bx, 3, none⟩)) rfl (by simp [x5]) (fa73_3 _) ?_
    refine ListK.field (i := 12) (u := .pointer (some ⟨bx, 3, none⟩)) (v := .pointer (some ⟨bx, 4, none⟩)) rfl (by simp [hz_a2]) (fa71_1 _) ?_
    refine ListK.load (i := 13) (p := ⟨bx, 4, none⟩) (v := .int .i64 s.hi) rfl (by simp [hz_a2]) (ld3 (c4)) ?_
    refine ListK.bld (i := 14) (ps := #[(0, .int .i64 s.lo), (1, .int .i64 s.hi)]) (v := .agg #[.int .i64 s.lo, .int .i64 s.hi]) rfl (by simp [hz_a2]) (bd46r _ _ _) ?_
    refine ListK.bld (i := 15) (ps := #[(0, .int .i64 s.src), (1, .int .i64 s.dst), (2, .int .i64 s.many), (3, .agg #[.int .i64 s.lo, .int .i64 s.hi])]) (v := saleV s) rfl (by simp [hz_a2]) (bd61r _ _) ?_
    refine ListK.bsl (i := 16) (ps := #[(0, saleV s)]) (v := .slice (some ⟨W3.heap.size, 0, none⟩) 1 1) rfl (by simp [hz_a2]) (bs29_1 _ _) ?_
    have hm2 := hm1.below ((Below.refl _ W3).alloc (Nat.le_refl _) (.cells (saleC s) 61))
    have hnw := news5 (W := W3) s 61
    generalize W3.alloc (.cells (saleC s) 61) = W4 at *
    refine ListK.append61 (i := 17) rfl hm2.own (by simp [hz_a2]) ⟨W3.heap.size, 0, none⟩ 1 (saleL s) (by simp [hz_a2]) rfl hnw (by simp [saleL, Value.oneCell']) (by unfold maxLen; omega) (by omega) hm2.base ?_
    intro g cap W5 hown hgr hat
    have hm3 := hm2.put hown hgr
    have hc2 : W5.cell? ⟨h + 2, 2, none⟩ = some v := (hgr.cell (hm2.kx.cell 2) (hm2.far (by simp)))
    have hf2 : W5.frozen? ⟨h + 2, 2, none⟩ = false := (hgr.frozen_far ⟨h + 2, 2, none⟩ hm2.kx.lt (hm2.far (by simp))).trans (hm2.kx.frozen 2)
    refine ListK.field (i := 18) (u := .pointer (some ⟨h + 2, 0, none⟩)) (v := .pointer (some ⟨h + 2, 2, none⟩)) rfl (by simp [x3]) (fa31_2 _) ?_
    refine ListK.store (i := 19) (u := .pointer (some ⟨h + 2, 2, none⟩)) (u' := .slice (some ⟨g, 0, none⟩) ((l.take k).length + 1) cap) rfl (by simp [hz_a2]) (by simp [hz_a2]) (st29 hc2 hf2) ?_
    refine ListK.done (hK6 _ _ ?_)
    generalize hA : Act.put _ _ _ = a3
    have hz_a3 : a3.tmps.size = 43 := by rw [← hA]; simp only [size_put, hz_a2]
    have y1 : a3.eval (.tmp 1) = .pointer (some ⟨h, 0, none⟩) := by rw [← hA]; exact (by simp [x1])
    have y2 : a3.eval (.tmp 2) = .pointer (some ⟨h + 1, 0, none⟩) := by rw [← hA]; exact (by simp [x2])
    have y3 : a3.eval (.tmp 3) = .pointer (some ⟨h + 2, 0, none⟩) := by rw [← hA]; exact (by simp [x3])
    have y4 : a3.eval (.tmp 4) = .int .i64 k := by rw [← hA]; exact (by simp [x4])
    have hd_a3 : a3.defers = [] := by rw [← hA]; simp only [defers_put, hd_a2]
    clear hA
    show (Code.region 4 opsBa4 false).wpIn _ _ _ _ _ _
    refine region_p 3 ?_
    intro K4 hK4
    refine ListK.move (i := 0) (v := .int .i64 k) rfl (by simp [y4]) ?_
    refine ListK.bin (i := 1) (u := .int .i64 k) (u' := .int .i64 1) (v := .int .i64 (k + 1)) rfl (by simp [hz_a3]) (by simp) (add3 (by omega) (by omega) _) ?_
    refine ListK.assign (i := 2) (v := .int .i64 ((k + 1 : Nat) : Int)) rfl (by simp [hz_a3]) ?_
    skip
    have hmu : ∀ b : Act, b.eval (.tmp 4) = .int .i64 ((k + 1 : Nat) : Int) → l.length - (intOf (b.eval (.tmp 4))).toNat < l.length - (intOf (a.eval (.tmp 4))).toNat := by
      intro b e
      rw [e, t4]
      simp only [intOf]
      omega
    refine ListK.done (hK4 _ _ ⟨⟨k + 1, _, by omega, by simp only [size_put, hz_a3], by simp only [defers_put, hd_a3], (by simp [y1]), (by simp [y2]), (by simp [y3]), (by simp [hz_a3]), by rw [htk]; exact hm3⟩, hmu _ (by simp [hz_a3])⟩)
  · obtain rfl : k = l.length := by omega
    refine wpIn_cond (t := false) (by simp [hsz]) (wpIn_exit ?_)
    generalize hA : Act.put _ _ _ = a1
    have hz_a1 : a1.tmps.size = 43 := by rw [← hA]; simp only [size_put, hsz]
    have u1 : a1.eval (.tmp 1) = .pointer (some ⟨h, 0, none⟩) := by rw [← hA]; exact (by simp [t1])
    have u2 : a1.eval (.tmp 2) = .pointer (some ⟨h + 1, 0, none⟩) := by rw [← hA]; exact (by simp [t2])
    have u3 : a1.eval (.tmp 3) = .pointer (some ⟨h + 2, 0, none⟩) := by rw [← hA]; exact (by simp [t3])
    have hd_a1 : a1.defers = [] := by rw [← hA]; simp only [defers_put, hdf]
    clear hA
    rw [List.take_length] at hm
    obtain ⟨A', c', rfl, hsa⟩ := sales_of_owns hm.own
    have ht2 := hm.kx
    have x0 := ht2.cell 0
    have x1 := ht2.cell 1
    have x2 := ht2.cell 2
    have r := hm.kr
    show (Code.seq _ _).wpIn _ _ _ _ _ _
    refine wpIn_seq (region_p 2 ?_)
    intro K hK
    refine ListK.load (i := 0) (p := ⟨h + 2, 0, none⟩) (v := .agg #[.int .i64 o, .int .i64 t, .slice A' l.length c']) rfl (by simp [u3]) (ld31' ⟨x0, x1, x2⟩) ?_
    refine ListK.store (i := 1) (u := .pointer (some ⟨h + 1, 0, none⟩)) (u' := .agg #[.int .i64 o, .int .i64 t, .slice A' l.length c']) rfl (by simp [u2]) (by simp [hz_a1]) (st31 (r.cell 0) (r.cell 1) (r.cell 2) (r.frozen 0) (r.frozen 1) (r.frozen 2)) ?_
    refine ListK.done (hK _ _ (wpIn_ret ?_))
    have k3 := ((r.set 0 (.int .i64 o)).set 1 (.int .i64 t)).set 2 (.slice A' l.length c')
    refine bodyPost_ret (res31 (b := h + 1) Try.results18 (by simp [u2]) (k3.cell 0) (k3.cell 1) (k3.cell 2)) (by simp only [defers_put, hd_a1]) ⟨A', c', rfl, ?_, ?_⟩
    · have hne : ∀ k s, l[k]? = some s → ∃ b off, A' = some ⟨b, off, none⟩ ∧ b < W2.heap.size ∧ b ≠ h + 1 ∧ SaleAt W2 b off k s := by
        intro k s hks
        obtain ⟨b, off, e1, e2, e3⟩ := hsa k s hks
        refine ⟨b, off, e1, e2, ?_, e3⟩
        rcases hm.own.2 with ⟨e4, _⟩ | ⟨g, cap, cur, e4, e5, _⟩
        · rw [e1] at e4; cases e4
        · rw [e1] at e4; cases e4; omega
      intro k s hks
      obtain ⟨b, off, e1, e2, e3, e4⟩ := hne k s hks
      refine ⟨b, off, e1, by simpa [World.setCell] using e2, e4.keep fun i => ?_⟩
      rw [cell_set_far (by simpa using e3), cell_set_far (by simpa using e3), cell_set_far (by simpa using e3)]
    · have hlow := hm.low
      exact ((hlow.setCell (p := ⟨h + 1, 0, none⟩) (by simp) _).setCell (p := ⟨h + 1, 1, none⟩) (by simp) _).setCell (p := ⟨h + 1, 2, none⟩) (by simp) _
end Go.Proofs.Ytfcnombmphophaa
namespace Go.Proofs.Ytfcnombmphophaa
open Go.RowKit Go.Shelf
section
variable {ops : Array Oper} {K : Act → World → Prop} {k i d : Nat} {a : Act} {w : World} {ty : TypeId} {pos : String} {aft : Array Edge}
end
end Go.Proofs.Ytfcnombmphophaa
namespace Go.Proofs.Ytfcnombmphophaa
open Go.RowKit Go.Shelf
theorem hasI_app (l : List Int) (x n : Int) : hasI (l ++ [x]) n = (hasI l n || x == n) := by
  simp [hasI]
theorem stockR_app (t : Int) (l : List Sale) (pre : List Int) (n ow : Int) : stockR t l (pre ++ [n]) ow = stepR l ow (stockR t l pre ow) n := by
  simp [stockR]
theorem sold_step {l : List Sale} {st : Nat → Int} {n : Nat} {x : Int} {i : Nat} (hn : n < l.length) (h0 : 0 ≤ (saleOf l n).src) (h1 : 0 ≤ (saleOf l n).dst) (hne : (saleOf l n).src ≠ (saleOf l n).dst) (hx : st i = x) : sold st (saleOf l n) i = stepR l i x n := by
  rw [sold_delta, hx]
  unfold stepR delta
  rw [Int.toNat_natCast]
  generalize saleOf l n = s at *
  obtain ⟨a, b, m, lo, hi⟩ := s
  simp only [] at *
  have e1 : (i = b.toNat) = (b = (i : Int)) := propext ⟨fun h => by omega, fun h => by omega⟩
  have e2 : (i = a.toNat) = (a = (i : Int)) := propext ⟨fun h => by omega, fun h => by omega⟩
  simp only [e1, e2]
  split <;> split <;> omega
end Go.Proofs.Ytfcnombmphophaa
namespace Go.Proofs.Ytfcnombmphophaa
open Go.RowKit Go.Shelf
theorem gtrT {x y : Operand} {m n : Int} (h : n < m) (w : World) : (do eqGuard .gtr 3 x y (.int .i64 m) (.int .i64 n); binOp .gtr 3 (.int .i64 m) (.int .i64 n) : Sem Value).run Try.prog w = .ok (.bool true) w := by
  go_simp
theorem gtrF {x y : Operand} {m n : Int} (h : ¬ n < m) (w : World) : (do eqGuard .gtr 3 x y (.int .i64 m) (.int .i64 n); binOp .gtr 3 (.int .i64 m) (.int .i64 n) : Sem Value).run Try.prog w = .ok (.bool false) w := by
  go_simp
theorem eql27F {x y : Operand} {m n : Int} (h : m ≠ n) (w : World) : (do eqGuard .eql 27 x y (.int .i64 m) (.int .i64 n); binOp .eql 27 (.int .i64 m) (.int .i64 n) : Sem Value).run Try.prog w = .ok (.bool false) w := by
  go_simp
theorem ListK.pickW {P : Program} {ops : Array Oper} {K : Act → World → Prop} {k i d : Nat} {a : Act} {w : World} {ty : TypeId} {pos : String} {aft : Array Edge} {gd : Option (Nat × Bool)} {c x y : Operand} {b : Bool} {v : Value} (hi : ops[i]? = some ⟨some d, .pick c x y, ty, pos, aft, gd⟩) (hc : a.eval c = .bool b) (hx : (if b then a.eval x else a.eval y) = v)
    (h : ListK P ops K k (i + 1) (a.put (some d) v) w) (hw : Region.wanted ⟨some d, .pick c x y, ty, pos, aft, gd⟩ (yielded ops a.tmps) = true := by rfl) : ListK P ops K (k + 1) i a w :=
  ListK.valW hi hw (by simp [execOp, hc, asBool]; cases b <;> simpa using hx) h
end Go.Proofs.Ytfcnombmphophaa
namespace Go.Proofs.Ytfcnombmphophaa
open Go.RowKit Go.Shelf
end Go.Proofs.Ytfcnombmphophaa
namespace Go.Proofs.Ytfcnombmphophaa
open Go.RowKit Go.Shelf
theorem ListK.conv {P : Program} {ops : Array Oper} {K : Act → World → Prop} {k i d : Nat} {a : Act} {w : World} {ty : TypeId} {pos : String} {aft : Array Edge} {gd : Option (Nat × Bool)} {s t : TypeId} {x : Operand} {u v : Value} (hi : ops[i]? = some ⟨some d, .convert s t x, ty, pos, aft, gd⟩) (hx : a.eval x = u) (hv : (convert s t u).run P w = .ok v w)
    (h : ListK P ops K k (i + 1) (a.put (some d) v) w) (hw : Region.wanted ⟨some d, .convert s t x, ty, pos, aft, gd⟩ (yielded ops a.tmps) = true := by rfl) : ListK P ops K (k + 1) i a w :=
  ListK.valW hi hw (by simp [execOp, hx, hv]) h
end Go.Proofs.Ytfcnombmphophaa
namespace Go.Proofs.Ytfcnombmphophaa
open Go.RowKit Go.Shelf
theorem al24 (w : World) : (Instr.alloc 24 true (.tuple #[])).run Try.prog w = .ok (.pointer (some ⟨w.heap.size, 0, none⟩)) (w.alloc (.cells #[.int .i64 0, .int .i64 0, .slice none 0 0] 24)) := by
  go_simp
theorem st24n (w : World) (x y : Int) (A : Option Addr) (n c : Nat) : (Instr.storeAt 24 (.pointer (some ⟨w.heap.size, 0, none⟩)) (.agg #[.int .i64 x, .int .i64 y, .slice A n c])).run Try.prog (w.alloc (.cells #[.int .i64 0, .int .i64 0, .slice none 0 0] 24)) = .ok () (w.alloc (.cells #[.int .i64 x, .int .i64 y, .slice A n c] 24)) := by
  go_simp
theorem st22 {w : World} {p : Addr} {v : Value} {A : Option Addr} {n c : Nat} (h : w.cell? p = some v) (hf : w.frozen? p = false) : (Instr.storeAt 22 (.pointer (some p)) (.slice A n c)).run Try.prog w = .ok () (w.setCell p (.slice A n c)) := by
  go_simp
/-- A list of sales that is owned reads as it should. -/
theorem sales_of_owns73 {W : World} {base : Nat} {v : Value} {xs : List Sale} (h : W.ownsRow base 73 5 v xs.length (salesL xs)) : ∃ A c, v = .slice A xs.length c ∧ SalesAt W W.heap.size A xs := by
  rcases h.2 with ⟨rfl, h0⟩ | ⟨g, cap, cur, rfl, hb, hg, hc, _⟩
  · refine ⟨none, 0, by rw [h0], fun k x hx => ?_⟩
    have : xs = [] := List.eq_nil_of_length_eq_zero h0
    subst this
    simp at hx
  · refine ⟨_, cap, rfl, fun k s hs => ⟨g, 0, rfl, (Array.getElem?_eq_some_iff.1 hg).1, ?_⟩⟩
    have hcell : ∀ j u, (salesL xs)[j]? = some u → W.cell? ⟨g, j, none⟩ = some u := by
      intro j u hu
      have := h.cells (g := g) rfl j u hu
      simp only [Addr.add] at this
      split at this
      · rename_i h0
        subst h0
        simpa using this
      · simpa using this
    have hat := salesL_at xs k s hs
    refine ⟨?_, ?_, ?_, ?_, ?_⟩
    · exact (congrArg (fun q => W.cell? ⟨g, q, none⟩) (by omega)).trans (hcell (k * 5 + 0) _ (hat 0 (by omega)))
    · exact (congrArg (fun q => W.cell? ⟨g, q, none⟩) (by omega)).trans (hcell (k * 5 + 1) _ (hat 1 (by omega)))
    · exact (congrArg (fun q => W.cell? ⟨g, q, none⟩) (by omega)).trans (hcell (k * 5 + 2) _ (hat 2 (by omega)))
    · exact (congrArg (fun q => W.cell? ⟨g, q, none⟩) (by omega)).trans (hcell (k * 5 + 3) _ (hat 3 (by omega)))
    · exact (congrArg (fun q => W.cell? ⟨g, q, none⟩) (by omega)).trans (hcell (k * 5 + 4) _ (hat 4 (by omega)))
/-- The memory of Without. -/
structure WtM (w : World) (h : Nat) (o t : Int) (A : Option Addr) (n c : Nat) (v : Value) (xs : List Sale) (W : World) : Prop where
  kb : Whole W h 24 #[.int .i64 o, .int .i64 t, .slice A n c]
  kr : Whole W (h + 1) 24 #[.int .i64 0, .int .i64 0, .slice none 0 0]
  kx : Whole W (h + 2) 24 #[.int .i64 o, .int .i64 t, v]
  low : Below h w W
  own : W.ownsRow (h + 3) 73 5 v xs.length (salesL xs)
section
variable {w W W' : World} {h : Nat} {o t : Int} {A : Option Addr} {n c : Nat} {v : Value} {xs : List Sale}
theorem WtM.base (b : WtM w h o t A n c v xs W) : h + 3 ≤ W.heap.size := b.kx.lt
theorem WtM.below (b : WtM w h o t A n c v xs W) (hb : Below W.heap.size W W') : WtM w h o t A n c v xs W' :=
  ⟨b.kb.below hb b.kb.lt, b.kr.below hb b.kr.lt, b.kx.below hb b.kx.lt, b.low.trans (hb.mono (by have := b.base; omega)), b.own.kept (grown_of_below hb) (by cases v.ownBlock <;> simp)⟩
theorem WtM.far (b : WtM w h o t A n c v xs W) {g : Nat} (hg : g < h + 3) : some g ≠ v.ownBlock := fun e => by have := (b.own.lt g e.symm).1; omega
theorem WtM.put (b : WtM w h o t A n c v xs W) {g cap : Nat} {s : Sale} (hown : W'.ownsRow (h + 3) 73 5 (.slice (some ⟨g, 0, none⟩) (xs.length + 1) cap) (xs.length + 1) (salesL xs ++ saleL s)) (hgr : W.grownBy W' v.ownBlock) :
    WtM w h o t A n c (.slice (some ⟨g, 0, none⟩) (xs.length + 1) cap) (xs ++ [s]) (W'.setCell ⟨h + 2, 2, none⟩ (.slice (some ⟨g, 0, none⟩) (xs.length + 1) cap)) := by
  have k0 : Whole W' h 24 _ := (hgr.block _ b.kb.lt (b.far (by omega))).trans b.kb
  have k1 : Whole W' (h + 1) 24 _ := (hgr.block _ b.kr.lt (b.far (by omega))).trans b.kr
  have k2 : Whole W' (h + 2) 24 _ := (hgr.block _ b.kx.lt (b.far (by omega))).trans b.kx
  have hlo : Below h w W' := b.low.grown hgr (by have := b.base; omega) (fun k e => by have := (b.own.lt k e).1; omega)
  refine ⟨k0.far (by simp) _, k1.far (by simp) _, k2.set 2 _, hlo.setCell (p := ⟨h + 2, 2, none⟩) (by simp) _, ?_⟩
  rw [salesL_app]
  refine World.ownsRow.kept ?_ (grown_set W' ⟨h + 2, 2, none⟩ _) (.inr ?_)
  · simpa using hown
  · intro e
    have hg : g = h + 2 := by simpa [Value.ownBlock] using e
    have := (hown.lt g rfl).1
    omega
end
section
variable {ops : Array Oper} {K : Act → World → Prop} {Kp : Nat → World → World → Prop} {fuel i d : Nat} {listed : Array Bool} {a : Act} {w : World} {ty : TypeId} {pos : String} {aft : Array Edge}
theorem info73 : (Try.prog.info? 73).map (fun i => (i.zero, i.size, i.bytes)) = some (some (.agg #[.int .i64 0, .int .i64 0, .int .i64 0, .int .i64 0, .int .i64 0]), 5, 40) := by kernel_rfl
theorem StepK.app22 {s x : Operand} (hi : ops[i]? = some ⟨some d, .call { callee := .builtin .append, args := #[s, x], argTypes := #[22, 22] }, ty, pos, aft, none⟩)
    {base n : Nat} {v : Value} {xs : List Value} (hown : w.ownsRow base 73 5 v n xs) (hs : a.eval s = v) (ad : Addr) (c : Nat) (news : List Value) (hx : a.eval x = .slice (some ad) 1 c) (hl : news.length = 5)
    (hnews : ∀ j u, news[j]? = some u → w.cell? (ad.add j) = some u) (h1 : ∀ u ∈ news, u.oneCell' = true) (h63 : n + 1 ≤ maxLen) (hbytes : (n + 1) * 40 ≤ 140737488355328) (hbase : base ≤ w.heap.size)
    (h : ∀ g cap w', w'.ownsRow base 73 5 (.slice (some ⟨g, 0, none⟩) (n + 1) cap) (n + 1) (xs ++ news) → w.grownBy w' v.ownBlock → (v.ownBlock = some g ∨ g = w.heap.size) → Kp i w w' ∧ AnyK Try.prog ops K Kp fuel (listed.setIfInBounds i true) (a.put (some d) (.slice (some ⟨g, 0, none⟩) (n + 1) cap)) w') :
    StepK Try.prog ops K Kp fuel listed a w i := by
  obtain ⟨i0, hi0, hi1, hi2, hi3⟩ := info_parts info73
  unfold StepK opG
  simp only [hi]
  rw [if_pos (show Region.wanted _ _ = true from rfl)]
  exact wp_append_lies _ s x 22 rfl base 73 i0 _ 5 40 Try.underlying22 hi0 hi1 hi2 hi3 rfl (by omega) v n xs hs hown ad 1 c news hx (by simpa using hl) hnews h1 (by omega) h63 hbytes hbase w.heap.size rfl (fun g cap w' a b c _ => h g cap w' a b c)
end
section
attribute [local irreducible] AnyK StepK
/-- A sale's five cells. -/
def Cells5 (b o : Nat) (s : Sale) (w : World) : Prop := w.cell? ⟨b, o, none⟩ = some (.int .i64 s.src) ∧ w.cell? ⟨b, o + 1, none⟩ = some (.int .i64 s.dst) ∧ w.cell? ⟨b, o + 2, none⟩ = some (.int .i64 s.many) ∧ w.cell? ⟨b, o + 3, none⟩ = some (.int .i64 s.lo) ∧ w.cell? ⟨b, o + 4, none⟩ = some (.int .i64 s.hi)
theorem Cells5.of {b o : Nat} {s : Sale} {w w' : World} (h : Cells5 b o s w) (hk : ∀ i u, w.cell? ⟨b, i, none⟩ = some u → w'.cell? ⟨b, i, none⟩ = some u) : Cells5 b o s w' :=
  ⟨hk _ _ h.1, hk _ _ h.2.1, hk _ _ h.2.2.1, hk _ _ h.2.2.2.1, hk _ _ h.2.2.2.2⟩
end
end Go.Proofs.Ytfcnombmphophaa
namespace Go.Proofs.Ytfcnombmphophaa
open Go.RowKit Go.Shelf
end Go.Proofs.Ytfcnombmphophaa
namespace Go.Proofs.Ytfcnombmphophaa
open Go.RowKit Go.Shelf
section
variable {ops : Array Oper} {K : Act → World → Prop} {Kp : Nat → World → World → Prop} {fuel i d : Nat} {listed : Array Bool} {a : Act} {w : World} {ty : TypeId} {pos : String} {aft : Array Edge} {gd : Option (Nat × Bool)}
end
abbrev RCn (b3 : Nat) (o t : Int) (A : Option Addr) (nl c : Nat) : World → Prop := fun w => w.cell? ⟨b3, 0, none⟩ = some (.int .i64 o) ∧ w.cell? ⟨b3, 1, none⟩ = some (.int .i64 t) ∧ w.cell? ⟨b3, 2, none⟩ = some (.slice A nl c)
theorem RCn.of {b3 : Nat} {o t : Int} {A : Option Addr} {nl c : Nat} {w w' : World} (h : RCn b3 o t A nl c w) (hk : ∀ i u, w.cell? ⟨b3, i, none⟩ = some u → w'.cell? ⟨b3, i, none⟩ = some u) : RCn b3 o t A nl c w' := ⟨hk _ _ h.1, hk _ _ h.2.1, hk _ _ h.2.2⟩
section
attribute [local irreducible] AnyK StepK
end
end Go.Proofs.Ytfcnombmphophaa
namespace Go.Proofs.Ytfcnombmphophaa
open Go.RowKit Go.Shelf
section
attribute [local irreducible] AnyK StepK
end
end Go.Proofs.Ytfcnombmphophaa
namespace Go.Proofs.Ytfcnombmphophaa
open Go.RowKit Go.Shelf
theorem eql3T {x y : Operand} {m n : Int} (h : m = n) (w : World) : (do eqGuard .eql 3 x y (.int .i64 m) (.int .i64 n); binOp .eql 3 (.int .i64 m) (.int .i64 n) : Sem Value).run Try.prog w = .ok (.bool true) w := by
  subst h
  go_simp
theorem eql3F {x y : Operand} {m n : Int} (h : m ≠ n) (w : World) : (do eqGuard .eql 3 x y (.int .i64 m) (.int .i64 n); binOp .eql 3 (.int .i64 m) (.int .i64 n) : Sem Value).run Try.prog w = .ok (.bool false) w := by
  go_simp
end Go.Proofs.Ytfcnombmphophaa
namespace Go.Proofs.Ytfcnombmphophaa
open Go.RowKit Go.Shelf
end Go.Proofs.Ytfcnombmphophaa
namespace Go.Proofs.Ytfcnombmphophaa
open Go.RowKit Go.Shelf
end Go.Proofs.Ytfcnombmphophaa
namespace Go.Proofs.Ytfcnombmphophaa
open Go.RowKit Go.Shelf
theorem stepE_le (l : List Sale) (d : Nat) (E : Nat → Int) (k e : Nat) : stepE l d E k e ≤ E e := by
  unfold stepE
  split
  · unfold upd
    split
    · rename_i h
      subst h
      omega
    · exact Int.le_refl _
  · exact Int.le_refl _
theorem foldE_le (l : List Sale) (d : Nat) : ∀ (ks : List Nat) (E : Nat → Int) (e : Nat), (ks.foldl (stepE l d) E) e ≤ E e
  | [], _, _ => Int.le_refl _
  | k :: ks, E, e => Int.le_trans (foldE_le l d ks (stepE l d E k) e) (stepE_le l d E k e)
theorem stepE_low {l : List Sale} {d k e : Nat} (hb : d.testBit k = false) (he : e ≤ d) (E : Nat → Int) : stepE l d E k e = E e := by
  unfold stepE
  split
  · unfold upd
    rw [if_neg (by have := or_gt hb; omega)]
  · rfl
theorem foldE_low {l : List Sale} {d e : Nat} (he : e ≤ d) : ∀ (ks : List Nat), (∀ k, k ∈ ks → d.testBit k = false) → ∀ E : Nat → Int, (ks.foldl (stepE l d) E) e = E e
  | [], _, _ => rfl
  | k :: ks, h, E => (foldE_low he ks (fun j hj => h j (List.mem_cons_of_mem _ hj)) _).trans (stepE_low (h k List.mem_cons_self) he E)
theorem foldE_hit {l : List Sale} {d k : Nat} : ∀ (ks : List Nat), (∀ j, j ∈ ks → d.testBit j = false) → k ∈ ks → ∀ E : Nat → Int, max (E d) (saleOf l k).lo ≤ (saleOf l k).hi → (ks.foldl (stepE l d) E) (d ||| 2 ^ k) ≤ max (E d) (saleOf l k).lo
  | [], _, h, _, _ => by cases h
  | j :: ks, hb, hk, E, hle => by
    by_cases e : j = k
    · subst e
      refine Int.le_trans (foldE_le l d ks _ _) ?_
      unfold stepE
      rw [if_pos hle]
      unfold upd
      rw [if_pos rfl]
      omega
    · have hk' : k ∈ ks := by
        rcases List.mem_cons.1 hk with h | h
        · exact absurd h.symm e
        · exact h
      have hd := stepE_low (l := l) (hb j List.mem_cons_self) (Nat.le_refl d) E
      have := foldE_hit ks (fun i hi => hb i (List.mem_cons_of_mem _ hi)) hk' (stepE l d E j) (by rw [hd]; exact hle)
      rwa [hd] at this
theorem next_bits (t : Int) (l : List Sale) (d : Nat) : ∀ k, k ∈ nextL t l d → d.testBit k = false := by
  intro k hk
  have := (List.mem_filter.1 hk).2
  simp [nextB] at this
  exact this.2.1
theorem earlyTo_low (t : Int) (l : List Sale) {e : Nat} : ∀ j, e ≤ j → earlyTo t l j e = earlyTo t l e e := by
  intro j
  induction j with
  | zero => intro h; rw [show e = 0 by omega]
  | succ j ih =>
    intro h
    by_cases e1 : e = j + 1
    · rw [e1]
    · rw [← ih (by omega)]
      conv => lhs; unfold earlyTo
      split
      · rfl
      · exact foldE_low (by omega) _ (next_bits t l j) _
theorem earlyTo_mono (t : Int) (l : List Sale) (e : Nat) : ∀ j i, earlyTo t l (j + i) e ≤ earlyTo t l j e
  | j, 0 => Int.le_refl _
  | j, i + 1 => by
    refine Int.le_trans ?_ (earlyTo_mono t l e j i)
    show earlyTo t l (j + i + 1) e ≤ _
    conv => lhs; unfold earlyTo
    split
    · exact Int.le_refl _
    · exact foldE_le l _ _ _ _
theorem early_at (t : Int) (l : List Sale) {d : Nat} (h : d < 2 ^ l.length) : early t l d = earlyTo t l d d := earlyTo_low t l _ (by omega)
/-- One sale on. -/
theorem early_step {t : Int} {l : List Sale} {d k : Nat} (hd : d < 2 ^ l.length) (h1 : early t l d ≠ 101) (hn : nextB t l d k = true) (hle : max (early t l d) (saleOf l k).lo ≤ (saleOf l k).hi) : early t l (d ||| 2 ^ k) ≤ max (early t l d) (saleOf l k).lo := by
  rw [early_at t l hd] at h1 hle ⊢
  have hk : k < l.length := by simp [nextB] at hn; exact hn.1
  have hm := earlyTo_mono t l (d ||| 2 ^ k) (d + 1) (2 ^ l.length - (d + 1))
  rw [show d + 1 + (2 ^ l.length - (d + 1)) = 2 ^ l.length by omega] at hm
  refine Int.le_trans hm ?_
  conv => lhs; unfold earlyTo
  rw [if_neg h1]
  exact foldE_hit _ (next_bits t l d) (List.mem_filter.2 ⟨List.mem_range.2 hk, hn⟩) _ hle
end Go.Proofs.Ytfcnombmphophaa
namespace Go.Proofs.Ytfcnombmphophaa
open Go.RowKit Go.Shelf
/-- A list of sales and a set of them, as one. -/
structure Same (t : Int) (l : List Sale) (pre : List Int) (d : Nat) : Prop where
  bits : ∀ m : Nat, d.testBit m = hasI pre m
  st : ∀ i : Nat, stocksOf t l d i = stockR t l pre i
  lt : d < 2 ^ l.length
  cnt : cnt d l.length = pre.length
theorem Same.zero (t : Int) (l : List Sale) : Same t l [] 0 := by
  refine ⟨fun m => by simp [hasI], fun i => ?_, Nat.two_pow_pos _, cnt_zero _⟩
  unfold stocksOf
  rw [stocksTo_zero]
  unfold stockR upd
  simp
theorem Same.snoc {o t : Int} {l : List Sale} (hv : Valid o t l) {pre : List Int} {d n : Nat} (h : Same t l pre d) (hn : n < l.length) (hb : d.testBit n = false) : Same t l (pre ++ [(n : Int)]) (d ||| 2 ^ n) := by
  have hf := hv.at_ (List.getElem?_eq_getElem hn)
  rw [← saleOf_eq (List.getElem?_eq_getElem hn)] at hf
  refine ⟨fun m => ?_, fun i => ?_, Nat.or_lt_two_pow h.lt (Nat.pow_lt_pow_right (by omega) hn), ?_⟩
  · rw [hasI_app, Nat.testBit_or, h.bits m]
    congr 1
    by_cases e : n = m
    · subst e
      simp
    · rw [Nat.testBit_two_pow_of_ne e]
      symm
      simp
      omega
  · rw [stocksOf_or hb hn, stockR_app]
    exact sold_step hn hf.1 hf.2.2.1 hf.2.2.2.2.1 (h.st i)
  · rw [cnt_or hb, if_pos hn, h.cnt]
    simp
end Go.Proofs.Ytfcnombmphophaa
namespace Go.Proofs.Ytfcnombmphophaa
open Go.RowKit Go.Shelf
end Go.Proofs.Ytfcnombmphophaa
namespace Go.Proofs.Ytfcnombmphophaa
open Go.RowKit Go.Shelf
end Go.Proofs.Ytfcnombmphophaa
namespace Go.Proofs.Ytfcnombmphophaa
open Go.RowKit Go.Shelf
set_option maxHeartbeats 1000000 in
theorem ready_any (o t : Int) (A : Option Addr) (l : List Sale) (c : Nat) (w : World) (hs : SalesAt w w.heap.size A l) :
    Calls Try.prog 41 #[.agg #[.int .i64 o, .int .i64 t, .slice A l.length c]] w (TP w (decide (l.length ≤ 12) && decide (fault o t l = 0))) := by
  have hB := (Below.refl w.heap.size w).alloc (Nat.le_refl _) (.cells #[.int .i64 o, .int .i64 t, .slice A l.length c] 24)
  have Hs := Lib.hid ((hs.below hB (Nat.le_refl _)).more (by simp : w.heap.size ≤ (w.alloc (.cells #[.int .i64 o, .int .i64 t, .slice A l.length c] 24)).heap.size))
  clear hs
  generalize hq : (decide (l.length ≤ 12) && decide (fault o t l = 0)) = res
  have HQ := Lib.hid hq
  clear hq
  by_cases hl : l.length ≤ 12
  · by_cases h0 : fault o t l = 0
    · go_enter Try.func41, Try.ntmps41
      go_wp2_with (go_at_call 21; refine (lawFault_any o t A l c _ hl Hs.out).mono ?_; rintro e w' ⟨rfl, hb⟩; rw [h0])
      go_ret
      exact ⟨by rw [← HQ.out]; simp [hl, h0], hB.trans (hb.mono (by simp))⟩
    · have HF := Lib.hid h0
      clear h0
      go_enter Try.func41, Try.ntmps41
      go_wp2_with (go_at_call 21; refine (lawFault_any o t A l c _ hl Hs.out).mono ?_; rintro e w' ⟨rfl, hb⟩)
      go_ret
      refine ⟨?_, hB.trans (hb.mono (by simp))⟩
      have := HF.out
      rw [← HQ.out]
      simp [hl, this]
  · go_enter Try.func41, Try.ntmps41
    go_wp2_with fail
    go_ret
    exact ⟨by rw [← HQ.out]; simp [hl], hB⟩
end Go.Proofs.Ytfcnombmphophaa
namespace Go.Proofs.Ytfcnombmphophaa
open Go.RowKit Go.Shelf
set_option maxRecDepth 100000 in
theorem cvu8 {k : Nat} (hk : k < 256) (w : World) : (convert 5 3 (.int .u8 k)).run Try.prog w = .ok (.int .i64 k) w := by
  have h1 : IntKind.i64.wrap (k : Int) = k := by
    rw [IntKind.wrap_i64]
    omega
  go_simp
theorem rem3r {x y : Operand} {m n r : Int} (h0 : 0 ≤ m) (h1 : 0 < n) (hr : m % n = r) (w : World) : (do eqGuard .rem 3 x y (.int .i64 m) (.int .i64 n); binOp .rem 3 (.int .i64 m) (.int .i64 n) : Sem Value).run Try.prog w = .ok (.int .i64 r) w := by
  have h2 : n ≠ 0 := by omega
  have h3 : m.tmod n = m % n := Int.tmod_eq_emod_of_nonneg h0
  have h4 : IntKind.i64.wrap (m % n) = m % n ∨ True := .inr trivial
  subst hr
  rw [← h3]
  go_simp
theorem OpW.conv {P : Program} {p : Value → World → Prop} {d : Nat} {a : Act} {w : World} {ty : TypeId} {pos : String} {aft : Array Edge} {gd : Option (Nat × Bool)} {v : Value} {s t : TypeId} {x : Operand} {u : Value} (hx : a.eval x = u) (hv : (convert s t u).run P w = .ok v w) (hp : p v w) :
    OpW P p ⟨some d, .convert s t x, ty, pos, aft, gd⟩ d a w := OpW.val rfl (by simp [execOp, hx, hv]) hp (Below.refl _ _)
theorem OpW.imp {P : Program} {p : Value → World → Prop} {d : Nat} {a : Act} {w : World} {o : Oper} {c : Prop} (h : OpW P p o d a w) : OpW P (fun v w => c → p v w) o d a w := by
  unfold OpW at *
  refine Oper.wp_mono (fun a' w' hh => ?_) h
  obtain ⟨v, h1, h2, h3⟩ := hh
  exact ⟨v, h1, fun _ => h2, h3⟩
theorem StableW.imp {p : Value → World → Prop} {c : Prop} (h : StableW p) : StableW (fun v w => c → p v w) := fun v w w' h1 h2 hc => h v w w' (h1 hc) h2
theorem gd_var {ops : Array Oper} {a : Act} {A B : Prop} {j e : Nat} {b c : Bool} (hj : (ops[j]?).bind (·.dst) = some e) (he : a.eval (.tmp e) = .bool c) (h1 : c = b → A) (h2 : c ≠ b → B) : Gd ops (some (j, b)) a A B :=
  ⟨e, c, hj, he, fun h => h1 (by simpa using h), fun h => h2 (by simpa using h)⟩
theorem between_u (x y : Int) (W : World) : Calls Try.prog 36 #[.int .i64 x, .int .i64 y] W fun e w' => ∃ u, e = .returned u ∧ u = .agg #[.int .i64 x, .int .i64 y] ∧ Below W.heap.size W w' := by
  refine (between_any x y W).mono ?_
  rintro e w' ⟨rfl, hb⟩
  exact ⟨_, rfl, rfl, hb⟩
theorem eql46T {x y : Operand} (a b : Int) (w : World) : (do eqGuard .eql 46 x y (.agg #[.int .i64 a, .int .i64 b]) (.agg #[.int .i64 a, .int .i64 b]); binOp .eql 46 (.agg #[.int .i64 a, .int .i64 b]) (.agg #[.int .i64 a, .int .i64 b]) : Sem Value).run Try.prog w = .ok (.bool true) w := by
  go_simp
theorem neq46S {x y : Operand} {a b c d : Int} (h1 : a = c) (h2 : b = d) (w : World) : (do eqGuard .neq 46 x y (.agg #[.int .i64 a, .int .i64 b]) (.agg #[.int .i64 c, .int .i64 d]); binOp .neq 46 (.agg #[.int .i64 a, .int .i64 b]) (.agg #[.int .i64 c, .int .i64 d]) : Sem Value).run Try.prog w = .ok (.bool false) w := by
  subst h1
  subst h2
  go_simp
theorem nqT {x y : Operand} {m n : Int} (h : m ≠ n) (w : World) : (do eqGuard .neq 27 x y (.int .i64 m) (.int .i64 n); binOp .neq 27 (.int .i64 m) (.int .i64 n) : Sem Value).run Try.prog w = .ok (.bool true) w := by
  rw [neq27]
  simp [h]
theorem nqF {x y : Operand} {m n : Int} (h : m = n) (w : World) : (do eqGuard .neq 27 x y (.int .i64 m) (.int .i64 n); binOp .neq 27 (.int .i64 m) (.int .i64 n) : Sem Value).run Try.prog w = .ok (.bool false) w := by
  rw [neq27]
  simp [h]
theorem eq3d {x y : Operand} (m n : Int) (w : World) : (do eqGuard .eql 3 x y (.int .i64 m) (.int .i64 n); binOp .eql 3 (.int .i64 m) (.int .i64 n) : Sem Value).run Try.prog w = .ok (.bool (decide (m = n))) w := by
  by_cases e : m = n
  · rw [eql3T e]
    simp [e]
  · rw [eql3F e]
    simp [e]
theorem wakes_w (w : World) : Calls Try.prog 16 #[] w fun e w' => ∃ u, e = .returned u ∧ u = .bool true ∧ Below w.heap.size w w' := by
  refine (wakes_any w).mono ?_
  rintro e w' ⟨rfl, hb⟩
  exact ⟨_, rfl, rfl, hb⟩
theorem triedE_valid {o t : Int} {l : List Sale} (hv : Valid o t l) : triedE o t l true = if fitsB t l = true then 0 else 9 := by
  unfold triedE
  rw [hv.fault]
  cases fitsB t l <;> simp
theorem holdsE_valid {o t : Int} {l : List Sale} (hv : Valid o t l) {ow day : Int} (h1 : 0 ≤ ow) (h2 : ow < o) (h3 : 0 ≤ day) (h4 : day ≤ 100) : holdsE o t l ow day = if fitsB t l = true then 0 else 9 := by
  have h : holdsOk o ow day = true := by
    unfold holdsOk
    have e : IntKind.i64.wrap (o - 1) = o - 1 := by
      have a := hv.o1
      have b := hv.o6
      rw [IntKind.wrap_i64]
      omega
    rw [e, inR_iff.2 ⟨h1, by omega⟩, inR_iff.2 ⟨h3, h4⟩]
    rfl
  unfold holdsE
  rw [h]
  exact triedE_valid hv
theorem holdsV_valid {o t : Int} {l : List Sale} (hv : Valid o t l) {ow day : Int} (h1 : 0 ≤ ow) (h2 : ow < o) (h3 : 0 ≤ day) (h4 : day ≤ 100) : holdsV o t l ow day = if fitsB t l = true then holdsR t l ow.toNat day else (0, 0) := by
  unfold holdsV
  rw [holdsE_valid hv h1 h2 h3 h4]
  cases fitsB t l <;> simp
theorem whenE_valid {o t : Int} {l : List Sale} (hv : Valid o t l) {k : Nat} (hk : k < l.length) : whenE o t l k = if fitsB t l = true then 0 else 9 := by
  unfold whenE
  rw [inR_iff.2 (show (0 : Int) ≤ k ∧ (k : Int) ≤ (l.length : Int) - 1 by omega)]
  exact triedE_valid hv
theorem whenV_valid {o t : Int} {l : List Sale} (hv : Valid o t l) {k : Nat} (hk : k < l.length) : whenV o t l k = if fitsB t l = true then whenR t l k else (0, 0) := by
  unfold whenV
  rw [whenE_valid hv hk]
  cases fitsB t l <;> simp
end Go.Proofs.Ytfcnombmphophaa
namespace Go.Proofs.Ytfcnombmphophaa
open Go.RowKit Go.Shelf
theorem bs22_z (w : World) : (Instr.buildSlice 22 0 #[]).run Try.prog w = .ok (.slice (some ⟨w.heap.size, 0, none⟩) 0 0) (w.alloc (.cells #[] 73)) := by
  kernel_rfl
theorem salesL_cons (s : Sale) (l : List Sale) : salesL (s :: l) = saleL s ++ salesL l := rfl
theorem salesL_len : ∀ l : List Sale, (salesL l).length = l.length * 5
  | [] => rfl
  | s :: l => by
    rw [salesL_cons, List.length_append, salesL_len l, List.length_cons]
    simp [saleL]
    omega
theorem salesL_both (l m : List Sale) : salesL (l ++ m) = salesL l ++ salesL m := by simp [salesL]
theorem salesL_get : ∀ {l : List Sale} {j : Nat} {u : Value}, (salesL l)[j]? = some u → ∃ k i s, j = k * 5 + i ∧ i < 5 ∧ l[k]? = some s ∧ (saleL s)[i]? = some u
  | [], j, u, h => by simp [salesL] at h
  | s :: l, j, u, h => by
    rw [salesL_cons] at h
    by_cases hj : j < 5
    · rw [List.getElem?_append_left (by simpa [saleL] using hj)] at h
      exact ⟨0, j, s, by omega, hj, rfl, h⟩
    · rw [List.getElem?_append_right (by simp [saleL]; omega)] at h
      obtain ⟨k, i, s', h1, h2, h3, h4⟩ := salesL_get h
      have e : (saleL s).length = 5 := rfl
      exact ⟨k + 1, i, s', by omega, h2, by simpa using h3, h4⟩
theorem salesL_cell {w : World} {B : Nat} {b o : Nat} {l : List Sale} (hs : SalesAt w B (some ⟨b, o, none⟩) l) {j : Nat} {u : Value} (h : (salesL l)[j]? = some u) : w.cell? ⟨b, o + j, none⟩ = some u := by
  obtain ⟨k, i, s, rfl, hi, h3, h4⟩ := salesL_get h
  obtain ⟨b', o', hA, _, s0, s1, s2, s3, s4⟩ := hs k s h3
  cases hA
  have hc : i = 0 ∨ i = 1 ∨ i = 2 ∨ i = 3 ∨ i = 4 := by omega
  rcases hc with rfl | rfl | rfl | rfl | rfl <;> simp [saleL] at h4 <;> subst h4
  · exact s0
  · exact s1
  · exact s2
  · exact s3
  · exact s4
theorem salesL_one {l : List Sale} {u : Value} (h : u ∈ salesL l) : u.oneCell' = true := by
  unfold salesL at h
  obtain ⟨s, _, h2⟩ := List.mem_flatMap.1 h
  simp [saleL] at h2
  rcases h2 with rfl | rfl | rfl | rfl | rfl <;> rfl
theorem sales_addr {w : World} {B : Nat} {A : Option Addr} {l : List Sale} (hs : SalesAt w B A l) : l = [] ∨ ∃ b o, A = some ⟨b, o, none⟩ := by
  cases l with
  | nil => exact .inl rfl
  | cons s l =>
    obtain ⟨b, o, hA, _⟩ := hs 0 s rfl
    exact .inr ⟨b, o, hA⟩
/-- What an append of sales leaves. -/
theorem app22_run (w : World) (ty : TypeId) {base : Nat} {v : Value} {xs ys : List Sale} {A : Option Addr} {c : Nat} (hown : w.ownsRow base 73 5 v xs.length (salesL xs)) (hs : SalesAt w w.heap.size A ys) (hx : xs.length ≤ 100) (hy : ys.length ≤ 100) (hbase : base ≤ w.heap.size) :
    ∃ v' w', (Builtin.append_ #[22, 22] ty #[v, .slice A ys.length c]).run Try.prog w = .ok v' w' ∧ w'.ownsRow base 73 5 v' (xs ++ ys).length (salesL (xs ++ ys)) ∧ w.grownBy w' v.ownBlock ∧ (v'.ownBlock = v.ownBlock ∨ v'.ownBlock = some w.heap.size) := by
  obtain ⟨i0, hi0, hi1, hi2, hi3⟩ := info_parts info73
  by_cases hm : ys = []
  · subst hm
    refine ⟨v, w, ?_, by simpa using hown, ⟨rfl, rfl, rfl, Nat.le_refl _, fun _ _ _ => rfl⟩, .inl rfl⟩
    rcases hown.2 with ⟨rfl, h0⟩ | ⟨g, cap, cur, rfl, hb, hg, hc, _⟩
    · cases A <;> simp [Builtin.append_, run_underlying Try.underlying22, sizeOf, typeInfo, hi0, Builtin.lenOf, Builtin.firstCells, loadCells, loadCellsFrom]
    · cases A <;> simp [Builtin.append_, run_underlying Try.underlying22, sizeOf, typeInfo, hi0, Builtin.lenOf, Builtin.firstCells, hc, storeCells, loadCells, loadCellsFrom]
  · obtain ⟨b, o, rfl⟩ := (sales_addr hs).resolve_left hm
    have hpos : 0 < ys.length := List.length_pos_iff.2 hm
    obtain ⟨g, cap, w', hr, h2, h3, h4, _⟩ := run_append_lies (P := Try.prog) w 22 ty base 73 i0 _ 5 40 Try.underlying22 hi0 hi1 hi2 hi3 rfl (by omega) v xs.length (salesL xs) hown ⟨b, o, none⟩ ys.length c (salesL ys) (salesL_len ys)
      (fun j u hu => by
        have := salesL_cell hs hu
        simp only [Addr.add]
        split
        · rename_i h0
          subst h0
          simpa using this
        · exact this) (fun u hu => salesL_one hu) hpos (by unfold maxLen; omega) (by omega) hbase w.heap.size rfl
    refine ⟨_, w', hr, by rw [List.length_append, salesL_both]; exact h2, h3, ?_⟩
    rcases h4 with h4 | h4
    · exact .inl h4.symm
    · subst h4
      exact .inr rfl
theorem ListK.app22 {ops : Array Oper} {K : Act → World → Prop} {k i d : Nat} {a : Act} {w w' : World} {ty : TypeId} {pos : String} {aft : Array Edge} {s x : Operand} {v v2 v' : Value} (hi : ops[i]? = some ⟨some d, .call { callee := .builtin .append, args := #[s, x], argTypes := #[22, 22] }, ty, pos, aft, none⟩) (hs : a.eval s = v) (hx : a.eval x = v2)
    (hr : (Builtin.append_ #[22, 22] ty #[v, v2]).run Try.prog w = .ok v' w') (h : ListK Try.prog ops K k (i + 1) (a.put (some d) v') w') : ListK Try.prog ops K (k + 1) i a w := by
  refine ListK.val hi rfl ?_ h
  simp [execOp, resolve, invoke, builtin, hs, hx, hr]
/-- A copy of the sales of a batch: what 'append([]Sale{}, sales...)' leaves, behind the store into the cell of another batch. -/
theorem copy_run {W0 w : World} {b3 px : Nat} {A : Option Addr} {l : List Sale} {c : Nat} {ty : TypeId} {x y u : Value} (hs0 : SalesAt W0 b3 A l) (hB : Below b3 W0 w) (hl : l.length ≤ 100) (hp : b3 ≤ px) (hx : Whole w px 24 #[x, y, u]) :
    ∃ v' w', (Builtin.append_ #[22, 22] ty #[.slice (some ⟨w.heap.size, 0, none⟩) 0 0, .slice A l.length c]).run Try.prog (w.alloc (.cells #[] 73)) = .ok v' w' ∧ Below w.heap.size w w' ∧ Whole w' px 24 #[x, y, u] ∧
      w'.ownsRow w.heap.size 73 5 v' l.length (salesL l) ∧
      Below b3 W0 (w'.setCell ⟨px, 2, none⟩ v') ∧ Whole (w'.setCell ⟨px, 2, none⟩ v') px 24 #[x, y, v'] ∧ (w'.setCell ⟨px, 2, none⟩ v').ownsRow w.heap.size 73 5 v' l.length (salesL l) ∧ ∀ g t cs, g ≠ px → g < w.heap.size → Whole w g t cs → Whole (w'.setCell ⟨px, 2, none⟩ v') g t cs := by
  have hB1 : Below w.heap.size w (w.alloc (.cells #[] 73)) := (Below.refl _ w).alloc (Nat.le_refl _) _
  have hown : (w.alloc (.cells #[] 73)).ownsRow w.heap.size 73 5 (.slice (some ⟨w.heap.size, 0, none⟩) 0 0) ([] : List Sale).length (salesL []) := by
    have := World.ownsRow_lit (base := w.heap.size) (e := 73) (size := 5) w (#[] : Array Value) 0 (Nat.le_refl _) (by unfold maxLen; omega) (by simp)
    simpa [salesL] using this
  have hs1 : SalesAt (w.alloc (.cells #[] 73)) (w.alloc (.cells #[] 73)).heap.size A l := by
    have h1 := hs0.below hB (Nat.le_refl _)
    have h2 : b3 ≤ w.heap.size := by have := hx.lt; omega
    exact ((h1.more h2).below hB1 (Nat.le_refl _)).more hB1.size
  obtain ⟨v', w', hr, ho, hg, hv⟩ := app22_run (w.alloc (.cells #[] 73)) ty (c := c) hown hs1 (by simp) hl (by simp)
  rw [List.nil_append] at ho
  have hlow : Below w.heap.size w w' := hB1.grown hg hB1.size (fun k e => by simp [Value.ownBlock] at e; omega)
  have hx' := hx.below hlow hx.lt
  have hne : v'.ownBlock = none ∨ v'.ownBlock ≠ some px := by
    refine .inr fun e => ?_
    have := (ho.lt px e).1
    have := hx.lt
    omega
  refine ⟨v', w', hr, hlow, hx', ho, (hB.trans (hlow.mono (by have := hx.lt; omega))).setCell (p := ⟨px, 2, none⟩) hp _, ?_, ho.kept (grown_set _ _ _) hne, fun g t cs h1 h2 h3 => (h3.below hlow h2).far h1 _⟩
  have := hx'.set 2 v'
  simpa using this
/-- A row of sales that may be written. -/
theorem row_facts {w : World} {B g n c : Nat} {l : List Sale} (h : w.ownsRow B 73 5 (.slice (some ⟨g, 0, none⟩) n c) n (salesL l)) (hn : n = l.length) : B ≤ g ∧ g < w.heap.size ∧ SalesAt w w.heap.size (some ⟨g, 0, none⟩) l ∧ ∀ j, j < n * 5 → w.frozen? ⟨g, j, none⟩ = false := by
  subst hn
  obtain ⟨A, c', e, hs⟩ := sales_of_owns73 h
  cases e
  have hlt := h.lt g rfl
  refine ⟨hlt.1, hlt.2, hs, fun j hj => ?_⟩
  rcases h.2 with ⟨e, _⟩ | ⟨g', cap, cur, e, hb, hg, _⟩
  · cases e
  · cases e
    simp [World.frozen?, hg]
theorem salesL_set : ∀ (l : List Sale) (k : Nat) (s s' : Sale) (j : Nat) (u : Value), l[k]? = some s → j < 5 → saleL s' = (saleL s).set j u → salesL (l.set k s') = (salesL l).set (k * 5 + j) u
  | [], k, s, s', j, u, h, _, _ => by simp at h
  | x :: l, 0, s, s', j, u, h, hj, e => by
    simp at h
    subst h
    rw [List.set_cons_zero, salesL_cons, salesL_cons, e, List.set_append_left _ _ (by simpa [saleL] using hj)]
    simp
  | x :: l, k + 1, s, s', j, u, h, hj, e => by
    have hlen : (saleL x).length = 5 := rfl
    rw [List.set_cons_succ, salesL_cons, salesL_cons, salesL_set l k s s' j u (by simpa using h) hj e, List.set_append_right _ _ (by omega)]
    congr 2
    omega
theorem row_set {w : World} {B g n c : Nat} {l : List Sale} (h : w.ownsRow B 73 5 (.slice (some ⟨g, 0, none⟩) n c) n (salesL l)) {k j : Nat} {s s' : Sale} {u : Value} (hk : l[k]? = some s) (hj : j < 5) (e : saleL s' = (saleL s).set j u) :
    (w.setCell ⟨g, k * 5 + j, none⟩ u).ownsRow B 73 5 (.slice (some ⟨g, 0, none⟩) n c) n (salesL (l.set k s')) := by
  rw [salesL_set l k s s' j u hk hj e]
  refine ⟨by rw [List.length_set]; exact h.1, ?_⟩
  rcases h.2 with ⟨e, _⟩ | ⟨g', cap, cur, e, hb, hg, h1, h2, h3, h4⟩
  · cases e
  · cases e
    refine .inr ⟨g, c, cur.setIfInBounds (k * 5 + j) u, rfl, hb, ?_, h1, h2, by simpa using h3, ?_⟩
    · simp [World.setCell, Array.getElem?_modify, hg]
    · rw [Array.toList_setIfInBounds, ← h4, List.take_set]
/-- A sale with other days. -/
def withDays (s : Sale) (lo hi : Int) : Sale := ⟨s.src, s.dst, s.many, lo, hi⟩
end Go.Proofs.Ytfcnombmphophaa
namespace Go.Proofs.Ytfcnombmphophaa
open Go.RowKit Go.Shelf
/-- Sales, each on a day, one behind another: from stocks, the last day being x. -/
def GoP (l : List Sale) : (Nat → Int) → Int → List (Nat × Int) → Prop
  | _, _, [] => True
  | st, x, p :: ps => (saleOf l p.1).many ≤ st (saleOf l p.1).src.toNat ∧ (saleOf l p.1).lo ≤ p.2 ∧ p.2 ≤ (saleOf l p.1).hi ∧ x ≤ p.2 ∧ GoP l (sold st (saleOf l p.1)) p.2 ps
/-- All are other sales, none of them in d. -/
def Fresh (l : List Sale) : Nat → List (Nat × Int) → Prop
  | _, [] => True
  | d, p :: ps => p.1 < l.length ∧ d.testBit p.1 = false ∧ Fresh l (d ||| 2 ^ p.1) ps
def dset (d : Nat) (ps : List (Nat × Int)) : Nat := ps.foldl (fun d p => d ||| 2 ^ p.1) d
def lastD (x : Int) (ps : List (Nat × Int)) : Int := ps.foldl (fun _ p => p.2) x
@[simp] theorem dset_nil (d : Nat) : dset d [] = d := rfl
@[simp] theorem dset_cons (d : Nat) (p : Nat × Int) (ps : List (Nat × Int)) : dset d (p :: ps) = dset (d ||| 2 ^ p.1) ps := rfl
@[simp] theorem lastD_nil (x : Int) : lastD x [] = x := rfl
@[simp] theorem lastD_cons (x : Int) (p : Nat × Int) (ps : List (Nat × Int)) : lastD x (p :: ps) = lastD p.2 ps := rfl
theorem dset_app (d : Nat) (ps qs : List (Nat × Int)) : dset d (ps ++ qs) = dset (dset d ps) qs := List.foldl_append
theorem Fresh.app {l : List Sale} : ∀ {ps qs : List (Nat × Int)} {d : Nat}, Fresh l d (ps ++ qs) ↔ Fresh l d ps ∧ Fresh l (dset d ps) qs
  | [], _, _ => by simp [Fresh]
  | p :: ps, qs, d => by
    simp only [List.cons_append, Fresh, dset_cons]
    rw [Fresh.app (ps := ps)]
    exact ⟨fun ⟨a, b, c, e⟩ => ⟨⟨a, b, c⟩, e⟩, fun ⟨⟨a, b, c⟩, e⟩ => ⟨a, b, c, e⟩⟩
theorem Fresh.lt {l : List Sale} : ∀ {ps : List (Nat × Int)} {d : Nat}, d < 2 ^ l.length → Fresh l d ps → dset d ps < 2 ^ l.length
  | [], _, h, _ => h
  | p :: ps, d, h, ⟨a, _, c⟩ => by
    rw [dset_cons]
    exact Fresh.lt (Nat.or_lt_two_pow h (Nat.pow_lt_pow_right (by omega) a)) c
theorem GoP.app {t : Int} {l : List Sale} : ∀ {ps qs : List (Nat × Int)} {d : Nat} {x : Int}, Fresh l d ps → (GoP l (stocksOf t l d) x (ps ++ qs) ↔ GoP l (stocksOf t l d) x ps ∧ GoP l (stocksOf t l (dset d ps)) (lastD x ps) qs)
  | [], _, _, _, _ => by simp [GoP]
  | p :: ps, qs, d, x, ⟨a, b, c⟩ => by
    simp only [List.cons_append, GoP, dset_cons, lastD_cons]
    rw [← stocksOf_or b a, GoP.app (ps := ps) c]
    exact ⟨fun ⟨a, b, c, e, f, g⟩ => ⟨⟨a, b, c, e, f⟩, g⟩, fun ⟨⟨a, b, c, e, f⟩, g⟩ => ⟨a, b, c, e, f, g⟩⟩
theorem GoP.mono {l : List Sale} : ∀ {ps : List (Nat × Int)} {st : Nat → Int} {x : Int}, GoP l st x ps → x ≤ lastD x ps ∧ ∀ p, p ∈ ps → x ≤ p.2 ∧ p.2 ≤ lastD x ps ∧ (saleOf l p.1).lo ≤ p.2 ∧ p.2 ≤ (saleOf l p.1).hi
  | [], _, x, _ => ⟨Int.le_refl _, fun p h => (by cases h)⟩
  | p :: ps, st, x, ⟨_, a, b, c, d⟩ => by
    obtain ⟨h1, h2⟩ := GoP.mono d
    rw [lastD_cons]
    refine ⟨by omega, fun q hq => ?_⟩
    rcases List.mem_cons.1 hq with rfl | hq
    · exact ⟨c, h1, a, b⟩
    · have := h2 q hq
      omega
theorem GoP.low {l : List Sale} {ps : List (Nat × Int)} {st : Nat → Int} {x y : Int} (h : GoP l st x ps) (hy : ∀ p, p ∈ ps → y ≤ p.2) : GoP l st y ps := by
  cases ps with
  | nil => trivial
  | cons p ps => exact ⟨h.1, h.2.1, h.2.2.1, hy p List.mem_cons_self, h.2.2.2.2⟩
theorem saleOf_valid {o t : Int} {l : List Sale} (hv : Valid o t l) {n : Nat} (hn : n < l.length) : 0 ≤ (saleOf l n).src ∧ (saleOf l n).src < o ∧ 0 ≤ (saleOf l n).dst ∧ (saleOf l n).dst < o ∧ (saleOf l n).src ≠ (saleOf l n).dst ∧ 1 ≤ (saleOf l n).many ∧ (saleOf l n).many ≤ 1000 ∧ 0 ≤ (saleOf l n).lo ∧ (saleOf l n).lo ≤ (saleOf l n).hi ∧ (saleOf l n).hi ≤ 100 := by
  have := hv.at_ (List.getElem?_eq_getElem hn)
  rwa [← saleOf_eq (List.getElem?_eq_getElem hn)] at this
/-- A run begins no sooner than the table says. -/
theorem go_early {o t : Int} {l : List Sale} (hv : Valid o t l) : ∀ {ps : List (Nat × Int)} {d : Nat} {x : Int}, d < 2 ^ l.length → Fresh l d ps → GoP l (stocksOf t l d) x ps → early t l d ≤ x → x ≤ 100 → early t l (dset d ps) ≤ lastD x ps ∧ lastD x ps ≤ 100
  | [], _, _, _, _, _, h, h2 => ⟨h, h2⟩
  | p :: ps, d, x, hd, ⟨f1, f2, f3⟩, ⟨g1, g2, g3, g4, g5⟩, h, h2 => by
    have hf := saleOf_valid hv f1
    rw [← stocksOf_or f2 f1] at g5
    have hs := early_step (t := t) (k := p.1) hd (by omega) (by unfold nextB; simp [f1, f2, g1]) (by omega)
    rw [dset_cons, lastD_cons]
    exact go_early hv (ps := ps) (d := d ||| 2 ^ p.1) (Nat.or_lt_two_pow hd (Nat.pow_lt_pow_right (by omega) f1)) f3 g5 (by omega) (by omega)
theorem run_go {t : Int} {l : List Sale} {d' : Nat} {x' : Int} : ∀ (ns : List Nat) (d : Nat) (x : Int), RunTo t l d x ns d' x' → ∃ ps, Fresh l d ps ∧ dset d ps = d' ∧ GoP l (stocksOf t l d) x ps ∧ lastD x ps = x'
  | [], d, x, ⟨h1, h2⟩ => ⟨[], trivial, h1, trivial, h2⟩
  | n :: ns, d, x, ⟨h1, h2, h3⟩ => by
    obtain ⟨hn, hb, hm⟩ := nextB_facts h1
    obtain ⟨ps, a, b, c, e⟩ := run_go ns _ _ h3
    rw [stocksOf_or hb hn] at c
    exact ⟨(n, max x (saleOf l n).lo) :: ps, ⟨hn, hb, a⟩, b, ⟨hm, Int.le_max_right _ _, h2, Int.le_max_left _ _, c⟩, e⟩
/-- The first day of a set is reached. -/
theorem early_go {o t : Int} {l : List Sale} (hv : Valid o t l) {d : Nat} (h : early t l d ≠ 101) : ∃ ps, Fresh l 0 ps ∧ dset 0 ps = d ∧ GoP l (stocksOf t l 0) 0 ps ∧ lastD 0 ps = early t l d := by
  obtain ⟨ns, hns⟩ := early_run hv _ d h
  exact run_go ns 0 0 hns
/-! The table of last days. -/
theorem stepL_other {l : List Sale} {d e k : Nat} (L : Nat → Int) (h : e ≠ d) : stepL l d L k e = L e := by
  unfold stepL
  split
  · unfold upd
    rw [if_neg h]
  · rfl
theorem foldL_other {l : List Sale} {d e : Nat} (h : e ≠ d) : ∀ (ks : List Nat) (L : Nat → Int), (ks.foldl (stepL l d) L) e = L e
  | [], _ => rfl
  | k :: ks, L => (foldL_other h ks _).trans (stepL_other L h)
/-- What one sale says of the last day of d. -/
def lastOf (l : List Sale) (L : Nat → Int) (d k : Nat) : Int := min (L (d ||| 2 ^ k)) (saleOf l k).hi
theorem foldL_spec {l : List Sale} {d : Nat} : ∀ (ks : List Nat), (∀ k, k ∈ ks → d.testBit k = false) → ∀ L : Nat → Int,
    (∀ k, k ∈ ks → (saleOf l k).lo ≤ lastOf l L d k → lastOf l L d k ≤ (ks.foldl (stepL l d) L) d) ∧ L d ≤ (ks.foldl (stepL l d) L) d ∧
    ((ks.foldl (stepL l d) L) d = L d ∨ ∃ k, k ∈ ks ∧ (saleOf l k).lo ≤ lastOf l L d k ∧ (ks.foldl (stepL l d) L) d = lastOf l L d k)
  | [], _, L => ⟨fun k h => (by cases h), Int.le_refl _, .inl rfl⟩
  | j :: ks, hb, L => by
    have hsame : ∀ k, k ∈ ks → lastOf l (stepL l d L j) d k = lastOf l L d k := fun k hk => by
      unfold lastOf
      rw [stepL_other L (by have := or_gt (hb k (List.mem_cons_of_mem _ hk)); omega)]
    obtain ⟨h1, h2, h3⟩ := foldL_spec ks (fun k hk => hb k (List.mem_cons_of_mem _ hk)) (stepL l d L j)
    have hj : stepL l d L j d = if (saleOf l j).lo ≤ lastOf l L d j then max (L d) (lastOf l L d j) else L d := by
      unfold stepL lastOf
      split
      · simp [upd]
      · rfl
    rw [hj] at h2 h3
    rw [List.foldl_cons]
    refine ⟨fun k hk hle => ?_, ?_, ?_⟩
    · rcases List.mem_cons.1 hk with rfl | hk
      · rw [if_pos hle] at h2
        exact Int.le_trans (Int.le_max_right _ _) h2
      · have := h1 k hk
        rw [hsame k hk] at this
        exact this hle
    · split at h2 <;> omega
    · rcases h3 with h3 | ⟨k, hk, h3, h4⟩
      · split at h3
        · rename_i hle
          by_cases hm : L d ≤ lastOf l L d j
          · exact .inr ⟨j, List.mem_cons_self, hle, by omega⟩
          · exact .inl (by omega)
        · exact .inl h3
      · rw [hsame k hk] at h3 h4
        exact .inr ⟨k, List.mem_cons_of_mem _ hk, h3, h4⟩
theorem lateTo_keep (t : Int) (l : List Sale) {e j : Nat} (he : 2 ^ l.length ≤ e + j + 1) : ∀ i, j + i ≤ 2 ^ l.length - 1 → lateTo t l (j + i) e = lateTo t l j e
  | 0, _ => rfl
  | i + 1, h => by
    rw [← lateTo_keep t l he i (by omega)]
    show lateTo t l (j + i + 1) e = _
    conv => lhs; unfold lateTo
    exact foldL_other (by omega) _ _
theorem late_whole (t : Int) (l : List Sale) : late t l (2 ^ l.length - 1) = 101 := by
  have := lateTo_keep t l (e := 2 ^ l.length - 1) (j := 0) (by omega) (2 ^ l.length - 1) (by omega)
  rw [Nat.zero_add] at this
  unfold late
  rw [this]
  simp [lateTo, upd]
theorem lateTo_start (t : Int) (l : List Sale) {e : Nat} : ∀ j, e + j + 1 < 2 ^ l.length → lateTo t l j e = -1
  | 0, h => by
    simp [lateTo, upd]
    omega
  | j + 1, h => by
    conv => lhs; unfold lateTo
    rw [foldL_other (by omega)]
    exact lateTo_start t l j (by omega)
theorem late_spec (t : Int) (l : List Sale) {d : Nat} (hd : d < 2 ^ l.length - 1) :
    (∀ k, nextB t l d k = true → (saleOf l k).lo ≤ lastOf l (late t l) d k → lastOf l (late t l) d k ≤ late t l d) ∧
    (late t l d = -1 ∨ ∃ k, nextB t l d k = true ∧ (saleOf l k).lo ≤ lastOf l (late t l) d k ∧ late t l d = lastOf l (late t l) d k) := by
  have e0 : 2 ^ l.length - 2 - (2 ^ l.length - 2 - d) = d := by omega
  have hl : late t l d = ((nextL t l d).foldl (stepL l d) (lateTo t l (2 ^ l.length - 2 - d))) d := by
    have := lateTo_keep t l (e := d) (j := 2 ^ l.length - 2 - d + 1) (by omega) d (by omega)
    unfold late
    rw [show 2 ^ l.length - 2 - d + 1 + d = 2 ^ l.length - 1 by omega] at this
    rw [this]
    conv => lhs; unfold lateTo
    rw [e0]
  have hsame : ∀ k, d.testBit k = false → lastOf l (lateTo t l (2 ^ l.length - 2 - d)) d k = lastOf l (late t l) d k := fun k hk => by
    unfold lastOf
    have hgt := or_gt hk
    have := lateTo_keep t l (e := d ||| 2 ^ k) (j := 2 ^ l.length - 2 - d) (by omega) (d + 1) (by omega)
    rw [← this]
    unfold late
    rw [show 2 ^ l.length - 2 - d + (d + 1) = 2 ^ l.length - 1 by omega]
  have h0 : lateTo t l (2 ^ l.length - 2 - d) d = -1 := lateTo_start t l _ (by omega)
  obtain ⟨h1, h2, h3⟩ := foldL_spec (l := l) (d := d) (nextL t l d) (next_bits t l d) (lateTo t l (2 ^ l.length - 2 - d))
  rw [← hl] at h1 h2 h3
  refine ⟨fun k hk hle => ?_, ?_⟩
  · obtain ⟨hn, hb, _⟩ := nextB_facts hk
    have := h1 k (List.mem_filter.2 ⟨List.mem_range.2 hn, hk⟩)
    rw [hsame k hb] at this
    exact this hle
  · rcases h3 with h3 | ⟨k, hk, h3, h4⟩
    · exact .inl (h3.trans h0)
    · have hk' := (List.mem_filter.1 hk).2
      rw [hsame k (nextB_facts hk').2.1] at h3 h4
      exact .inr ⟨k, hk', h3, h4⟩
/-- A run to the end begins no later than the table says. -/
theorem go_late {o t : Int} {l : List Sale} (hv : Valid o t l) : ∀ {ps : List (Nat × Int)} {d : Nat} {x : Int}, d < 2 ^ l.length → Fresh l d ps → dset d ps = 2 ^ l.length - 1 → GoP l (stocksOf t l d) x ps → x ≤ 101 → x ≤ late t l d
  | [], d, x, _, _, h, _, h2 => by
    have : d = 2 ^ l.length - 1 := h
    rw [this, late_whole]
    exact h2
  | p :: ps, d, x, hd, ⟨f1, f2, f3⟩, h, ⟨g1, g2, g3, g4, g5⟩, h2 => by
    have hf := saleOf_valid hv f1
    rw [← stocksOf_or f2 f1] at g5
    have hlt := Nat.or_lt_two_pow hd (Nat.pow_lt_pow_right (by omega : 1 < 2) f1)
    have ih := go_late hv hlt f3 h g5 (by omega)
    have hgt := or_gt f2
    have := (late_spec t l (d := d) (by omega)).1 p.1 (by unfold nextB; simp [f1, f2, g1]) (by unfold lastOf; omega)
    unfold lastOf at this
    omega
/-- The last day from a set is reached. -/
theorem late_go {o t : Int} {l : List Sale} (hv : Valid o t l) : ∀ (f d : Nat) (x : Int), d + f = 2 ^ l.length - 1 → 0 ≤ x → x ≤ late t l d → ∃ ps, Fresh l d ps ∧ dset d ps = 2 ^ l.length - 1 ∧ GoP l (stocksOf t l d) x ps
  | 0, d, x, h, _, _ => ⟨[], trivial, h, trivial⟩
  | f + 1, d, x, h, h0, hx => by
    have := Nat.two_pow_pos l.length
    rcases (late_spec t l (d := d) (by omega)).2 with h1 | ⟨k, hk, h1, h2⟩
    · omega
    · obtain ⟨hn, hb, hm⟩ := nextB_facts hk
      have hgt := or_gt hb
      have hlt := Nat.or_lt_two_pow (show d < 2 ^ l.length by omega) (Nat.pow_lt_pow_right (by omega : 1 < 2) hn)
      unfold lastOf at h1 h2
      obtain ⟨ps, a, b, c⟩ := late_go hv (2 ^ l.length - 1 - (d ||| 2 ^ k)) (d ||| 2 ^ k) (late t l d) (by omega) (by omega) (by omega)
      rw [stocksOf_or hb hn] at c
      exact ⟨(k, late t l d) :: ps, ⟨hn, hb, a⟩, b, ⟨hm, by show (saleOf l k).lo ≤ late t l d; omega, by show late t l d ≤ (saleOf l k).hi; omega, hx, c⟩⟩
  termination_by f => f
  decreasing_by omega
end Go.Proofs.Ytfcnombmphophaa
namespace Go.Proofs.Ytfcnombmphophaa
open Go.RowKit Go.Shelf
/-- A truth: all sales, each on a day. -/
structure TruP (t : Int) (l : List Sale) (ps : List (Nat × Int)) : Prop where
  fresh : Fresh l 0 ps
  all : dset 0 ps = 2 ^ l.length - 1
  go : GoP l (stocksOf t l 0) 0 ps
theorem early_zero (t : Int) (l : List Sale) : early t l 0 = 0 := by
  rw [early_at t l (Nat.two_pow_pos _)]
  simp [earlyTo, upd]
theorem fits_tru {o t : Int} {l : List Sale} (hv : Valid o t l) : fitsB t l = true ↔ ∃ ps, TruP t l ps := by
  constructor
  · intro h
    unfold fitsB at h
    obtain ⟨ps, a, b, c, _⟩ := early_go hv (d := 2 ^ l.length - 1) (by simpa using h)
    exact ⟨ps, a, b, c⟩
  · rintro ⟨ps, a, b, c⟩
    have := go_early hv (Nat.two_pow_pos _) a c (by rw [early_zero]; omega) (by omega)
    rw [b] at this
    unfold fitsB
    simp
    omega
theorem spanIs_facts {t : Int} {l : List Sale} {d k : Nat} (h : spanIs t l d k = true) : d.testBit k = false ∧ early t l d ≠ 101 ∧ (saleOf l k).many ≤ stocksOf t l d (saleOf l k).src.toNat ∧
    spanR t l d k = (max (early t l d) (saleOf l k).lo, min (late t l (d ||| 2 ^ k)) (saleOf l k).hi) ∧ (spanR t l d k).1 ≤ (spanR t l d k).2 := by
  unfold spanIs at h
  rw [Bool.and_eq_true, decide_eq_true_eq] at h
  obtain ⟨h1, h2⟩ := h
  have h3 : spanR t l d k = (max (early t l d) (saleOf l k).lo, min (late t l (d ||| 2 ^ k)) (saleOf l k).hi) := by
    unfold spanR
    rw [if_pos h1]
  unfold spanB at h1
  simp at h1
  exact ⟨h1.1, h1.2.1, h1.2.2, h3, h2⟩
theorem span_tru {o t : Int} {l : List Sale} (hv : Valid o t l) {d k : Nat} {y : Int} (hd : d < 2 ^ l.length) (hk : k < l.length) (h : spanIs t l d k = true) (h1 : (spanR t l d k).1 ≤ y) (h2 : y ≤ (spanR t l d k).2) : ∃ ps, TruP t l ps ∧ (k, y) ∈ ps := by
  obtain ⟨hb, he, hm, hr, _⟩ := spanIs_facts h
  rw [hr] at h1 h2
  simp only at h1 h2
  have hf := saleOf_valid hv hk
  obtain ⟨ps, a, b, c, e⟩ := early_go hv he
  have hlt := Nat.or_lt_two_pow hd (Nat.pow_lt_pow_right (by omega : 1 < 2) hk)
  obtain ⟨qs, a2, b2, c2⟩ := late_go hv (2 ^ l.length - 1 - (d ||| 2 ^ k)) (d ||| 2 ^ k) y (by omega) (by omega) (by omega)
  refine ⟨ps ++ (k, y) :: qs, ⟨Fresh.app.2 ⟨a, by rw [b]; exact ⟨hk, hb, a2⟩⟩, by rw [dset_app, b, dset_cons]; exact b2, (GoP.app a).2 ⟨c, ?_⟩⟩, by simp⟩
  rw [b, e]
  refine ⟨hm, ?_, ?_, ?_, ?_⟩
  · show (saleOf l k).lo ≤ y
    omega
  · show y ≤ (saleOf l k).hi
    omega
  · show early t l d ≤ y
    omega
  · rw [← stocksOf_or hb hk]
    exact c2
theorem tru_span {o t : Int} {l : List Sale} (hv : Valid o t l) {ps : List (Nat × Int)} (h : TruP t l ps) {k : Nat} {y : Int} (hm : (k, y) ∈ ps) : k < l.length ∧ ∃ d, d < 2 ^ l.length ∧ spanIs t l d k = true ∧ (spanR t l d k).1 ≤ y ∧ y ≤ (spanR t l d k).2 := by
  obtain ⟨p1, p2, rfl⟩ := List.append_of_mem hm
  obtain ⟨f1, hk, hb, f3⟩ := Fresh.app.1 h.fresh
  obtain ⟨g1, gm, glo, ghi, gx, g3⟩ := (GoP.app f1).1 h.go
  have hall := h.all
  rw [dset_app, dset_cons] at hall
  simp only at hk hb f3 gm glo ghi gx g3 hall
  have hd := Fresh.lt (Nat.two_pow_pos _) f1
  obtain ⟨e1, e2⟩ := go_early hv (Nat.two_pow_pos _) f1 g1 (by rw [early_zero]; omega) (by omega)
  have hlt := Nat.or_lt_two_pow hd (Nat.pow_lt_pow_right (by omega : 1 < 2) hk)
  have hf := saleOf_valid hv hk
  rw [← stocksOf_or hb hk] at g3
  have hl := go_late hv hlt f3 hall g3 (by omega)
  have hsb : spanB t l (dset 0 p1) k = true := by
    unfold spanB
    simp [hb, gm]
    omega
  have hr : spanR t l (dset 0 p1) k = (max (early t l (dset 0 p1)) (saleOf l k).lo, min (late t l (dset 0 p1 ||| 2 ^ k)) (saleOf l k).hi) := by
    unfold spanR
    rw [if_pos hsb]
  refine ⟨hk, dset 0 p1, hd, ?_, ?_, ?_⟩
  · unfold spanIs
    rw [hsb, hr]
    simp
    omega
  · rw [hr]
    show max _ _ ≤ y
    omega
  · rw [hr]
    show y ≤ min _ _
    omega
/-- A range of all that is right among the first. -/
theorem range_spec {f : Nat → Int × Int} {is : Nat → Bool} {r : Nat → Int × Int} (hstep : ∀ d, f (d + 1) = if is d = true then (min (f d).1 (r d).1, max (f d).2 (r d).2) else f d) {M : Nat} (h0 : ∀ d, d < M → is d = true → (r d).1 ≤ (f 0).1 ∧ (f 0).2 ≤ (r d).2) :
    ∀ N, N ≤ M → (∀ d, d < N → is d = true → (f N).1 ≤ (r d).1 ∧ (r d).2 ≤ (f N).2) ∧
      ((f N = f 0 ∧ ∀ d, d < N → is d = false) ∨ ((∃ d, d < N ∧ is d = true ∧ (f N).1 = (r d).1) ∧ ∃ d, d < N ∧ is d = true ∧ (f N).2 = (r d).2))
  | 0, _ => ⟨fun d h => by omega, .inl ⟨rfl, fun d h => by omega⟩⟩
  | N + 1, hN => by
    obtain ⟨h1, h2⟩ := range_spec hstep h0 N (by omega)
    rw [hstep N]
    by_cases hi : is N = true
    · rw [if_pos hi]
      have hb := h0 N (by omega) hi
      refine ⟨fun d hd hd2 => ?_, .inr ?_⟩
      · by_cases e : d = N
        · subst e
          exact ⟨by show min _ _ ≤ _; omega, by show _ ≤ max _ _; omega⟩
        · have := h1 d (by omega) hd2
          exact ⟨by show min _ _ ≤ _; omega, by show _ ≤ max _ _; omega⟩
      · have hself : N < N + 1 := by omega
        rcases h2 with ⟨h2, _⟩ | ⟨⟨d, a, b, c⟩, d', a', b', c'⟩
        · rw [h2]
          exact ⟨⟨N, hself, hi, by show min _ _ = _; omega⟩, N, hself, hi, by show max _ _ = _; omega⟩
        · constructor
          · by_cases hm : (f N).1 ≤ (r N).1
            · exact ⟨d, by omega, b, by show min _ _ = _; omega⟩
            · exact ⟨N, hself, hi, by show min _ _ = _; omega⟩
          · by_cases hm : (r N).2 ≤ (f N).2
            · exact ⟨d', by omega, b', by show max _ _ = _; omega⟩
            · exact ⟨N, hself, hi, by show max _ _ = _; omega⟩
    · rw [if_neg hi]
      refine ⟨fun d hd hd2 => ?_, ?_⟩
      · by_cases e : d = N
        · rw [e] at hd2
          exact absurd hd2 hi
        · exact h1 d (by omega) hd2
      rcases h2 with ⟨a, b⟩ | ⟨⟨d, a, b, c⟩, d', a', b', c'⟩
      · refine .inl ⟨a, fun d hd => ?_⟩
        by_cases e : d = N
        · rw [e]; simpa using hi
        · exact b d (by omega)
      · exact .inr ⟨⟨d, by omega, b, c⟩, d', by omega, b', c'⟩
/-- What When says. -/
theorem when_sem {o t : Int} {l : List Sale} (hv : Valid o t l) (hf : fitsB t l = true) {k : Nat} (hk : k < l.length) :
    (∀ ps y, TruP t l ps → (k, y) ∈ ps → (whenR t l k).1 ≤ y ∧ y ≤ (whenR t l k).2) ∧ (∃ ps, TruP t l ps ∧ (k, (whenR t l k).1) ∈ ps) ∧ ∃ ps, TruP t l ps ∧ (k, (whenR t l k).2) ∈ ps := by
  have hfk := saleOf_valid hv hk
  obtain ⟨h1, h2⟩ := range_spec (f := whenTo t l k) (is := fun d => spanIs t l d k) (r := fun d => spanR t l d k) (fun d => rfl) (M := 2 ^ l.length) (fun d _ h => by
    obtain ⟨_, _, _, hr, hle⟩ := spanIs_facts h
    rw [hr] at hle ⊢
    simp only at hle
    exact ⟨by show max _ _ ≤ (101 : Int); omega, by show (-1 : Int) ≤ min _ _; omega⟩) (2 ^ l.length) (Nat.le_refl _)
  have hx : ∀ ps y, TruP t l ps → (k, y) ∈ ps → (whenR t l k).1 ≤ y ∧ y ≤ (whenR t l k).2 := fun ps y hp hm => by
    obtain ⟨_, d, a, b, c, e⟩ := tru_span hv hp hm
    have := h1 d a b
    unfold whenR
    omega
  refine ⟨hx, ?_⟩
  rcases h2 with ⟨_, h2⟩ | ⟨⟨d, a, b, c⟩, d', a', b', c'⟩
  · exfalso
    obtain ⟨ps, hp⟩ := (fits_tru hv).1 hf
    have : ∃ y, (k, y) ∈ ps := by
      have hbit : (dset 0 ps).testBit k = true := by
        rw [hp.all, Nat.testBit_two_pow_sub_one]
        simpa using hk
      have key : ∀ (qs : List (Nat × Int)) (d : Nat), (dset d qs).testBit k = true → d.testBit k = true ∨ ∃ y, (k, y) ∈ qs := by
        intro qs
        induction qs with
        | nil => intro d h; exact .inl h
        | cons q qs ih =>
          intro d h
          rcases ih _ h with h | ⟨y, h⟩
          · by_cases e : q.1 = k
            · exact .inr ⟨q.2, by rw [← e]; exact List.mem_cons_self⟩
            · rw [Nat.testBit_or, Nat.testBit_two_pow_of_ne e] at h
              exact .inl (by simpa using h)
          · exact .inr ⟨y, List.mem_cons_of_mem _ h⟩
      exact (key ps 0 hbit).resolve_left (by simp)
    obtain ⟨y, hy⟩ := this
    obtain ⟨_, d, a, b, _⟩ := tru_span hv hp hy
    rw [h2 d a] at b
    cases b
  · have hle := (spanIs_facts b).2.2.2.2
    have hle' := (spanIs_facts b').2.2.2.2
    refine ⟨span_tru hv a hk b ?_ ?_, span_tru hv a' hk b' ?_ ?_⟩
    · unfold whenR; omega
    · unfold whenR; omega
    · unfold whenR; omega
    · unfold whenR; omega
/-- The sales that are done on the evening of a day. -/
def eveSet (ps : List (Nat × Int)) (day : Int) : Nat := dset 0 (ps.filter fun p => decide (p.2 ≤ day))
theorem lastD_le {y : Int} : ∀ {ps : List (Nat × Int)} {x : Int}, x ≤ y → (∀ p, p ∈ ps → p.2 ≤ y) → lastD x ps ≤ y
  | [], _, h, _ => h
  | p :: ps, x, _, h2 => by
    rw [lastD_cons]
    exact lastD_le (h2 p List.mem_cons_self) fun q hq => h2 q (List.mem_cons_of_mem _ hq)
theorem go_split {l : List Sale} (day : Int) : ∀ {ps : List (Nat × Int)} {st : Nat → Int} {x : Int}, GoP l st x ps → ∃ pre post, ps = pre ++ post ∧ (∀ p, p ∈ pre → p.2 ≤ day) ∧ ∀ p, p ∈ post → day < p.2
  | [], _, _, _ => ⟨[], [], rfl, fun p h => (by cases h), fun p h => (by cases h)⟩
  | p :: ps, st, x, ⟨_, _, _, _, h⟩ => by
    by_cases e : p.2 ≤ day
    · obtain ⟨a, b, c, d, f⟩ := go_split day h
      refine ⟨p :: a, b, by rw [c]; rfl, fun q hq => ?_, f⟩
      rcases List.mem_cons.1 hq with rfl | hq
      · exact e
      · exact d q hq
    · refine ⟨[], p :: ps, rfl, fun q hq => (by cases hq), fun q hq => ?_⟩
      rcases List.mem_cons.1 hq with rfl | hq
      · omega
      · have := (GoP.mono h).2 q hq
        omega
theorem eve_pre {pre post : List (Nat × Int)} {day : Int} (h1 : ∀ p, p ∈ pre → p.2 ≤ day) (h2 : ∀ p, p ∈ post → day < p.2) : eveSet (pre ++ post) day = dset 0 pre := by
  unfold eveSet
  rw [List.filter_append, List.filter_eq_self.2 (fun p hp => by simpa using h1 p hp), List.filter_eq_nil_iff.2 (fun p hp => by have := h2 p hp; simp; omega), List.append_nil]
theorem eve_tru {o t : Int} {l : List Sale} (hv : Valid o t l) {d : Nat} {day : Int} (hd : d < 2 ^ l.length) (h0 : 0 ≤ day) (h1 : day ≤ 100) (h : eveB t l d day = true) : ∃ ps, TruP t l ps ∧ eveSet ps day = d := by
  unfold eveB at h
  rw [Bool.and_eq_true, decide_eq_true_eq, decide_eq_true_eq] at h
  obtain ⟨ps, a, b, c, e⟩ := early_go hv (d := d) (by omega)
  obtain ⟨qs, a2, b2, c2⟩ := late_go hv (2 ^ l.length - 1 - d) d (day + 1) (by omega) (by omega) (by omega)
  refine ⟨ps ++ qs, ⟨Fresh.app.2 ⟨a, by rw [b]; exact a2⟩, by rw [dset_app, b]; exact b2, (GoP.app a).2 ⟨c, ?_⟩⟩, ?_⟩
  · rw [b, e]
    exact c2.low fun p hp => by have := (GoP.mono c2).2 p hp; omega
  · rw [eve_pre (fun p hp => by have := (GoP.mono c).2 p hp; omega) (fun p hp => by have := (GoP.mono c2).2 p hp; omega), b]
theorem tru_eve {o t : Int} {l : List Sale} (hv : Valid o t l) {ps : List (Nat × Int)} (h : TruP t l ps) {day : Int} (h0 : 0 ≤ day) (h1 : day ≤ 100) : eveSet ps day < 2 ^ l.length ∧ eveB t l (eveSet ps day) day = true := by
  obtain ⟨pre, post, rfl, p1, p2⟩ := go_split day h.go
  rw [eve_pre p1 p2]
  obtain ⟨f1, f2⟩ := Fresh.app.1 h.fresh
  obtain ⟨g1, g2⟩ := (GoP.app f1).1 h.go
  have hall := h.all
  rw [dset_app] at hall
  have hd := Fresh.lt (Nat.two_pow_pos _) f1
  obtain ⟨e1, e2⟩ := go_early hv (Nat.two_pow_pos _) f1 g1 (by rw [early_zero]; omega) (by omega)
  have e3 := lastD_le (ps := pre) h0 p1
  have hl := go_late hv hd f2 hall (g2.low (y := day + 1) fun p hp => by have := p2 p hp; omega) (by omega)
  refine ⟨hd, ?_⟩
  unfold eveB
  simp
  omega
/-! What there is stays the same, and nobody has less than nothing. -/
def sumTo (st : Nat → Int) : Nat → Int
  | 0 => 0
  | n + 1 => sumTo st n + st n
theorem sumTo_upd (st : Nat → Int) (i : Nat) (v : Int) : ∀ n, sumTo (upd st i v) n = sumTo st n + if i < n then v - st i else 0
  | 0 => by simp [sumTo]
  | n + 1 => by
    unfold sumTo
    rw [sumTo_upd st i v n]
    unfold upd
    by_cases h : n = i
    · subst h
      simp
      omega
    · rw [if_neg h]
      by_cases h2 : i < n
      · rw [if_pos h2, if_pos (by omega)]
        omega
      · rw [if_neg h2, if_neg (by omega)]
        omega
theorem sumTo_sold {st : Nat → Int} {s : Sale} {n : Nat} (h1 : s.src.toNat < n) (h2 : s.dst.toNat < n) : sumTo (sold st s) n = sumTo st n := by
  unfold sold
  rw [sumTo_upd, sumTo_upd, if_pos h1, if_pos h2]
  omega
theorem sumTo_le {st : Nat → Int} : ∀ {n : Nat}, (∀ i, i < n → 0 ≤ st i) → 0 ≤ sumTo st n ∧ ∀ i, i < n → st i ≤ sumTo st n
  | 0, _ => ⟨Int.le_refl _, fun i h => by omega⟩
  | n + 1, h => by
    obtain ⟨a, b⟩ := sumTo_le (fun i hi => h i (by omega) : ∀ i, i < n → 0 ≤ st i)
    have hn := h n (by omega)
    unfold sumTo
    refine ⟨by omega, fun i hi => ?_⟩
    by_cases e : i = n
    · subst e; omega
    · have := b i (by omega)
      omega
/-- Stocks that there can be. -/
structure Fair (o t : Int) (st : Nat → Int) : Prop where
  pos : ∀ i, 0 ≤ st i
  sum : sumTo st o.toNat = t
theorem Fair.sold {o t : Int} {st : Nat → Int} {s : Sale} (h : Fair o t st) (h1 : 0 ≤ s.src ∧ s.src < o) (h2 : 0 ≤ s.dst ∧ s.dst < o) (h3 : s.src ≠ s.dst) (hm : 0 ≤ s.many) (hle : s.many ≤ st s.src.toNat) : Fair o t (sold st s) := by
  refine ⟨fun i => ?_, by rw [sumTo_sold (by omega) (by omega), h.sum]⟩
  have a := h.pos i
  have b := h.pos s.dst.toNat
  have hne : s.dst.toNat ≠ s.src.toNat := by omega
  unfold Ytfcnombmphophaa.sold upd
  rw [if_neg hne]
  split
  · omega
  · split <;> omega
theorem Fair.le {o t : Int} {st : Nat → Int} (h : Fair o t st) {i : Nat} (hi : i < o.toNat) : st i ≤ t := by
  have := (sumTo_le fun i _ => h.pos i : 0 ≤ sumTo st o.toNat ∧ _).2 i hi
  rwa [h.sum] at this
theorem fair_begun {o t : Int} {l : List Sale} (hv : Valid o t l) : Fair o t (stocksOf t l 0) := by
  have e : stocksOf t l 0 = upd (fun _ => 0) 0 t := stocksTo_zero _
  have h1 := hv.o1
  have h2 := hv.t0
  have z : ∀ n, sumTo (fun _ => 0) n = 0 := fun n => by
    induction n with
    | zero => rfl
    | succ n ih => simp [sumTo, ih]
  rw [e]
  refine ⟨fun i => ?_, ?_⟩
  · unfold upd
    split
    · exact h2
    · exact Int.le_refl _
  rw [sumTo_upd, z, if_pos (by omega)]
  omega
theorem fair_go {o t : Int} {l : List Sale} (hv : Valid o t l) : ∀ {ps : List (Nat × Int)} {d : Nat} {x : Int}, Fresh l d ps → GoP l (stocksOf t l d) x ps → Fair o t (stocksOf t l d) → Fair o t (stocksOf t l (dset d ps))
  | [], _, _, _, _, h => h
  | p :: ps, d, x, ⟨f1, f2, f3⟩, ⟨g1, g2, g3, g4, g5⟩, h => by
    have hf := saleOf_valid hv f1
    rw [dset_cons]
    rw [← stocksOf_or f2 f1] at g5
    refine fair_go hv f3 g5 ?_
    rw [stocksOf_or f2 f1]
    exact h.sold ⟨hf.1, hf.2.1⟩ ⟨hf.2.2.1, hf.2.2.2.1⟩ hf.2.2.2.2.1 (by omega) g1
theorem fair_early {o t : Int} {l : List Sale} (hv : Valid o t l) {d : Nat} (h : early t l d ≠ 101) : Fair o t (stocksOf t l d) := by
  obtain ⟨ps, a, b, c, _⟩ := early_go hv h
  rw [← b]
  exact fair_go hv a c (fair_begun hv)
/-- What Holds says. -/
theorem holds_sem {o t : Int} {l : List Sale} (hv : Valid o t l) (hf : fitsB t l = true) {ow : Nat} (ho : (ow : Int) < o) {day : Int} (h0 : 0 ≤ day) (h1 : day ≤ 100) :
    (∀ ps, TruP t l ps → (holdsR t l ow day).1 ≤ stocksOf t l (eveSet ps day) ow ∧ stocksOf t l (eveSet ps day) ow ≤ (holdsR t l ow day).2) ∧
    (∃ ps, TruP t l ps ∧ (holdsR t l ow day).1 = stocksOf t l (eveSet ps day) ow) ∧ ∃ ps, TruP t l ps ∧ (holdsR t l ow day).2 = stocksOf t l (eveSet ps day) ow := by
  have ht := hv.t1
  obtain ⟨k1, k2⟩ := range_spec (f := holdsTo t l ow day) (is := fun d => eveB t l d day) (r := fun d => (stocksOf t l d ow, stocksOf t l d ow)) (fun d => rfl) (M := 2 ^ l.length) (fun d _ h => by
    unfold eveB at h
    rw [Bool.and_eq_true, decide_eq_true_eq, decide_eq_true_eq] at h
    have hfa := fair_early hv (d := d) (by omega)
    have a := hfa.pos ow
    have b := hfa.le (i := ow) (by omega)
    exact ⟨by show _ ≤ (1001 : Int); simp only; omega, by show (-1 : Int) ≤ _; simp only; omega⟩) (2 ^ l.length) (Nat.le_refl _)
  refine ⟨fun ps hp => ?_, ?_⟩
  · obtain ⟨a, b⟩ := tru_eve hv hp h0 h1
    exact k1 _ a b
  · rcases k2 with ⟨_, k2⟩ | ⟨⟨d, a, b, c⟩, d', a', b', c'⟩
    · exfalso
      obtain ⟨ps, hp⟩ := (fits_tru hv).1 hf
      obtain ⟨a, b⟩ := tru_eve hv hp h0 h1
      rw [k2 _ a] at b
      cases b
    · obtain ⟨ps, hp, he⟩ := eve_tru hv a h0 h1 b
      obtain ⟨qs, hq, he'⟩ := eve_tru hv a' h0 h1 b'
      exact ⟨⟨ps, hp, by rw [he]; exact c⟩, qs, hq, by rw [he']; exact c'⟩
end Go.Proofs.Ytfcnombmphophaa
namespace Go.Proofs.Ytfcnombmphophaa
open Go.RowKit Go.Shelf
/-- What all have behind some sales. -/
def afterS (l : List Sale) (st : Nat → Int) (ps : List (Nat × Int)) : Nat → Int := ps.foldl (fun st p => sold st (saleOf l p.1)) st
theorem after_set {t : Int} {l : List Sale} : ∀ {ps : List (Nat × Int)} {d : Nat}, Fresh l d ps → stocksOf t l (dset d ps) = afterS l (stocksOf t l d) ps
  | [], _, _ => rfl
  | p :: ps, d, ⟨f1, f2, f3⟩ => by
    rw [dset_cons, after_set f3, stocksOf_or f2 f1]
    rfl
theorem Fresh.sub {l : List Sale} (P : Nat × Int → Bool) : ∀ {ps : List (Nat × Int)} {d d' : Nat}, (∀ k, d.testBit k = false → d'.testBit k = false) → Fresh l d ps → Fresh l d' (ps.filter P)
  | [], _, _, _, _ => trivial
  | p :: ps, d, d', h, ⟨f1, f2, f3⟩ => by
    rw [List.filter_cons]
    split
    · refine ⟨f1, h _ f2, Fresh.sub P (fun k hk => ?_) f3⟩
      rw [Nat.testBit_or] at hk ⊢
      simp only [Bool.or_eq_false_iff] at hk ⊢
      exact ⟨h k hk.1, hk.2⟩
    · refine Fresh.sub P (fun k hk => ?_) f3
      rw [Nat.testBit_or] at hk
      simp only [Bool.or_eq_false_iff] at hk
      exact h k hk.1
/-- What all have on the evening of a day. -/
def eveOf (t : Int) (l : List Sale) (ps : List (Nat × Int)) (day : Int) : Nat → Int := afterS l (upd (fun _ => 0) 0 t) (ps.filter fun p => decide (p.2 ≤ day))
theorem stocks_zero (t : Int) (l : List Sale) : stocksOf t l 0 = upd (fun _ => 0) 0 t := stocksTo_zero _
theorem eve_of {t : Int} {l : List Sale} {ps : List (Nat × Int)} (h : TruP t l ps) (day : Int) : stocksOf t l (eveSet ps day) = eveOf t l ps day := by
  unfold eveSet eveOf
  rw [after_set (h.fresh.sub _ fun _ h => h), stocks_zero]
theorem dset_bit (k : Nat) : ∀ (ps : List (Nat × Int)) (d : Nat), (dset d ps).testBit k = (d.testBit k || decide (k ∈ ps.map (·.1)))
  | [], d => by simp
  | p :: ps, d => by
    rw [dset_cons, dset_bit k ps, Nat.testBit_or, List.map_cons]
    by_cases e : p.1 = k
    · subst e
      simp
    · rw [Nat.testBit_two_pow_of_ne e, Bool.or_false]
      have : (k == p.1) = false := by simpa using fun h : k = p.1 => e h.symm
      simp [this]
theorem fresh_iff {l : List Sale} : ∀ {ps : List (Nat × Int)} {d : Nat}, Fresh l d ps ↔ (ps.map (·.1)).Nodup ∧ ∀ k, k ∈ ps.map (·.1) → k < l.length ∧ d.testBit k = false
  | [], d => by simp [Fresh]
  | p :: ps, d => by
    unfold Fresh
    rw [fresh_iff, List.map_cons, List.nodup_cons]
    constructor
    · rintro ⟨h1, h2, h3, h4⟩
      refine ⟨⟨fun hm => ?_, h3⟩, fun k hk => ?_⟩
      · have := (h4 _ hm).2
        rw [Nat.testBit_or, Nat.testBit_two_pow_self] at this
        simp at this
      · rcases List.mem_cons.1 hk with rfl | hk
        · exact ⟨h1, h2⟩
        · have := h4 k hk
          rw [Nat.testBit_or] at this
          simp only [Bool.or_eq_false_iff] at this
          exact ⟨this.1, this.2.1⟩
    · rintro ⟨⟨h1, h2⟩, h3⟩
      refine ⟨(h3 _ List.mem_cons_self).1, (h3 _ List.mem_cons_self).2, h2, fun k hk => ?_⟩
      have := h3 k (List.mem_cons_of_mem _ hk)
      refine ⟨this.1, ?_⟩
      rw [Nat.testBit_or, this.2, Nat.testBit_two_pow_of_ne (fun e => h1 (by rw [e]; exact hk))]
      rfl
theorem tru_iff {t : Int} {l : List Sale} {ps : List (Nat × Int)} : TruP t l ps ↔ (ps.map (·.1)).Perm (List.range l.length) ∧ GoP l (upd (fun _ => 0) 0 t) 0 ps := by
  constructor
  · rintro ⟨a, b, c⟩
    rw [stocks_zero] at c
    obtain ⟨h1, h2⟩ := fresh_iff.1 a
    refine ⟨(List.perm_ext_iff_of_nodup h1 List.nodup_range).2 fun k => ?_, c⟩
    rw [List.mem_range]
    refine ⟨fun h => (h2 k h).1, fun h => ?_⟩
    have hb : (dset 0 ps).testBit k = true := by
      rw [b, Nat.testBit_two_pow_sub_one]
      simpa using h
    rw [dset_bit] at hb
    simpa using hb
  · rintro ⟨a, c⟩
    have hf : Fresh l 0 ps := fresh_iff.2 ⟨a.nodup_iff.2 List.nodup_range, fun k hk => ⟨List.mem_range.1 (a.mem_iff.1 hk), by simp⟩⟩
    refine ⟨hf, ?_, by rw [stocks_zero]; exact c⟩
    apply Nat.eq_of_testBit_eq
    intro k
    rw [dset_bit, Nat.testBit_two_pow_sub_one, Nat.zero_testBit, Bool.false_or, decide_eq_decide, a.mem_iff, List.mem_range]
/-- The sales of one batch, by a numbering of their own and with days moved, can be run as those of the other one. -/
theorem go_map {l l' : List Sale} {f : Nat × Int → Nat × Int} (hs : ∀ p : Nat × Int, (saleOf l' (f p).1).src = (saleOf l p.1).src ∧ (saleOf l' (f p).1).dst = (saleOf l p.1).dst ∧ (saleOf l' (f p).1).many = (saleOf l p.1).many) {n : Int} (hd : ∀ p, (f p).2 = p.2 + n) :
    ∀ {ps : List (Nat × Int)} {st st' : Nat → Int} {x x' : Int}, (∀ p, p ∈ ps → (saleOf l p.1).lo ≤ p.2 → p.2 ≤ (saleOf l p.1).hi → (saleOf l' (f p).1).lo ≤ p.2 + n ∧ p.2 + n ≤ (saleOf l' (f p).1).hi) → (∀ i, st i ≤ st' i) → (∀ p, p ∈ ps.head? → x ≤ p.2 → x' ≤ p.2 + n) → GoP l st x ps → GoP l' st' x' (ps.map f)
  | [], _, _, _, _, _, _, _, _ => trivial
  | p :: ps, st, st', x, x', h1, h2, h3, ⟨g1, g2, g3, g4, g5⟩ => by
    obtain ⟨e1, e2, e3⟩ := hs p
    have hb := h1 p List.mem_cons_self g2 g3
    refine ⟨?_, ?_, ?_, ?_, ?_⟩
    · have := h2 (saleOf l p.1).src.toNat
      rw [e1, e3]
      omega
    · rw [hd]; exact hb.1
    · rw [hd]; exact hb.2
    · rw [hd]
      exact h3 p (by simp) g4
    · refine go_map hs hd (fun q hq => h1 q (List.mem_cons_of_mem _ hq)) (fun i => ?_) (fun q _ hq => by rw [hd]; omega) g5
      rw [sold_delta, sold_delta]
      unfold delta
      rw [e1, e2, e3]
      have := h2 i
      omega
theorem after_map {l l' : List Sale} {f : Nat × Int → Nat × Int} (hs : ∀ p : Nat × Int, (saleOf l' (f p).1).src = (saleOf l p.1).src ∧ (saleOf l' (f p).1).dst = (saleOf l p.1).dst ∧ (saleOf l' (f p).1).many = (saleOf l p.1).many) (i : Nat) :
    ∀ (ps : List (Nat × Int)) (st st' : Nat → Int), st i = st' i → afterS l st ps i = afterS l' st' (ps.map f) i
  | [], _, _, h => h
  | p :: ps, st, st', h => by
    refine after_map hs i ps _ _ ?_
    show sold _ _ i = sold _ _ i
    rw [sold_delta, sold_delta]
    unfold delta
    obtain ⟨e1, e2, e3⟩ := hs p
    rw [e1, e2, e3, h]
theorem eve_map {t : Int} {l l' : List Sale} {f : Nat × Int → Nat × Int} (hs : ∀ p : Nat × Int, (saleOf l' (f p).1).src = (saleOf l p.1).src ∧ (saleOf l' (f p).1).dst = (saleOf l p.1).dst ∧ (saleOf l' (f p).1).many = (saleOf l p.1).many) {n : Int} (hd : ∀ p, (f p).2 = p.2 + n) (ps : List (Nat × Int)) (day : Int) (i : Nat) :
    eveOf t l ps day i = eveOf t l' (ps.map f) (day + n) i := by
  unfold eveOf
  rw [List.filter_map]
  have : ((fun p : Nat × Int => decide (p.2 ≤ day + n)) ∘ f) = fun p => decide (p.2 ≤ day) := by
    funext p
    simp only [Function.comp, hd, decide_eq_decide]
    omega
  rw [this]
  exact after_map hs i _ _ _ rfl
/-- Ranges that are reached by the same numbers are the same. -/
theorem range_eq {P Q : Int → Prop} {a b a' b' : Int} (h1 : ∀ y, P y → a ≤ y ∧ y ≤ b) (h2 : P a) (h3 : P b) (k1 : ∀ y, Q y → a' ≤ y ∧ y ≤ b') (k2 : Q a') (k3 : Q b') (n : Int) (hpq : ∀ y, P y → Q (y + n)) (hqp : ∀ y, Q y → P (y - n)) : a' = a + n ∧ b' = b + n := by
  have := k1 _ (hpq _ h2)
  have := k1 _ (hpq _ h3)
  have := h1 _ (hqp _ k2)
  have := h1 _ (hqp _ k3)
  omega
/-- The days that a sale has in some truth; what an owner has on an evening of some truth. -/
def DayIn (t : Int) (l : List Sale) (k : Nat) (y : Int) : Prop := ∃ ps, TruP t l ps ∧ (k, y) ∈ ps
def EveIn (t : Int) (l : List Sale) (ow : Nat) (day y : Int) : Prop := ∃ ps, TruP t l ps ∧ eveOf t l ps day ow = y
theorem when_in {o t : Int} {l : List Sale} (hv : Valid o t l) (hf : fitsB t l = true) {k : Nat} (hk : k < l.length) : (∀ y, DayIn t l k y → (whenR t l k).1 ≤ y ∧ y ≤ (whenR t l k).2) ∧ DayIn t l k (whenR t l k).1 ∧ DayIn t l k (whenR t l k).2 := by
  obtain ⟨a, b, c⟩ := when_sem hv hf hk
  exact ⟨fun y ⟨ps, h1, h2⟩ => a ps y h1 h2, b, c⟩
theorem holds_in {o t : Int} {l : List Sale} (hv : Valid o t l) (hf : fitsB t l = true) {ow : Nat} (ho : (ow : Int) < o) {day : Int} (h0 : 0 ≤ day) (h1 : day ≤ 100) : (∀ y, EveIn t l ow day y → (holdsR t l ow day).1 ≤ y ∧ y ≤ (holdsR t l ow day).2) ∧ EveIn t l ow day (holdsR t l ow day).1 ∧ EveIn t l ow day (holdsR t l ow day).2 := by
  obtain ⟨a, ⟨ps, b1, b2⟩, qs, c1, c2⟩ := holds_sem hv hf ho h0 h1
  refine ⟨fun y ⟨ps, h1, h2⟩ => ?_, ⟨ps, b1, ?_⟩, qs, c1, ?_⟩
  · have := a ps h1
    rw [eve_of h1, h2] at this
    exact this
  · rw [← eve_of b1, b2]
  · rw [← eve_of c1, c2]
end Go.Proofs.Ytfcnombmphophaa
namespace Go.Proofs.Ytfcnombmphophaa
open Go.RowKit Go.Shelf
theorem tru_mem {t : Int} {l : List Sale} {ps : List (Nat × Int)} (h : TruP t l ps) {p : Nat × Int} (hp : p ∈ ps) : p.1 < l.length ∧ (saleOf l p.1).lo ≤ p.2 ∧ p.2 ≤ (saleOf l p.1).hi ∧ 0 ≤ p.2 := by
  obtain ⟨h1, _⟩ := tru_iff.1 h
  have h2 := (GoP.mono h.go).2 p hp
  exact ⟨List.mem_range.1 (h1.mem_iff.1 (List.mem_map.2 ⟨p, hp, rfl⟩)), h2.2.2.1, h2.2.2.2, h2.1⟩
theorem saleOf_mem {l : List Sale} {k : Nat} (hk : k < l.length) : saleOf l k ∈ l := by
  rw [saleOf_eq (List.getElem?_eq_getElem hk)]
  exact List.getElem_mem hk
/-! Sooner. -/
theorem sooner_house {o t : Int} {l : List Sale} (hv : Valid o t l) (hf : fitsB t l = true) {day : Int} (h0 : 0 ≤ day) (h1 : day ≤ 100) (h : ∀ s, s ∈ l → day < s.lo) : holdsR t l 0 day = (t, t) := by
  have ho := hv.o1
  obtain ⟨_, ⟨ps, a1, a2⟩, qs, b1, b2⟩ := holds_in hv hf (ow := 0) (by omega) h0 h1
  have key : ∀ ps, TruP t l ps → eveOf t l ps day 0 = t := fun ps hp => by
    unfold eveOf
    rw [List.filter_eq_nil_iff.2 fun p hm => ?_]
    · simp [afterS, upd]
    · have := tru_mem hp hm
      have := h _ (saleOf_mem this.1)
      simp
      omega
  rw [key ps a1] at a2
  rw [key qs b1] at b2
  exact Prod.ext a2.symm b2.symm
theorem after_down {l : List Sale} {i : Nat} : ∀ (ps : List (Nat × Int)) (st : Nat → Int), (∀ p, p ∈ ps → (saleOf l p.1).dst.toNat ≠ i ∧ 0 ≤ (saleOf l p.1).many) → afterS l st ps i ≤ st i
  | [], _, _ => Int.le_refl _
  | p :: ps, st, h => by
    refine Int.le_trans (after_down ps _ fun q hq => h q (List.mem_cons_of_mem _ hq)) ?_
    obtain ⟨h1, h2⟩ := h p List.mem_cons_self
    show sold _ _ i ≤ _
    rw [sold_delta]
    unfold delta
    rw [if_neg (Ne.symm h1)]
    split <;> omega
theorem sooner_other {o t : Int} {l : List Sale} (hv : Valid o t l) (hf : fitsB t l = true) {day : Int} (h0 : 0 ≤ day) (h1 : day ≤ 100) {ow : Nat} (hw : (ow : Int) < o) (hne : ow ≠ 0) (h : ∀ s, s ∈ l → s.dst ≠ ow) : holdsR t l ow day = (0, 0) := by
  obtain ⟨_, ⟨ps, a1, a2⟩, qs, b1, b2⟩ := holds_in hv hf hw h0 h1
  have key : ∀ ps, TruP t l ps → eveOf t l ps day ow = 0 := fun ps hp => by
    have hle : eveOf t l ps day ow ≤ 0 := by
      unfold eveOf
      refine Int.le_trans (after_down _ _ fun p hm => ?_) ?_
      · have hlt := (tru_mem hp (List.mem_filter.1 hm).1).1
        have hf := saleOf_valid hv hlt
        have hd := h _ (saleOf_mem hlt)
        exact ⟨by omega, by omega⟩
      · simp [upd, hne]
    have hge : 0 ≤ eveOf t l ps day ow := by
      rw [← eve_of hp]
      obtain ⟨_, e2⟩ := tru_eve hv hp h0 h1
      unfold eveB at e2
      rw [Bool.and_eq_true, decide_eq_true_eq] at e2
      exact (fair_early hv (d := eveSet ps day) (by omega)).pos ow
    omega
  rw [key ps a1] at a2
  rw [key qs b1] at b2
  exact Prod.ext a2.symm b2.symm
/-! Wider. -/
/-- A batch that gives way to each truth of another one. -/
structure WiderB (t : Int) (l : List Sale) (t' : Int) (l' : List Sale) : Prop where
  len : l'.length = l.length
  tot : t ≤ t'
  at_ : ∀ k, (saleOf l' k).src = (saleOf l k).src ∧ (saleOf l' k).dst = (saleOf l k).dst ∧ (saleOf l' k).many = (saleOf l k).many ∧ (saleOf l' k).lo ≤ (saleOf l k).lo ∧ (saleOf l k).hi ≤ (saleOf l' k).hi
/-! Later. -/
def later (n : Int) (s : Sale) : Sale := ⟨s.src, s.dst, s.many, s.lo + n, s.hi + n⟩
theorem saleOf_later (l : List Sale) (n : Int) (k : Nat) : saleOf (l.map (later n)) k = if k < l.length then later n (saleOf l k) else saleOf l k := by
  unfold saleOf
  rw [List.getElem?_map]
  split
  · rename_i h
    simp [List.getElem?_eq_getElem h]
  · rename_i h
    simp [List.getElem?_eq_none (show l.length ≤ k by omega)]
theorem later_tru {t : Int} {l : List Sale} {n : Int} (h0 : 0 ≤ n) {ps : List (Nat × Int)} (hp : TruP t l ps) : TruP t (l.map (later n)) (ps.map fun p => (p.1, p.2 + n)) := by
  obtain ⟨a, b⟩ := tru_iff.1 hp
  refine tru_iff.2 ⟨by rw [List.map_map, List.length_map]; exact a, ?_⟩
  refine go_map (n := n) (fun p => ?_) (fun p => rfl) (fun p hm h1 h2 => ?_) (fun i => Int.le_refl _) (fun p _ hx => by omega) b
  · rw [saleOf_later]
    split <;> exact ⟨rfl, rfl, rfl⟩
  · rw [saleOf_later, if_pos (tru_mem hp hm).1]
    simp only [later]
    omega
theorem later_back {o t : Int} {l : List Sale} (hv : Valid o t l) {n : Int} {ps : List (Nat × Int)} (hp : TruP t (l.map (later n)) ps) : TruP t l (ps.map fun p => (p.1, p.2 - n)) := by
  obtain ⟨a, b⟩ := tru_iff.1 hp
  rw [List.length_map] at a
  have hmem : ∀ p, p ∈ ps → p.1 < l.length ∧ (saleOf l p.1).lo ≤ p.2 - n ∧ p.2 - n ≤ (saleOf l p.1).hi := fun p hm => by
    have h := tru_mem hp hm
    rw [List.length_map] at h
    obtain ⟨h1, h2, h3, _⟩ := h
    rw [saleOf_later, if_pos h1] at h2 h3
    simp only [later] at h2 h3
    omega
  refine tru_iff.2 ⟨by rw [List.map_map]; exact a, ?_⟩
  refine go_map (n := -n) (fun p => ?_) (fun p => by simp only; omega) (fun p hm h1 h2 => ?_) (fun i => Int.le_refl _) (fun p hm hx => ?_) b
  · rw [saleOf_later]
    split <;> exact ⟨rfl, rfl, rfl⟩
  · have := hmem p hm
    simp only
    omega
  · have hm' : p ∈ ps := by
      cases ps with
      | nil => simp at hm
      | cons q ps =>
        simp at hm
        rw [← hm]
        exact List.mem_cons_self
    have := hmem p hm'
    have := saleOf_valid hv this.1
    omega
theorem later_fits {o t : Int} {l : List Sale} (hv : Valid o t l) {n : Int} (h0 : 0 ≤ n) (hv' : Valid o t (l.map (later n))) : fitsB t (l.map (later n)) = fitsB t l := by
  rw [Bool.eq_iff_iff, fits_tru hv, fits_tru hv']
  exact ⟨fun ⟨ps, h⟩ => ⟨_, later_back hv h⟩, fun ⟨ps, h⟩ => ⟨_, later_tru h0 h⟩⟩
theorem later_when {o t : Int} {l : List Sale} (hv : Valid o t l) {n : Int} (h0 : 0 ≤ n) (hv' : Valid o t (l.map (later n))) (hf : fitsB t l = true) {k : Nat} (hk : k < l.length) : (whenR t (l.map (later n)) k).1 = (whenR t l k).1 + n ∧ (whenR t (l.map (later n)) k).2 = (whenR t l k).2 + n := by
  obtain ⟨a, b, c⟩ := when_in hv hf hk
  obtain ⟨a', b', c'⟩ := when_in hv' (by rw [later_fits hv h0 hv']; exact hf) (k := k) (by rw [List.length_map]; exact hk)
  refine range_eq a b c a' b' c' n (fun y ⟨ps, h1, h2⟩ => ⟨_, later_tru h0 h1, List.mem_map.2 ⟨_, h2, rfl⟩⟩) (fun y ⟨ps, h1, h2⟩ => ⟨_, later_back hv h1, List.mem_map.2 ⟨_, h2, rfl⟩⟩)
theorem later_holds {o t : Int} {l : List Sale} (hv : Valid o t l) {n : Int} (h0 : 0 ≤ n) (hv' : Valid o t (l.map (later n))) (hf : fitsB t l = true) {ow : Nat} (ho : (ow : Int) < o) {day : Int} (h1 : 0 ≤ day) (h2 : day + n ≤ 100) : holdsR t (l.map (later n)) ow (day + n) = holdsR t l ow day := by
  obtain ⟨a, b, c⟩ := holds_in hv hf ho h1 (by omega : day ≤ 100)
  obtain ⟨a', b', c'⟩ := holds_in hv' (by rw [later_fits hv h0 hv']; exact hf) ho (day := day + n) (by omega) h2
  have := range_eq a b c a' b' c' 0 (fun y ⟨ps, h1, h2⟩ => ⟨_, later_tru h0 h1, by
    rw [← h2, Int.add_zero]
    refine (eve_map (n := n) (fun p => ?_) (fun p => rfl) ps day ow).symm
    rw [saleOf_later]
    split <;> exact ⟨rfl, rfl, rfl⟩⟩) (fun y ⟨ps, h1, h2⟩ => ⟨_, later_back hv h1, by
    rw [← h2, Int.sub_zero]
    have := (eve_map (t := t) (l := l.map (later n)) (l' := l) (f := fun p => (p.1, p.2 - n)) (n := -n) (fun p => ?_) (fun p => by simp only; omega) ps (day + n) ow).symm
    · rw [show day + n + -n = day by omega] at this
      exact this
    · rw [saleOf_later]
      split <;> exact ⟨rfl, rfl, rfl⟩⟩)
  exact Prod.ext (by omega) (by omega)
end Go.Proofs.Ytfcnombmphophaa
namespace Go.Proofs.Ytfcnombmphophaa
open Go.RowKit Go.Shelf Go.ChangeShapes Go.WideShapes
section
variable {H : Type} {enc : TypeId × Value → H} {W : World} {r : Reach} {b0 : Nat}
theorem c3 : Try.prog.cellsOf 3 = 1 := by kernel_rfl
theorem c22 : Try.prog.cellsOf 22 = 1 := by kernel_rfl
theorem c71 : Try.prog.cellsOf 71 = 2 := by kernel_rfl
theorem c73 : Try.prog.cellsOf 73 = 5 := by kernel_rfl
theorem c24 : Try.prog.cellsOf 24 = 3 := by kernel_rfl
theorem get_int {n : Nat} {cs : List Value} {t i : Nat} {y : Option (DataW H × List MemPlace)} (ht : Try.prog.underlying t = some (.int .i64)) (h : DataW.trod enc Try.prog W 0 (fun _ => true) true n t ((cs.drop i).take 1) = y) (hy : ∃ z, y = some z) : ∃ x : Int, cs[i]? = some (.int .i64 x) := by
  obtain ⟨z, rfl⟩ := hy
  obtain ⟨x, hx, _, _⟩ := DataW.trod_int ht h
  refine ⟨x, ?_⟩
  have h2 : ((cs.drop i).take 1)[0]? = some (.int .i64 x) := by rw [hx]; rfl
  rw [List.getElem?_take, if_pos (by omega), List.getElem?_drop] at h2
  simpa using h2
theorem five {cs : List Value} {a b c d e : Value} (hl : cs.length = 5) (h0 : cs[0]? = some a) (h1 : cs[1]? = some b) (h2 : cs[2]? = some c) (h3 : cs[3]? = some d) (h4 : cs[4]? = some e) : cs = [a, b, c, d, e] := by
  match cs, hl with
  | [_, _, _, _, _], _ =>
    simp at h0 h1 h2 h3 h4
    subst h0 h1 h2 h3 h4
    rfl
theorem at_some {α : Type} {xs : List α} {n i : Nat} (h : xs.length = n) (hi : i < n) : ∃ z, xs[i]? = some z := ⟨_, List.getElem?_eq_getElem (by omega)⟩
set_option maxRecDepth 100000 in
/-- Five cells that read as a sale. -/
theorem open_sale {n : Nat} {cs : List Value} {x : DataW H × List MemPlace} (h : DataW.trod enc Try.prog W 0 (fun _ => true) true n 73 cs = some x) : ∃ s : Sale, cs = saleL s := by
  obtain ⟨xs, m, rfl, rfl, hl, hx, hi⟩ := DataW.trod_struct Try.underlying73 h
  rw [c73] at hl
  have h0 := (show DataW.trod enc Try.prog W 0 (fun _ => true) true m 3 ((cs.drop 0).take (Try.prog.cellsOf 3)) = xs[0]? from hi 0 _ rfl)
  have h1 := (show DataW.trod enc Try.prog W 0 (fun _ => true) true m 3 ((cs.drop 1).take (Try.prog.cellsOf 3)) = xs[1]? from hi 1 _ rfl)
  have h2 := (show DataW.trod enc Try.prog W 0 (fun _ => true) true m 3 ((cs.drop 2).take (Try.prog.cellsOf 3)) = xs[2]? from hi 2 _ rfl)
  have h3 := (show DataW.trod enc Try.prog W 0 (fun _ => true) true m 71 ((cs.drop 3).take (Try.prog.cellsOf 71)) = xs[3]? from hi 3 _ rfl)
  rw [c3] at h0 h1 h2
  rw [c71] at h3
  obtain ⟨a, p0⟩ := get_int Try.underlying3 h0 (at_some hx (by decide))
  obtain ⟨b, p1⟩ := get_int Try.underlying3 h1 (at_some hx (by decide))
  obtain ⟨c, p2⟩ := get_int Try.underlying3 h2 (at_some hx (by decide))
  obtain ⟨z, hz⟩ := at_some (i := 3) hx (by decide)
  rw [hz] at h3
  obtain ⟨ys, m', rfl, rfl, hl', hy, hj⟩ := DataW.trod_struct Try.underlying71 h3
  have k0 := (show DataW.trod enc Try.prog W 0 (fun _ => true) true m' 3 ((((cs.drop 3).take 2).drop 0).take (Try.prog.cellsOf 3)) = ys[0]? from hj 0 _ rfl)
  have k1 := (show DataW.trod enc Try.prog W 0 (fun _ => true) true m' 3 ((((cs.drop 3).take 2).drop 1).take (Try.prog.cellsOf 3)) = ys[1]? from hj 1 _ rfl)
  rw [c3] at k0 k1
  obtain ⟨d, k0⟩ := get_int Try.underlying3 k0 (at_some hy (by decide))
  obtain ⟨e, k1⟩ := get_int Try.underlying3 k1 (at_some hy (by decide))
  rw [List.getElem?_take, if_pos (by omega), List.getElem?_drop] at k0 k1
  exact ⟨⟨a, b, c, d, e⟩, five hl p0 p1 p2 k0 k1⟩
set_option maxRecDepth 100000 in
theorem open_batch {v : Value} {d : DataW H} {ps : List MemPlace} (hval : Value.okWide Try.prog W r b0 24 v) (hd : DataW.Trod enc Try.prog W 0 (fun _ => true) true 24 v d ps) :
    ∃ (o t : Int) (A : Option Addr) (l : List Sale) (c : Nat), v = .agg #[.int .i64 o, .int .i64 t, .slice A l.length c] ∧ SalesAt W W.heap.size A l := by
  unfold Value.okWide at hval
  rw [Try.underlying24] at hval
  obtain ⟨cs, rfl, hsz, _⟩ := hval
  rw [c24] at hsz
  obtain ⟨fuel, hf⟩ := hd
  obtain ⟨xs, m, rfl, _, hl, hx, hi⟩ := DataW.trod_struct Try.underlying24 hf
  have h0 := (show DataW.trod enc Try.prog W 0 (fun _ => true) true m 3 (((Value.agg cs).cells.toList.drop 0).take (Try.prog.cellsOf 3)) = xs[0]? from hi 0 _ rfl)
  have h1 := (show DataW.trod enc Try.prog W 0 (fun _ => true) true m 3 (((Value.agg cs).cells.toList.drop 1).take (Try.prog.cellsOf 3)) = xs[1]? from hi 1 _ rfl)
  have h2 := (show DataW.trod enc Try.prog W 0 (fun _ => true) true m 22 (((Value.agg cs).cells.toList.drop 2).take (Try.prog.cellsOf 22)) = xs[2]? from hi 2 _ rfl)
  rw [c3] at h0 h1
  rw [c22] at h2
  obtain ⟨o, h0⟩ := get_int Try.underlying3 h0 (at_some hx (by decide))
  obtain ⟨t, h1⟩ := get_int Try.underlying3 h1 (at_some hx (by decide))
  obtain ⟨z, hz⟩ := at_some (i := 2) hx (by decide)
  rw [hz] at h2
  have hcs : (Value.agg cs).cells.toList = cs.toList := by rfl
  rw [hcs] at h0 h1 h2
  have key : ∃ (A : Option Addr) (l : List Sale) (c : Nat), (cs.toList.drop 2).take 1 = [.slice A l.length c] ∧ SalesAt W W.heap.size A l := by
    rcases DataW.trod_slice Try.underlying22 h2 with ⟨h3, _⟩ | ⟨a, n, c, elems, rest, k, _, h3, _, _, hle, _, hlen, hel, _, _⟩
    · exact ⟨none, [], 0, h3, fun k x hx => by simp at hx⟩
    · rw [c73] at hel
      have hsale : ∀ i, i < n → ∃ s : Sale, W.cells? 0 (a.add (i * 5)) 5 = some (saleL s) := by
        intro i hi
        have h4 := hel i hi
        obtain ⟨y, hy⟩ := at_some (i := i) hlen hi
        rw [hy, Option.bind_eq_some_iff] at h4
        obtain ⟨cs', h5, h6⟩ := h4
        obtain ⟨s, rfl⟩ := open_sale h6
        exact ⟨s, h5⟩
      obtain ⟨f, hf⟩ : ∃ f : Nat → Sale, ∀ i, i < n → W.cells? 0 (a.add (i * 5)) 5 = some (saleL (f i)) :=
        ⟨fun i => if h : i < n then Classical.choose (hsale i h) else ⟨0, 0, 0, 0, 0⟩, fun i hi => by
          dsimp only
          rw [dif_pos hi]
          exact Classical.choose_spec (hsale i hi)⟩
      refine ⟨some a, (List.range n).map f, c, by rw [h3]; simp, ?_⟩
      intro k s hs
      rw [List.getElem?_map, Option.map_eq_some_iff] at hs
      obtain ⟨k', hk', rfl⟩ := hs
      obtain ⟨hkn, rfl⟩ : k < n ∧ k' = k := by
        have := List.getElem?_eq_some_iff.1 hk'
        obtain ⟨h7, h8⟩ := this
        simp at h7 h8
        exact ⟨h7, h8.symm⟩
      have hcl := (World.cells?_some (hf k' hkn)).2.2
      obtain ⟨b, off, spot⟩ := a
      have hspot : spot = none := by
        have hcl0 := (World.cells?_some (hf 0 (by omega))).2.2 0 (by omega)
        have := World.cell?_spot (w := W) (a := (Addr.add ⟨b, off, spot⟩ (0 * 5)).add 0) (v := .int .i64 (f 0).src) (by rw [hcl0]; rfl)
        simpa [Addr.add] using this
      subst hspot
      have hc : ∀ j, j < 5 → W.cell? ⟨b, off + k' * 5 + j, none⟩ = (saleL (f k'))[j]? := by
        intro j hj
        have := hcl j hj
        rwa [add_plain, add_plain] at this
      have g0 := hc 0 (by omega)
      have g1 := hc 1 (by omega)
      have g2 := hc 2 (by omega)
      have g3 := hc 3 (by omega)
      have g4 := hc 4 (by omega)
      exact ⟨b, off, rfl, block_lt_of_cell (v := .int .i64 (f k').src) g0, g0, g1, g2, g3, g4⟩
  obtain ⟨A, l, c, h3, hs⟩ := key
  refine ⟨o, t, A, l, c, ?_, hs⟩
  have h4 : cs.toList[2]? = some (.slice A l.length c) := by
    have : ((cs.toList.drop 2).take 1)[0]? = some (.slice A l.length c) := by rw [h3]; rfl
    rw [List.getElem?_take, if_pos (by omega), List.getElem?_drop] at this
    simpa using this
  have h5 : cs.toList = [.int .i64 o, .int .i64 t, .slice A l.length c] := by
    have hl3 : cs.toList.length = 3 := by simpa using hsz
    generalize cs.toList = ls at *
    match ls, hl3 with
    | [_, _, _], _ =>
      simp at h0 h1 h4
      subst h0 h1 h4
      rfl
  have : cs = #[.int .i64 o, .int .i64 t, .slice A l.length c] := by
    apply Array.ext'
    rw [h5]
  rw [this]
end
/-- A READING IS CARRIED OVER WHATEVER LIES BEHIND. -/
theorem laidOut : laidOutB Try.prog = true := by kernel_rfl
theorem r24 : Try.prog.readableRec 24 = true := by kernel_rfl
end Go.Proofs.Ytfcnombmphophaa
namespace Go.Proofs.Ytfcnombmphophaa
open Go.RowKit Go.Shelf Go.ChangeShapes Go.WideShapes
theorem carry_trod {H : Type} {enc : TypeId × Value → H} {W W' : World} {t : TypeId} {v : Value} {d : DataW H} {ps : List MemPlace} (hr : Try.prog.readableRec t = true) (hrow : t < Try.prog.types.size) (hb : Below W.heap.size W W')
    (hd : DataW.Trod enc Try.prog W 0 (fun _ => true) true t v d ps) (hlt : ∀ p ∈ ps, p.block < W.heap.size) : DataW.Trod enc Try.prog W' 0 (fun b => decide (b < W.heap.size)) true t v d ps := by
  obtain ⟨n, h⟩ := hd
  exact ⟨n, DataW.trod_stays (kids_book laidOut hr) (book_sized hr) (fun h => by cases h) ⟨hrow, book_self t⟩ h
    (fun p hp => (hb.frame (fun _ => False)).sameAt (hlt p hp) id (fun b e => by
      have := DataW.trod_good (kids_book laidOut hr) (fun h => by cases h) n t _ _ ⟨hrow, book_self t⟩ h p hp
      subst e
      exact this))
    (fun p hp => by simpa using hlt p hp)⟩
theorem s24 : 24 < Try.prog.types.size := of_decide_eq_true (by kernel_rfl)
end Go.Proofs.Ytfcnombmphophaa
