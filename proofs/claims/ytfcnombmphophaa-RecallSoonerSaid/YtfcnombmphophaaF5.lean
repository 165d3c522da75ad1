/- Texts for the laws of package recall, part 5: contracts of the program's functions, each for every input that its words name. -/
import Derived.Test.YtfcnombmphophaaF4

set_option linter.unusedVariables false

namespace Go.Proofs.Ytfcnombmphophaa
open Go.RowKit Go.Shelf
theorem fa24_0 {b o : Nat} (w : World) : (Instr.fieldAt 24 (.pointer (some ⟨b, o, none⟩)) 0).run Try.prog w = .ok (.pointer (some ⟨b, o, none⟩)) w := by
  go_simp
theorem fa24_1 {b o : Nat} (w : World) : (Instr.fieldAt 24 (.pointer (some ⟨b, o, none⟩)) 1).run Try.prog w = .ok (.pointer (some ⟨b, o + 1, none⟩)) w := by
  go_simp
theorem fa24_2 {b o : Nat} (w : World) : (Instr.fieldAt 24 (.pointer (some ⟨b, o, none⟩)) 2).run Try.prog w = .ok (.pointer (some ⟨b, o + 2, none⟩)) w := by
  go_simp
theorem fa73_0 {b o : Nat} (w : World) : (Instr.fieldAt 73 (.pointer (some ⟨b, o, none⟩)) 0).run Try.prog w = .ok (.pointer (some ⟨b, o, none⟩)) w := by
  go_simp
theorem fa73_1 {b o : Nat} (w : World) : (Instr.fieldAt 73 (.pointer (some ⟨b, o, none⟩)) 1).run Try.prog w = .ok (.pointer (some ⟨b, o + 1, none⟩)) w := by
  go_simp
theorem fa73_2 {b o : Nat} (w : World) : (Instr.fieldAt 73 (.pointer (some ⟨b, o, none⟩)) 2).run Try.prog w = .ok (.pointer (some ⟨b, o + 2, none⟩)) w := by
  go_simp
theorem fa73_3 {b o : Nat} (w : World) : (Instr.fieldAt 73 (.pointer (some ⟨b, o, none⟩)) 3).run Try.prog w = .ok (.pointer (some ⟨b, o + 3, none⟩)) w := by
  go_simp
theorem fa71_0 {b o : Nat} (w : World) : (Instr.fieldAt 71 (.pointer (some ⟨b, o, none⟩)) 0).run Try.prog w = .ok (.pointer (some ⟨b, o, none⟩)) w := by
  go_simp
theorem fa71_1 {b o : Nat} (w : World) : (Instr.fieldAt 71 (.pointer (some ⟨b, o, none⟩)) 1).run Try.prog w = .ok (.pointer (some ⟨b, o + 1, none⟩)) w := by
  go_simp
theorem ld22 {w : World} {p : Addr} {v : Value} (h : w.cell? p = some v) : (Instr.loadAt 22 (.pointer (some p))).run Try.prog w = .ok v w := by
  go_simp
theorem ld24 {w : World} {b : Nat} {u v x : Value} (h : w.cell? ⟨b, 0, none⟩ = some u ∧ w.cell? ⟨b, 1, none⟩ = some v ∧ w.cell? ⟨b, 2, none⟩ = some x) : (Instr.loadAt 24 (.pointer (some ⟨b, 0, none⟩))).run Try.prog w = .ok (.agg #[u, v, x]) w := by
  obtain ⟨h0, h1, h2⟩ := h
  go_simp
theorem ld73 {w : World} {b o : Nat} {s : Sale} (h0 : w.cell? ⟨b, o, none⟩ = some (.int .i64 s.src)) (h1 : w.cell? ⟨b, o + 1, none⟩ = some (.int .i64 s.dst)) (h2 : w.cell? ⟨b, o + 2, none⟩ = some (.int .i64 s.many)) (h3 : w.cell? ⟨b, o + 3, none⟩ = some (.int .i64 s.lo)) (h4 : w.cell? ⟨b, o + 4, none⟩ = some (.int .i64 s.hi)) :
    (Instr.loadAt 73 (.pointer (some ⟨b, o, none⟩))).run Try.prog w = .ok (saleV s) w := by
  go_simp
theorem ix22 {b o n c : Nat} {i : Nat} (h : i < n) (w : World) : (Instr.indexAt 22 (.slice (some ⟨b, o, none⟩) n c) (.int .i64 i)).run Try.prog w = .ok (.pointer (some ⟨b, o + i * 5, none⟩)) w := by
  go_simp
theorem ln22 (A : Option Addr) (n c : Nat) (ty : TypeId) (w : World) : (builtin .len #[22] ty #[false] #[.slice A n c]).run Try.prog w = .ok (.value (.int .i64 n)) w := by
  go_simp
theorem bx24 (w : World) (o t : Int) (A : Option Addr) (n c : Nat) : (Instr.box 24 (.agg #[.int .i64 o, .int .i64 t, .slice A n c])).run Try.prog w = .ok (.pointer (some ⟨w.heap.size, 0, none⟩)) (w.alloc (.cells #[.int .i64 o, .int .i64 t, .slice A n c] 24)) := by
  go_simp
theorem al73 (w : World) : (Instr.alloc 73 true (.tuple #[])).run Try.prog w = .ok (.pointer (some ⟨w.heap.size, 0, none⟩)) (w.alloc (.cells #[.int .i64 0, .int .i64 0, .int .i64 0, .int .i64 0, .int .i64 0] 73)) := by
  go_simp
theorem sa73 (w : World) (s : Sale) : (Instr.storeAt 73 (.pointer (some ⟨w.heap.size, 0, none⟩)) (saleV s)).run Try.prog (w.alloc (.cells #[.int .i64 0, .int .i64 0, .int .i64 0, .int .i64 0, .int .i64 0] 73)) = .ok () (w.alloc (.cells (saleC s) 73)) := by
  unfold saleV saleC
  go_simp
theorem geqT {x y : Operand} {m n : Int} (h : n ≤ m) (w : World) : (do eqGuard .geq 3 x y (.int .i64 m) (.int .i64 n); binOp .geq 3 (.int .i64 m) (.int .i64 n) : Sem Value).run Try.prog w = .ok (.bool true) w := by
  go_simp
theorem geqF {x y : Operand} {m n : Int} (h : ¬ n ≤ m) (w : World) : (do eqGuard .geq 3 x y (.int .i64 m) (.int .i64 n); binOp .geq 3 (.int .i64 m) (.int .i64 n) : Sem Value).run Try.prog w = .ok (.bool false) w := by
  go_simp
/-- A call that gives a value, wherever a world stands that is at most longer. -/
abbrev CV (w : World) (f : FuncId) (args : Array Value) (v : Value) : Prop := ∀ W1, Below w.heap.size w W1 → Calls Try.prog f args W1 fun e w' => ∃ u, e = .returned u ∧ u = v ∧ Below W1.heap.size W1 w'
theorem CV.drew {w : World} {f : FuncId} {args : Array Value} {v : Value} (h : CV w f args v) : CV w.drew f args v := fun W1 hb => h W1 (((Below.refl w.heap.size w).drew).trans hb)
/-- May a sale be next on a day? -/
def mayR (t : Int) (l : List Sale) (done : List Int) (last sale day : Int) : Bool :=
  !hasI done sale && (inR day (saleOf l sale.toNat).lo (saleOf l sale.toNat).hi && (decide (last ≤ day) && decide ((saleOf l sale.toNat).many ≤ stockR t l done (saleOf l sale.toNat).src)))
noncomputable def opsMy0 : Array Oper := (Try.f52.body.bind (regionOf 2)).getD #[]
def wordsMy0 (b5 b11 : Nat) (A A1 : Option Addr) (nl c n1 c1 : Nat) (o t la sl dy src mn lo hi sk : Int) : Words := [fun v _ => v = .slice A1 n1 c1, fun v _ => v = .int .i64 sl, fun v _ => v = .bool true, fun v _ => v = .bool false, fun v _ => v = .bool false, fun _ _ => True, fun _ _ => True, fun _ _ => True, fun _ _ => True, fun _ _ => True, fun _ _ => True, fun _ _ => True, fun _ _ => True, fun v _ => v = .bool false, fun v _ => v = .bool false, fun _ _ => True, fun _ _ => True, fun _ _ => True, fun v _ => v = .bool false, fun v _ => v = .bool false, fun _ _ => True, fun _ _ => True, fun _ _ => True, fun _ _ => True, fun _ _ => True, fun _ _ => True, fun _ _ => True, fun _ _ => True, fun v _ => v = .bool false, fun v _ => v = .bool false]
set_option maxRecDepth 10000 in
theorem okMy0_0 {b5 b11 : Nat} {A A1 : Option Addr} {nl c n1 c1 : Nat} {o t la sl dy src mn lo hi sk : Int} {a : Act} {w : World} (t1 : a.eval (.tmp 1) = .slice A1 n1 c1) (t2 : a.eval (.tmp 2) = .int .i64 la) (t3 : a.eval (.tmp 3) = .int .i64 sl) (t4 : a.eval (.tmp 4) = .int .i64 dy) (t5 : a.eval (.tmp 5) = .pointer (some ⟨b5, 0, none⟩)) (t11 : a.eval (.tmp 11) = .pointer (some ⟨b11, 0, none⟩)) (m0 : w.cell? ⟨b11, 0, none⟩ = some (.int .i64 src)) (m2 : w.cell? ⟨b11, 2, none⟩ = some (.int .i64 mn)) (m3 : w.cell? ⟨b11, 3, none⟩ = some (.int .i64 lo)) (m4 : w.cell? ⟨b11, 4, none⟩ = some (.int .i64 hi)) (q0 : w.cell? ⟨b5, 0, none⟩ = some (.int .i64 o)) (q1 : w.cell? ⟨b5, 1, none⟩ = some (.int .i64 t)) (q2 : w.cell? ⟨b5, 2, none⟩ = some (.slice A nl c)) (hh : CV w 40 #[.slice A1 n1 c1, .int .i64 sl] (.bool true)) : OpOk Try.prog opsMy0 (wordsMy0 b5 b11 A A1 nl c n1 c1 o t la sl dy src mn lo hi sk) 46 a w 0 := by
  refine OpOk.gen rfl (fun a1 w1 H => ?_)
  have e1 : a1.eval (.tmp 1) = .slice A1 n1 c1 := (H.out 1 (by kernel_rfl)).trans t1
  refine gd_none ?_
  exact OpW.move e1 rfl
set_option maxRecDepth 10000 in
theorem okMy0_1 {b5 b11 : Nat} {A A1 : Option Addr} {nl c n1 c1 : Nat} {o t la sl dy src mn lo hi sk : Int} {a : Act} {w : World} (t1 : a.eval (.tmp 1) = .slice A1 n1 c1) (t2 : a.eval (.tmp 2) = .int .i64 la) (t3 : a.eval (.tmp 3) = .int .i64 sl) (t4 : a.eval (.tmp 4) = .int .i64 dy) (t5 : a.eval (.tmp 5) = .pointer (some ⟨b5, 0, none⟩)) (t11 : a.eval (.tmp 11) = .pointer (some ⟨b11, 0, none⟩)) (m0 : w.cell? ⟨b11, 0, none⟩ = some (.int .i64 src)) (m2 : w.cell? ⟨b11, 2, none⟩ = some (.int .i64 mn)) (m3 : w.cell? ⟨b11, 3, none⟩ = some (.int .i64 lo)) (m4 : w.cell? ⟨b11, 4, none⟩ = some (.int .i64 hi)) (q0 : w.cell? ⟨b5, 0, none⟩ = some (.int .i64 o)) (q1 : w.cell? ⟨b5, 1, none⟩ = some (.int .i64 t)) (q2 : w.cell? ⟨b5, 2, none⟩ = some (.slice A nl c)) (hh : CV w 40 #[.slice A1 n1 c1, .int .i64 sl] (.bool true)) : OpOk Try.prog opsMy0 (wordsMy0 b5 b11 A A1 nl c n1 c1 o t la sl dy src mn lo hi sk) 46 a w 1 := by
  refine OpOk.gen rfl (fun a1 w1 H => ?_)
  have e3 : a1.eval (.tmp 3) = .int .i64 sl := (H.out 3 (by kernel_rfl)).trans t3
  refine gd_none ?_
  exact OpW.move e3 rfl
set_option maxRecDepth 10000 in
theorem okMy0_2 {b5 b11 : Nat} {A A1 : Option Addr} {nl c n1 c1 : Nat} {o t la sl dy src mn lo hi sk : Int} {a : Act} {w : World} (t1 : a.eval (.tmp 1) = .slice A1 n1 c1) (t2 : a.eval (.tmp 2) = .int .i64 la) (t3 : a.eval (.tmp 3) = .int .i64 sl) (t4 : a.eval (.tmp 4) = .int .i64 dy) (t5 : a.eval (.tmp 5) = .pointer (some ⟨b5, 0, none⟩)) (t11 : a.eval (.tmp 11) = .pointer (some ⟨b11, 0, none⟩)) (m0 : w.cell? ⟨b11, 0, none⟩ = some (.int .i64 src)) (m2 : w.cell? ⟨b11, 2, none⟩ = some (.int .i64 mn)) (m3 : w.cell? ⟨b11, 3, none⟩ = some (.int .i64 lo)) (m4 : w.cell? ⟨b11, 4, none⟩ = some (.int .i64 hi)) (q0 : w.cell? ⟨b5, 0, none⟩ = some (.int .i64 o)) (q1 : w.cell? ⟨b5, 1, none⟩ = some (.int .i64 t)) (q2 : w.cell? ⟨b5, 2, none⟩ = some (.slice A nl c)) (hh : CV w 40 #[.slice A1 n1 c1, .int .i64 sl] (.bool true)) : OpOk Try.prog opsMy0 (wordsMy0 b5 b11 A A1 nl c n1 c1 o t la sl dy src mn lo hi sk) 46 a w 2 := by
  refine OpOk.gen rfl (fun a1 w1 H => ?_)
  have d0 : a1.eval (.tmp 17) = .slice A1 n1 c1 := H.dep 0 17 rfl (by kernel_rfl)
  have d1 : a1.eval (.tmp 18) = .int .i64 sl := H.dep 1 18 rfl (by kernel_rfl)
  refine gd_none ?_
  exact OpW.call (vs := #[.slice A1 n1 c1, .int .i64 sl]) (enters_of Try.func40 (by kernel_rfl) rfl) (by simp [d0, d1]) (hh w1 H.low)
set_option maxRecDepth 10000 in
theorem okMy0_3 {b5 b11 : Nat} {A A1 : Option Addr} {nl c n1 c1 : Nat} {o t la sl dy src mn lo hi sk : Int} {a : Act} {w : World} (t1 : a.eval (.tmp 1) = .slice A1 n1 c1) (t2 : a.eval (.tmp 2) = .int .i64 la) (t3 : a.eval (.tmp 3) = .int .i64 sl) (t4 : a.eval (.tmp 4) = .int .i64 dy) (t5 : a.eval (.tmp 5) = .pointer (some ⟨b5, 0, none⟩)) (t11 : a.eval (.tmp 11) = .pointer (some ⟨b11, 0, none⟩)) (m0 : w.cell? ⟨b11, 0, none⟩ = some (.int .i64 src)) (m2 : w.cell? ⟨b11, 2, none⟩ = some (.int .i64 mn)) (m3 : w.cell? ⟨b11, 3, none⟩ = some (.int .i64 lo)) (m4 : w.cell? ⟨b11, 4, none⟩ = some (.int .i64 hi)) (q0 : w.cell? ⟨b5, 0, none⟩ = some (.int .i64 o)) (q1 : w.cell? ⟨b5, 1, none⟩ = some (.int .i64 t)) (q2 : w.cell? ⟨b5, 2, none⟩ = some (.slice A nl c)) (hh : CV w 40 #[.slice A1 n1 c1, .int .i64 sl] (.bool true)) : OpOk Try.prog opsMy0 (wordsMy0 b5 b11 A A1 nl c n1 c1 o t la sl dy src mn lo hi sk) 46 a w 3 := by
  refine OpOk.gen rfl (fun a1 w1 H => ?_)
  have d2 : a1.eval (.tmp 19) = .bool true := H.dep 2 19 rfl (by kernel_rfl)
  refine gd_none ?_
  exact OpW.un d2 (not4 _ _) rfl
set_option maxRecDepth 10000 in
theorem okMy0_4 {b5 b11 : Nat} {A A1 : Option Addr} {nl c n1 c1 : Nat} {o t la sl dy src mn lo hi sk : Int} {a : Act} {w : World} (t1 : a.eval (.tmp 1) = .slice A1 n1 c1) (t2 : a.eval (.tmp 2) = .int .i64 la) (t3 : a.eval (.tmp 3) = .int .i64 sl) (t4 : a.eval (.tmp 4) = .int .i64 dy) (t5 : a.eval (.tmp 5) = .pointer (some ⟨b5, 0, none⟩)) (t11 : a.eval (.tmp 11) = .pointer (some ⟨b11, 0, none⟩)) (m0 : w.cell? ⟨b11, 0, none⟩ = some (.int .i64 src)) (m2 : w.cell? ⟨b11, 2, none⟩ = some (.int .i64 mn)) (m3 : w.cell? ⟨b11, 3, none⟩ = some (.int .i64 lo)) (m4 : w.cell? ⟨b11, 4, none⟩ = some (.int .i64 hi)) (q0 : w.cell? ⟨b5, 0, none⟩ = some (.int .i64 o)) (q1 : w.cell? ⟨b5, 1, none⟩ = some (.int .i64 t)) (q2 : w.cell? ⟨b5, 2, none⟩ = some (.slice A nl c)) (hh : CV w 40 #[.slice A1 n1 c1, .int .i64 sl] (.bool true)) : OpOk Try.prog opsMy0 (wordsMy0 b5 b11 A A1 nl c n1 c1 o t la sl dy src mn lo hi sk) 46 a w 4 := by
  refine OpOk.gen rfl (fun a1 w1 H => ?_)
  have d3 : a1.eval (.tmp 20) = .bool false := H.dep 3 20 rfl (by kernel_rfl)
  refine gd_none ?_
  exact OpW.move d3 rfl
set_option maxRecDepth 10000 in
theorem okMy0_5 {b5 b11 : Nat} {A A1 : Option Addr} {nl c n1 c1 : Nat} {o t la sl dy src mn lo hi sk : Int} {a : Act} {w : World} (t1 : a.eval (.tmp 1) = .slice A1 n1 c1) (t2 : a.eval (.tmp 2) = .int .i64 la) (t3 : a.eval (.tmp 3) = .int .i64 sl) (t4 : a.eval (.tmp 4) = .int .i64 dy) (t5 : a.eval (.tmp 5) = .pointer (some ⟨b5, 0, none⟩)) (t11 : a.eval (.tmp 11) = .pointer (some ⟨b11, 0, none⟩)) (m0 : w.cell? ⟨b11, 0, none⟩ = some (.int .i64 src)) (m2 : w.cell? ⟨b11, 2, none⟩ = some (.int .i64 mn)) (m3 : w.cell? ⟨b11, 3, none⟩ = some (.int .i64 lo)) (m4 : w.cell? ⟨b11, 4, none⟩ = some (.int .i64 hi)) (q0 : w.cell? ⟨b5, 0, none⟩ = some (.int .i64 o)) (q1 : w.cell? ⟨b5, 1, none⟩ = some (.int .i64 t)) (q2 : w.cell? ⟨b5, 2, none⟩ = some (.slice A nl c)) (hh : CV w 40 #[.slice A1 n1 c1, .int .i64 sl] (.bool true)) : OpOk Try.prog opsMy0 (wordsMy0 b5 b11 A A1 nl c n1 c1 o t la sl dy src mn lo hi sk) 46 a w 5 := by
  refine OpOk.gen rfl (fun a1 w1 H => ?_)
  have d4 : a1.eval (.tmp 21) = .bool false := H.dep 4 21 rfl (by kernel_rfl)
  refine gd_false rfl d4 (by decide) ?_
  trivial
set_option maxRecDepth 10000 in
theorem okMy0_6 {b5 b11 : Nat} {A A1 : Option Addr} {nl c n1 c1 : Nat} {o t la sl dy src mn lo hi sk : Int} {a : Act} {w : World} (t1 : a.eval (.tmp 1) = .slice A1 n1 c1) (t2 : a.eval (.tmp 2) = .int .i64 la) (t3 : a.eval (.tmp 3) = .int .i64 sl) (t4 : a.eval (.tmp 4) = .int .i64 dy) (t5 : a.eval (.tmp 5) = .pointer (some ⟨b5, 0, none⟩)) (t11 : a.eval (.tmp 11) = .pointer (some ⟨b11, 0, none⟩)) (m0 : w.cell? ⟨b11, 0, none⟩ = some (.int .i64 src)) (m2 : w.cell? ⟨b11, 2, none⟩ = some (.int .i64 mn)) (m3 : w.cell? ⟨b11, 3, none⟩ = some (.int .i64 lo)) (m4 : w.cell? ⟨b11, 4, none⟩ = some (.int .i64 hi)) (q0 : w.cell? ⟨b5, 0, none⟩ = some (.int .i64 o)) (q1 : w.cell? ⟨b5, 1, none⟩ = some (.int .i64 t)) (q2 : w.cell? ⟨b5, 2, none⟩ = some (.slice A nl c)) (hh : CV w 40 #[.slice A1 n1 c1, .int .i64 sl] (.bool true)) : OpOk Try.prog opsMy0 (wordsMy0 b5 b11 A A1 nl c n1 c1 o t la sl dy src mn lo hi sk) 46 a w 6 := by
  refine OpOk.gen rfl (fun a1 w1 H => ?_)
  have d4 : a1.eval (.tmp 21) = .bool false := H.dep 4 21 rfl (by kernel_rfl)
  refine gd_false rfl d4 (by decide) ?_
  trivial
set_option maxRecDepth 10000 in
theorem okMy0_7 {b5 b11 : Nat} {A A1 : Option Addr} {nl c n1 c1 : Nat} {o t la sl dy src mn lo hi sk : Int} {a : Act} {w : World} (t1 : a.eval (.tmp 1) = .slice A1 n1 c1) (t2 : a.eval (.tmp 2) = .int .i64 la) (t3 : a.eval (.tmp 3) = .int .i64 sl) (t4 : a.eval (.tmp 4) = .int .i64 dy) (t5 : a.eval (.tmp 5) = .pointer (some ⟨b5, 0, none⟩)) (t11 : a.eval (.tmp 11) = .pointer (some ⟨b11, 0, none⟩)) (m0 : w.cell? ⟨b11, 0, none⟩ = some (.int .i64 src)) (m2 : w.cell? ⟨b11, 2, none⟩ = some (.int .i64 mn)) (m3 : w.cell? ⟨b11, 3, none⟩ = some (.int .i64 lo)) (m4 : w.cell? ⟨b11, 4, none⟩ = some (.int .i64 hi)) (q0 : w.cell? ⟨b5, 0, none⟩ = some (.int .i64 o)) (q1 : w.cell? ⟨b5, 1, none⟩ = some (.int .i64 t)) (q2 : w.cell? ⟨b5, 2, none⟩ = some (.slice A nl c)) (hh : CV w 40 #[.slice A1 n1 c1, .int .i64 sl] (.bool true)) : OpOk Try.prog opsMy0 (wordsMy0 b5 b11 A A1 nl c n1 c1 o t la sl dy src mn lo hi sk) 46 a w 7 := by
  refine OpOk.gen rfl (fun a1 w1 H => ?_)
  have d4 : a1.eval (.tmp 21) = .bool false := H.dep 4 21 rfl (by kernel_rfl)
  refine gd_false rfl d4 (by decide) ?_
  trivial
set_option maxRecDepth 10000 in
theorem okMy0_8 {b5 b11 : Nat} {A A1 : Option Addr} {nl c n1 c1 : Nat} {o t la sl dy src mn lo hi sk : Int} {a : Act} {w : World} (t1 : a.eval (.tmp 1) = .slice A1 n1 c1) (t2 : a.eval (.tmp 2) = .int .i64 la) (t3 : a.eval (.tmp 3) = .int .i64 sl) (t4 : a.eval (.tmp 4) = .int .i64 dy) (t5 : a.eval (.tmp 5) = .pointer (some ⟨b5, 0, none⟩)) (t11 : a.eval (.tmp 11) = .pointer (some ⟨b11, 0, none⟩)) (m0 : w.cell? ⟨b11, 0, none⟩ = some (.int .i64 src)) (m2 : w.cell? ⟨b11, 2, none⟩ = some (.int .i64 mn)) (m3 : w.cell? ⟨b11, 3, none⟩ = some (.int .i64 lo)) (m4 : w.cell? ⟨b11, 4, none⟩ = some (.int .i64 hi)) (q0 : w.cell? ⟨b5, 0, none⟩ = some (.int .i64 o)) (q1 : w.cell? ⟨b5, 1, none⟩ = some (.int .i64 t)) (q2 : w.cell? ⟨b5, 2, none⟩ = some (.slice A nl c)) (hh : CV w 40 #[.slice A1 n1 c1, .int .i64 sl] (.bool true)) : OpOk Try.prog opsMy0 (wordsMy0 b5 b11 A A1 nl c n1 c1 o t la sl dy src mn lo hi sk) 46 a w 8 := by
  refine OpOk.gen rfl (fun a1 w1 H => ?_)
  have d4 : a1.eval (.tmp 21) = .bool false := H.dep 4 21 rfl (by kernel_rfl)
  refine gd_false rfl d4 (by decide) ?_
  trivial
set_option maxRecDepth 10000 in
theorem okMy0_9 {b5 b11 : Nat} {A A1 : Option Addr} {nl c n1 c1 : Nat} {o t la sl dy src mn lo hi sk : Int} {a : Act} {w : World} (t1 : a.eval (.tmp 1) = .slice A1 n1 c1) (t2 : a.eval (.tmp 2) = .int .i64 la) (t3 : a.eval (.tmp 3) = .int .i64 sl) (t4 : a.eval (.tmp 4) = .int .i64 dy) (t5 : a.eval (.tmp 5) = .pointer (some ⟨b5, 0, none⟩)) (t11 : a.eval (.tmp 11) = .pointer (some ⟨b11, 0, none⟩)) (m0 : w.cell? ⟨b11, 0, none⟩ = some (.int .i64 src)) (m2 : w.cell? ⟨b11, 2, none⟩ = some (.int .i64 mn)) (m3 : w.cell? ⟨b11, 3, none⟩ = some (.int .i64 lo)) (m4 : w.cell? ⟨b11, 4, none⟩ = some (.int .i64 hi)) (q0 : w.cell? ⟨b5, 0, none⟩ = some (.int .i64 o)) (q1 : w.cell? ⟨b5, 1, none⟩ = some (.int .i64 t)) (q2 : w.cell? ⟨b5, 2, none⟩ = some (.slice A nl c)) (hh : CV w 40 #[.slice A1 n1 c1, .int .i64 sl] (.bool true)) : OpOk Try.prog opsMy0 (wordsMy0 b5 b11 A A1 nl c n1 c1 o t la sl dy src mn lo hi sk) 46 a w 9 := by
  refine OpOk.gen rfl (fun a1 w1 H => ?_)
  have d4 : a1.eval (.tmp 21) = .bool false := H.dep 4 21 rfl (by kernel_rfl)
  refine gd_false rfl d4 (by decide) ?_
  trivial
set_option maxRecDepth 10000 in
theorem okMy0_10 {b5 b11 : Nat} {A A1 : Option Addr} {nl c n1 c1 : Nat} {o t la sl dy src mn lo hi sk : Int} {a : Act} {w : World} (t1 : a.eval (.tmp 1) = .slice A1 n1 c1) (t2 : a.eval (.tmp 2) = .int .i64 la) (t3 : a.eval (.tmp 3) = .int .i64 sl) (t4 : a.eval (.tmp 4) = .int .i64 dy) (t5 : a.eval (.tmp 5) = .pointer (some ⟨b5, 0, none⟩)) (t11 : a.eval (.tmp 11) = .pointer (some ⟨b11, 0, none⟩)) (m0 : w.cell? ⟨b11, 0, none⟩ = some (.int .i64 src)) (m2 : w.cell? ⟨b11, 2, none⟩ = some (.int .i64 mn)) (m3 : w.cell? ⟨b11, 3, none⟩ = some (.int .i64 lo)) (m4 : w.cell? ⟨b11, 4, none⟩ = some (.int .i64 hi)) (q0 : w.cell? ⟨b5, 0, none⟩ = some (.int .i64 o)) (q1 : w.cell? ⟨b5, 1, none⟩ = some (.int .i64 t)) (q2 : w.cell? ⟨b5, 2, none⟩ = some (.slice A nl c)) (hh : CV w 40 #[.slice A1 n1 c1, .int .i64 sl] (.bool true)) : OpOk Try.prog opsMy0 (wordsMy0 b5 b11 A A1 nl c n1 c1 o t la sl dy src mn lo hi sk) 46 a w 10 := by
  refine OpOk.gen rfl (fun a1 w1 H => ?_)
  have d4 : a1.eval (.tmp 21) = .bool false := H.dep 4 21 rfl (by kernel_rfl)
  refine gd_false rfl d4 (by decide) ?_
  trivial
set_option maxRecDepth 10000 in
theorem okMy0_11 {b5 b11 : Nat} {A A1 : Option Addr} {nl c n1 c1 : Nat} {o t la sl dy src mn lo hi sk : Int} {a : Act} {w : World} (t1 : a.eval (.tmp 1) = .slice A1 n1 c1) (t2 : a.eval (.tmp 2) = .int .i64 la) (t3 : a.eval (.tmp 3) = .int .i64 sl) (t4 : a.eval (.tmp 4) = .int .i64 dy) (t5 : a.eval (.tmp 5) = .pointer (some ⟨b5, 0, none⟩)) (t11 : a.eval (.tmp 11) = .pointer (some ⟨b11, 0, none⟩)) (m0 : w.cell? ⟨b11, 0, none⟩ = some (.int .i64 src)) (m2 : w.cell? ⟨b11, 2, none⟩ = some (.int .i64 mn)) (m3 : w.cell? ⟨b11, 3, none⟩ = some (.int .i64 lo)) (m4 : w.cell? ⟨b11, 4, none⟩ = some (.int .i64 hi)) (q0 : w.cell? ⟨b5, 0, none⟩ = some (.int .i64 o)) (q1 : w.cell? ⟨b5, 1, none⟩ = some (.int .i64 t)) (q2 : w.cell? ⟨b5, 2, none⟩ = some (.slice A nl c)) (hh : CV w 40 #[.slice A1 n1 c1, .int .i64 sl] (.bool true)) : OpOk Try.prog opsMy0 (wordsMy0 b5 b11 A A1 nl c n1 c1 o t la sl dy src mn lo hi sk) 46 a w 11 := by
  refine OpOk.gen rfl (fun a1 w1 H => ?_)
  have d4 : a1.eval (.tmp 21) = .bool false := H.dep 4 21 rfl (by kernel_rfl)
  refine gd_false rfl d4 (by decide) ?_
  trivial
set_option maxRecDepth 10000 in
theorem okMy0_12 {b5 b11 : Nat} {A A1 : Option Addr} {nl c n1 c1 : Nat} {o t la sl dy src mn lo hi sk : Int} {a : Act} {w : World} (t1 : a.eval (.tmp 1) = .slice A1 n1 c1) (t2 : a.eval (.tmp 2) = .int .i64 la) (t3 : a.eval (.tmp 3) = .int .i64 sl) (t4 : a.eval (.tmp 4) = .int .i64 dy) (t5 : a.eval (.tmp 5) = .pointer (some ⟨b5, 0, none⟩)) (t11 : a.eval (.tmp 11) = .pointer (some ⟨b11, 0, none⟩)) (m0 : w.cell? ⟨b11, 0, none⟩ = some (.int .i64 src)) (m2 : w.cell? ⟨b11, 2, none⟩ = some (.int .i64 mn)) (m3 : w.cell? ⟨b11, 3, none⟩ = some (.int .i64 lo)) (m4 : w.cell? ⟨b11, 4, none⟩ = some (.int .i64 hi)) (q0 : w.cell? ⟨b5, 0, none⟩ = some (.int .i64 o)) (q1 : w.cell? ⟨b5, 1, none⟩ = some (.int .i64 t)) (q2 : w.cell? ⟨b5, 2, none⟩ = some (.slice A nl c)) (hh : CV w 40 #[.slice A1 n1 c1, .int .i64 sl] (.bool true)) : OpOk Try.prog opsMy0 (wordsMy0 b5 b11 A A1 nl c n1 c1 o t la sl dy src mn lo hi sk) 46 a w 12 := by
  refine OpOk.gen rfl (fun a1 w1 H => ?_)
  have d4 : a1.eval (.tmp 21) = .bool false := H.dep 4 21 rfl (by kernel_rfl)
  refine gd_false rfl d4 (by decide) ?_
  trivial
set_option maxRecDepth 10000 in
theorem okMy0_13 {b5 b11 : Nat} {A A1 : Option Addr} {nl c n1 c1 : Nat} {o t la sl dy src mn lo hi sk : Int} {a : Act} {w : World} (t1 : a.eval (.tmp 1) = .slice A1 n1 c1) (t2 : a.eval (.tmp 2) = .int .i64 la) (t3 : a.eval (.tmp 3) = .int .i64 sl) (t4 : a.eval (.tmp 4) = .int .i64 dy) (t5 : a.eval (.tmp 5) = .pointer (some ⟨b5, 0, none⟩)) (t11 : a.eval (.tmp 11) = .pointer (some ⟨b11, 0, none⟩)) (m0 : w.cell? ⟨b11, 0, none⟩ = some (.int .i64 src)) (m2 : w.cell? ⟨b11, 2, none⟩ = some (.int .i64 mn)) (m3 : w.cell? ⟨b11, 3, none⟩ = some (.int .i64 lo)) (m4 : w.cell? ⟨b11, 4, none⟩ = some (.int .i64 hi)) (q0 : w.cell? ⟨b5, 0, none⟩ = some (.int .i64 o)) (q1 : w.cell? ⟨b5, 1, none⟩ = some (.int .i64 t)) (q2 : w.cell? ⟨b5, 2, none⟩ = some (.slice A nl c)) (hh : CV w 40 #[.slice A1 n1 c1, .int .i64 sl] (.bool true)) : OpOk Try.prog opsMy0 (wordsMy0 b5 b11 A A1 nl c n1 c1 o t la sl dy src mn lo hi sk) 46 a w 13 := by
  refine OpOk.gen rfl (fun a1 w1 H => ?_)
  have d4 : a1.eval (.tmp 21) = .bool false := H.dep 4 21 rfl (by kernel_rfl)
  refine gd_none ?_
  exact OpW.pick (b := false) d4 rfl
set_option maxRecDepth 10000 in
theorem okMy0_14 {b5 b11 : Nat} {A A1 : Option Addr} {nl c n1 c1 : Nat} {o t la sl dy src mn lo hi sk : Int} {a : Act} {w : World} (t1 : a.eval (.tmp 1) = .slice A1 n1 c1) (t2 : a.eval (.tmp 2) = .int .i64 la) (t3 : a.eval (.tmp 3) = .int .i64 sl) (t4 : a.eval (.tmp 4) = .int .i64 dy) (t5 : a.eval (.tmp 5) = .pointer (some ⟨b5, 0, none⟩)) (t11 : a.eval (.tmp 11) = .pointer (some ⟨b11, 0, none⟩)) (m0 : w.cell? ⟨b11, 0, none⟩ = some (.int .i64 src)) (m2 : w.cell? ⟨b11, 2, none⟩ = some (.int .i64 mn)) (m3 : w.cell? ⟨b11, 3, none⟩ = some (.int .i64 lo)) (m4 : w.cell? ⟨b11, 4, none⟩ = some (.int .i64 hi)) (q0 : w.cell? ⟨b5, 0, none⟩ = some (.int .i64 o)) (q1 : w.cell? ⟨b5, 1, none⟩ = some (.int .i64 t)) (q2 : w.cell? ⟨b5, 2, none⟩ = some (.slice A nl c)) (hh : CV w 40 #[.slice A1 n1 c1, .int .i64 sl] (.bool true)) : OpOk Try.prog opsMy0 (wordsMy0 b5 b11 A A1 nl c n1 c1 o t la sl dy src mn lo hi sk) 46 a w 14 := by
  refine OpOk.gen rfl (fun a1 w1 H => ?_)
  have d13 : a1.eval (.tmp 30) = .bool false := H.dep 13 30 rfl (by kernel_rfl)
  refine gd_none ?_
  exact OpW.move d13 rfl
set_option maxRecDepth 10000 in
theorem okMy0_15 {b5 b11 : Nat} {A A1 : Option Addr} {nl c n1 c1 : Nat} {o t la sl dy src mn lo hi sk : Int} {a : Act} {w : World} (t1 : a.eval (.tmp 1) = .slice A1 n1 c1) (t2 : a.eval (.tmp 2) = .int .i64 la) (t3 : a.eval (.tmp 3) = .int .i64 sl) (t4 : a.eval (.tmp 4) = .int .i64 dy) (t5 : a.eval (.tmp 5) = .pointer (some ⟨b5, 0, none⟩)) (t11 : a.eval (.tmp 11) = .pointer (some ⟨b11, 0, none⟩)) (m0 : w.cell? ⟨b11, 0, none⟩ = some (.int .i64 src)) (m2 : w.cell? ⟨b11, 2, none⟩ = some (.int .i64 mn)) (m3 : w.cell? ⟨b11, 3, none⟩ = some (.int .i64 lo)) (m4 : w.cell? ⟨b11, 4, none⟩ = some (.int .i64 hi)) (q0 : w.cell? ⟨b5, 0, none⟩ = some (.int .i64 o)) (q1 : w.cell? ⟨b5, 1, none⟩ = some (.int .i64 t)) (q2 : w.cell? ⟨b5, 2, none⟩ = some (.slice A nl c)) (hh : CV w 40 #[.slice A1 n1 c1, .int .i64 sl] (.bool true)) : OpOk Try.prog opsMy0 (wordsMy0 b5 b11 A A1 nl c n1 c1 o t la sl dy src mn lo hi sk) 46 a w 15 := by
  refine OpOk.gen rfl (fun a1 w1 H => ?_)
  have d14 : a1.eval (.tmp 31) = .bool false := H.dep 14 31 rfl (by kernel_rfl)
  refine gd_false rfl d14 (by decide) ?_
  trivial
set_option maxRecDepth 10000 in
theorem okMy0_16 {b5 b11 : Nat} {A A1 : Option Addr} {nl c n1 c1 : Nat} {o t la sl dy src mn lo hi sk : Int} {a : Act} {w : World} (t1 : a.eval (.tmp 1) = .slice A1 n1 c1) (t2 : a.eval (.tmp 2) = .int .i64 la) (t3 : a.eval (.tmp 3) = .int .i64 sl) (t4 : a.eval (.tmp 4) = .int .i64 dy) (t5 : a.eval (.tmp 5) = .pointer (some ⟨b5, 0, none⟩)) (t11 : a.eval (.tmp 11) = .pointer (some ⟨b11, 0, none⟩)) (m0 : w.cell? ⟨b11, 0, none⟩ = some (.int .i64 src)) (m2 : w.cell? ⟨b11, 2, none⟩ = some (.int .i64 mn)) (m3 : w.cell? ⟨b11, 3, none⟩ = some (.int .i64 lo)) (m4 : w.cell? ⟨b11, 4, none⟩ = some (.int .i64 hi)) (q0 : w.cell? ⟨b5, 0, none⟩ = some (.int .i64 o)) (q1 : w.cell? ⟨b5, 1, none⟩ = some (.int .i64 t)) (q2 : w.cell? ⟨b5, 2, none⟩ = some (.slice A nl c)) (hh : CV w 40 #[.slice A1 n1 c1, .int .i64 sl] (.bool true)) : OpOk Try.prog opsMy0 (wordsMy0 b5 b11 A A1 nl c n1 c1 o t la sl dy src mn lo hi sk) 46 a w 16 := by
  refine OpOk.gen rfl (fun a1 w1 H => ?_)
  have d14 : a1.eval (.tmp 31) = .bool false := H.dep 14 31 rfl (by kernel_rfl)
  refine gd_false rfl d14 (by decide) ?_
  trivial
set_option maxRecDepth 10000 in
theorem okMy0_17 {b5 b11 : Nat} {A A1 : Option Addr} {nl c n1 c1 : Nat} {o t la sl dy src mn lo hi sk : Int} {a : Act} {w : World} (t1 : a.eval (.tmp 1) = .slice A1 n1 c1) (t2 : a.eval (.tmp 2) = .int .i64 la) (t3 : a.eval (.tmp 3) = .int .i64 sl) (t4 : a.eval (.tmp 4) = .int .i64 dy) (t5 : a.eval (.tmp 5) = .pointer (some ⟨b5, 0, none⟩)) (t11 : a.eval (.tmp 11) = .pointer (some ⟨b11, 0, none⟩)) (m0 : w.cell? ⟨b11, 0, none⟩ = some (.int .i64 src)) (m2 : w.cell? ⟨b11, 2, none⟩ = some (.int .i64 mn)) (m3 : w.cell? ⟨b11, 3, none⟩ = some (.int .i64 lo)) (m4 : w.cell? ⟨b11, 4, none⟩ = some (.int .i64 hi)) (q0 : w.cell? ⟨b5, 0, none⟩ = some (.int .i64 o)) (q1 : w.cell? ⟨b5, 1, none⟩ = some (.int .i64 t)) (q2 : w.cell? ⟨b5, 2, none⟩ = some (.slice A nl c)) (hh : CV w 40 #[.slice A1 n1 c1, .int .i64 sl] (.bool true)) : OpOk Try.prog opsMy0 (wordsMy0 b5 b11 A A1 nl c n1 c1 o t la sl dy src mn lo hi sk) 46 a w 17 := by
  refine OpOk.gen rfl (fun a1 w1 H => ?_)
  have d14 : a1.eval (.tmp 31) = .bool false := H.dep 14 31 rfl (by kernel_rfl)
  refine gd_false rfl d14 (by decide) ?_
  trivial
set_option maxRecDepth 10000 in
theorem okMy0_18 {b5 b11 : Nat} {A A1 : Option Addr} {nl c n1 c1 : Nat} {o t la sl dy src mn lo hi sk : Int} {a : Act} {w : World} (t1 : a.eval (.tmp 1) = .slice A1 n1 c1) (t2 : a.eval (.tmp 2) = .int .i64 la) (t3 : a.eval (.tmp 3) = .int .i64 sl) (t4 : a.eval (.tmp 4) = .int .i64 dy) (t5 : a.eval (.tmp 5) = .pointer (some ⟨b5, 0, none⟩)) (t11 : a.eval (.tmp 11) = .pointer (some ⟨b11, 0, none⟩)) (m0 : w.cell? ⟨b11, 0, none⟩ = some (.int .i64 src)) (m2 : w.cell? ⟨b11, 2, none⟩ = some (.int .i64 mn)) (m3 : w.cell? ⟨b11, 3, none⟩ = some (.int .i64 lo)) (m4 : w.cell? ⟨b11, 4, none⟩ = some (.int .i64 hi)) (q0 : w.cell? ⟨b5, 0, none⟩ = some (.int .i64 o)) (q1 : w.cell? ⟨b5, 1, none⟩ = some (.int .i64 t)) (q2 : w.cell? ⟨b5, 2, none⟩ = some (.slice A nl c)) (hh : CV w 40 #[.slice A1 n1 c1, .int .i64 sl] (.bool true)) : OpOk Try.prog opsMy0 (wordsMy0 b5 b11 A A1 nl c n1 c1 o t la sl dy src mn lo hi sk) 46 a w 18 := by
  refine OpOk.gen rfl (fun a1 w1 H => ?_)
  have d14 : a1.eval (.tmp 31) = .bool false := H.dep 14 31 rfl (by kernel_rfl)
  refine gd_none ?_
  exact OpW.pick (b := false) d14 rfl
set_option maxRecDepth 10000 in
theorem okMy0_19 {b5 b11 : Nat} {A A1 : Option Addr} {nl c n1 c1 : Nat} {o t la sl dy src mn lo hi sk : Int} {a : Act} {w : World} (t1 : a.eval (.tmp 1) = .slice A1 n1 c1) (t2 : a.eval (.tmp 2) = .int .i64 la) (t3 : a.eval (.tmp 3) = .int .i64 sl) (t4 : a.eval (.tmp 4) = .int .i64 dy) (t5 : a.eval (.tmp 5) = .pointer (some ⟨b5, 0, none⟩)) (t11 : a.eval (.tmp 11) = .pointer (some ⟨b11, 0, none⟩)) (m0 : w.cell? ⟨b11, 0, none⟩ = some (.int .i64 src)) (m2 : w.cell? ⟨b11, 2, none⟩ = some (.int .i64 mn)) (m3 : w.cell? ⟨b11, 3, none⟩ = some (.int .i64 lo)) (m4 : w.cell? ⟨b11, 4, none⟩ = some (.int .i64 hi)) (q0 : w.cell? ⟨b5, 0, none⟩ = some (.int .i64 o)) (q1 : w.cell? ⟨b5, 1, none⟩ = some (.int .i64 t)) (q2 : w.cell? ⟨b5, 2, none⟩ = some (.slice A nl c)) (hh : CV w 40 #[.slice A1 n1 c1, .int .i64 sl] (.bool true)) : OpOk Try.prog opsMy0 (wordsMy0 b5 b11 A A1 nl c n1 c1 o t la sl dy src mn lo hi sk) 46 a w 19 := by
  refine OpOk.gen rfl (fun a1 w1 H => ?_)
  have d18 : a1.eval (.tmp 35) = .bool false := H.dep 18 35 rfl (by kernel_rfl)
  refine gd_none ?_
  exact OpW.move d18 rfl
set_option maxRecDepth 10000 in
theorem okMy0_20 {b5 b11 : Nat} {A A1 : Option Addr} {nl c n1 c1 : Nat} {o t la sl dy src mn lo hi sk : Int} {a : Act} {w : World} (t1 : a.eval (.tmp 1) = .slice A1 n1 c1) (t2 : a.eval (.tmp 2) = .int .i64 la) (t3 : a.eval (.tmp 3) = .int .i64 sl) (t4 : a.eval (.tmp 4) = .int .i64 dy) (t5 : a.eval (.tmp 5) = .pointer (some ⟨b5, 0, none⟩)) (t11 : a.eval (.tmp 11) = .pointer (some ⟨b11, 0, none⟩)) (m0 : w.cell? ⟨b11, 0, none⟩ = some (.int .i64 src)) (m2 : w.cell? ⟨b11, 2, none⟩ = some (.int .i64 mn)) (m3 : w.cell? ⟨b11, 3, none⟩ = some (.int .i64 lo)) (m4 : w.cell? ⟨b11, 4, none⟩ = some (.int .i64 hi)) (q0 : w.cell? ⟨b5, 0, none⟩ = some (.int .i64 o)) (q1 : w.cell? ⟨b5, 1, none⟩ = some (.int .i64 t)) (q2 : w.cell? ⟨b5, 2, none⟩ = some (.slice A nl c)) (hh : CV w 40 #[.slice A1 n1 c1, .int .i64 sl] (.bool true)) : OpOk Try.prog opsMy0 (wordsMy0 b5 b11 A A1 nl c n1 c1 o t la sl dy src mn lo hi sk) 46 a w 20 := by
  refine OpOk.gen rfl (fun a1 w1 H => ?_)
  have d19 : a1.eval (.tmp 36) = .bool false := H.dep 19 36 rfl (by kernel_rfl)
  refine gd_false rfl d19 (by decide) ?_
  trivial
set_option maxRecDepth 10000 in
theorem okMy0_21 {b5 b11 : Nat} {A A1 : Option Addr} {nl c n1 c1 : Nat} {o t la sl dy src mn lo hi sk : Int} {a : Act} {w : World} (t1 : a.eval (.tmp 1) = .slice A1 n1 c1) (t2 : a.eval (.tmp 2) = .int .i64 la) (t3 : a.eval (.tmp 3) = .int .i64 sl) (t4 : a.eval (.tmp 4) = .int .i64 dy) (t5 : a.eval (.tmp 5) = .pointer (some ⟨b5, 0, none⟩)) (t11 : a.eval (.tmp 11) = .pointer (some ⟨b11, 0, none⟩)) (m0 : w.cell? ⟨b11, 0, none⟩ = some (.int .i64 src)) (m2 : w.cell? ⟨b11, 2, none⟩ = some (.int .i64 mn)) (m3 : w.cell? ⟨b11, 3, none⟩ = some (.int .i64 lo)) (m4 : w.cell? ⟨b11, 4, none⟩ = some (.int .i64 hi)) (q0 : w.cell? ⟨b5, 0, none⟩ = some (.int .i64 o)) (q1 : w.cell? ⟨b5, 1, none⟩ = some (.int .i64 t)) (q2 : w.cell? ⟨b5, 2, none⟩ = some (.slice A nl c)) (hh : CV w 40 #[.slice A1 n1 c1, .int .i64 sl] (.bool true)) : OpOk Try.prog opsMy0 (wordsMy0 b5 b11 A A1 nl c n1 c1 o t la sl dy src mn lo hi sk) 46 a w 21 := by
  refine OpOk.gen rfl (fun a1 w1 H => ?_)
  have d19 : a1.eval (.tmp 36) = .bool false := H.dep 19 36 rfl (by kernel_rfl)
  refine gd_false rfl d19 (by decide) ?_
  trivial
set_option maxRecDepth 10000 in
theorem okMy0_22 {b5 b11 : Nat} {A A1 : Option Addr} {nl c n1 c1 : Nat} {o t la sl dy src mn lo hi sk : Int} {a : Act} {w : World} (t1 : a.eval (.tmp 1) = .slice A1 n1 c1) (t2 : a.eval (.tmp 2) = .int .i64 la) (t3 : a.eval (.tmp 3) = .int .i64 sl) (t4 : a.eval (.tmp 4) = .int .i64 dy) (t5 : a.eval (.tmp 5) = .pointer (some ⟨b5, 0, none⟩)) (t11 : a.eval (.tmp 11) = .pointer (some ⟨b11, 0, none⟩)) (m0 : w.cell? ⟨b11, 0, none⟩ = some (.int .i64 src)) (m2 : w.cell? ⟨b11, 2, none⟩ = some (.int .i64 mn)) (m3 : w.cell? ⟨b11, 3, none⟩ = some (.int .i64 lo)) (m4 : w.cell? ⟨b11, 4, none⟩ = some (.int .i64 hi)) (q0 : w.cell? ⟨b5, 0, none⟩ = some (.int .i64 o)) (q1 : w.cell? ⟨b5, 1, none⟩ = some (.int .i64 t)) (q2 : w.cell? ⟨b5, 2, none⟩ = some (.slice A nl c)) (hh : CV w 40 #[.slice A1 n1 c1, .int .i64 sl] (.bool true)) : OpOk Try.prog opsMy0 (wordsMy0 b5 b11 A A1 nl c n1 c1 o t la sl dy src mn lo hi sk) 46 a w 22 := by
  refine OpOk.gen rfl (fun a1 w1 H => ?_)
  have d19 : a1.eval (.tmp 36) = .bool false := H.dep 19 36 rfl (by kernel_rfl)
  refine gd_false rfl d19 (by decide) ?_
  trivial
set_option maxRecDepth 10000 in
theorem okMy0_23 {b5 b11 : Nat} {A A1 : Option Addr} {nl c n1 c1 : Nat} {o t la sl dy src mn lo hi sk : Int} {a : Act} {w : World} (t1 : a.eval (.tmp 1) = .slice A1 n1 c1) (t2 : a.eval (.tmp 2) = .int .i64 la) (t3 : a.eval (.tmp 3) = .int .i64 sl) (t4 : a.eval (.tmp 4) = .int .i64 dy) (t5 : a.eval (.tmp 5) = .pointer (some ⟨b5, 0, none⟩)) (t11 : a.eval (.tmp 11) = .pointer (some ⟨b11, 0, none⟩)) (m0 : w.cell? ⟨b11, 0, none⟩ = some (.int .i64 src)) (m2 : w.cell? ⟨b11, 2, none⟩ = some (.int .i64 mn)) (m3 : w.cell? ⟨b11, 3, none⟩ = some (.int .i64 lo)) (m4 : w.cell? ⟨b11, 4, none⟩ = some (.int .i64 hi)) (q0 : w.cell? ⟨b5, 0, none⟩ = some (.int .i64 o)) (q1 : w.cell? ⟨b5, 1, none⟩ = some (.int .i64 t)) (q2 : w.cell? ⟨b5, 2, none⟩ = some (.slice A nl c)) (hh : CV w 40 #[.slice A1 n1 c1, .int .i64 sl] (.bool true)) : OpOk Try.prog opsMy0 (wordsMy0 b5 b11 A A1 nl c n1 c1 o t la sl dy src mn lo hi sk) 46 a w 23 := by
  refine OpOk.gen rfl (fun a1 w1 H => ?_)
  have d19 : a1.eval (.tmp 36) = .bool false := H.dep 19 36 rfl (by kernel_rfl)
  refine gd_false rfl d19 (by decide) ?_
  trivial
set_option maxRecDepth 10000 in
theorem okMy0_24 {b5 b11 : Nat} {A A1 : Option Addr} {nl c n1 c1 : Nat} {o t la sl dy src mn lo hi sk : Int} {a : Act} {w : World} (t1 : a.eval (.tmp 1) = .slice A1 n1 c1) (t2 : a.eval (.tmp 2) = .int .i64 la) (t3 : a.eval (.tmp 3) = .int .i64 sl) (t4 : a.eval (.tmp 4) = .int .i64 dy) (t5 : a.eval (.tmp 5) = .pointer (some ⟨b5, 0, none⟩)) (t11 : a.eval (.tmp 11) = .pointer (some ⟨b11, 0, none⟩)) (m0 : w.cell? ⟨b11, 0, none⟩ = some (.int .i64 src)) (m2 : w.cell? ⟨b11, 2, none⟩ = some (.int .i64 mn)) (m3 : w.cell? ⟨b11, 3, none⟩ = some (.int .i64 lo)) (m4 : w.cell? ⟨b11, 4, none⟩ = some (.int .i64 hi)) (q0 : w.cell? ⟨b5, 0, none⟩ = some (.int .i64 o)) (q1 : w.cell? ⟨b5, 1, none⟩ = some (.int .i64 t)) (q2 : w.cell? ⟨b5, 2, none⟩ = some (.slice A nl c)) (hh : CV w 40 #[.slice A1 n1 c1, .int .i64 sl] (.bool true)) : OpOk Try.prog opsMy0 (wordsMy0 b5 b11 A A1 nl c n1 c1 o t la sl dy src mn lo hi sk) 46 a w 24 := by
  refine OpOk.gen rfl (fun a1 w1 H => ?_)
  have d19 : a1.eval (.tmp 36) = .bool false := H.dep 19 36 rfl (by kernel_rfl)
  refine gd_false rfl d19 (by decide) ?_
  trivial
set_option maxRecDepth 10000 in
theorem okMy0_25 {b5 b11 : Nat} {A A1 : Option Addr} {nl c n1 c1 : Nat} {o t la sl dy src mn lo hi sk : Int} {a : Act} {w : World} (t1 : a.eval (.tmp 1) = .slice A1 n1 c1) (t2 : a.eval (.tmp 2) = .int .i64 la) (t3 : a.eval (.tmp 3) = .int .i64 sl) (t4 : a.eval (.tmp 4) = .int .i64 dy) (t5 : a.eval (.tmp 5) = .pointer (some ⟨b5, 0, none⟩)) (t11 : a.eval (.tmp 11) = .pointer (some ⟨b11, 0, none⟩)) (m0 : w.cell? ⟨b11, 0, none⟩ = some (.int .i64 src)) (m2 : w.cell? ⟨b11, 2, none⟩ = some (.int .i64 mn)) (m3 : w.cell? ⟨b11, 3, none⟩ = some (.int .i64 lo)) (m4 : w.cell? ⟨b11, 4, none⟩ = some (.int .i64 hi)) (q0 : w.cell? ⟨b5, 0, none⟩ = some (.int .i64 o)) (q1 : w.cell? ⟨b5, 1, none⟩ = some (.int .i64 t)) (q2 : w.cell? ⟨b5, 2, none⟩ = some (.slice A nl c)) (hh : CV w 40 #[.slice A1 n1 c1, .int .i64 sl] (.bool true)) : OpOk Try.prog opsMy0 (wordsMy0 b5 b11 A A1 nl c n1 c1 o t la sl dy src mn lo hi sk) 46 a w 25 := by
  refine OpOk.gen rfl (fun a1 w1 H => ?_)
  have d19 : a1.eval (.tmp 36) = .bool false := H.dep 19 36 rfl (by kernel_rfl)
  refine gd_false rfl d19 (by decide) ?_
  trivial
set_option maxRecDepth 10000 in
theorem okMy0_26 {b5 b11 : Nat} {A A1 : Option Addr} {nl c n1 c1 : Nat} {o t la sl dy src mn lo hi sk : Int} {a : Act} {w : World} (t1 : a.eval (.tmp 1) = .slice A1 n1 c1) (t2 : a.eval (.tmp 2) = .int .i64 la) (t3 : a.eval (.tmp 3) = .int .i64 sl) (t4 : a.eval (.tmp 4) = .int .i64 dy) (t5 : a.eval (.tmp 5) = .pointer (some ⟨b5, 0, none⟩)) (t11 : a.eval (.tmp 11) = .pointer (some ⟨b11, 0, none⟩)) (m0 : w.cell? ⟨b11, 0, none⟩ = some (.int .i64 src)) (m2 : w.cell? ⟨b11, 2, none⟩ = some (.int .i64 mn)) (m3 : w.cell? ⟨b11, 3, none⟩ = some (.int .i64 lo)) (m4 : w.cell? ⟨b11, 4, none⟩ = some (.int .i64 hi)) (q0 : w.cell? ⟨b5, 0, none⟩ = some (.int .i64 o)) (q1 : w.cell? ⟨b5, 1, none⟩ = some (.int .i64 t)) (q2 : w.cell? ⟨b5, 2, none⟩ = some (.slice A nl c)) (hh : CV w 40 #[.slice A1 n1 c1, .int .i64 sl] (.bool true)) : OpOk Try.prog opsMy0 (wordsMy0 b5 b11 A A1 nl c n1 c1 o t la sl dy src mn lo hi sk) 46 a w 26 := by
  refine OpOk.gen rfl (fun a1 w1 H => ?_)
  have d19 : a1.eval (.tmp 36) = .bool false := H.dep 19 36 rfl (by kernel_rfl)
  refine gd_false rfl d19 (by decide) ?_
  trivial
set_option maxRecDepth 10000 in
theorem okMy0_27 {b5 b11 : Nat} {A A1 : Option Addr} {nl c n1 c1 : Nat} {o t la sl dy src mn lo hi sk : Int} {a : Act} {w : World} (t1 : a.eval (.tmp 1) = .slice A1 n1 c1) (t2 : a.eval (.tmp 2) = .int .i64 la) (t3 : a.eval (.tmp 3) = .int .i64 sl) (t4 : a.eval (.tmp 4) = .int .i64 dy) (t5 : a.eval (.tmp 5) = .pointer (some ⟨b5, 0, none⟩)) (t11 : a.eval (.tmp 11) = .pointer (some ⟨b11, 0, none⟩)) (m0 : w.cell? ⟨b11, 0, none⟩ = some (.int .i64 src)) (m2 : w.cell? ⟨b11, 2, none⟩ = some (.int .i64 mn)) (m3 : w.cell? ⟨b11, 3, none⟩ = some (.int .i64 lo)) (m4 : w.cell? ⟨b11, 4, none⟩ = some (.int .i64 hi)) (q0 : w.cell? ⟨b5, 0, none⟩ = some (.int .i64 o)) (q1 : w.cell? ⟨b5, 1, none⟩ = some (.int .i64 t)) (q2 : w.cell? ⟨b5, 2, none⟩ = some (.slice A nl c)) (hh : CV w 40 #[.slice A1 n1 c1, .int .i64 sl] (.bool true)) : OpOk Try.prog opsMy0 (wordsMy0 b5 b11 A A1 nl c n1 c1 o t la sl dy src mn lo hi sk) 46 a w 27 := by
  refine OpOk.gen rfl (fun a1 w1 H => ?_)
  have d19 : a1.eval (.tmp 36) = .bool false := H.dep 19 36 rfl (by kernel_rfl)
  refine gd_false rfl d19 (by decide) ?_
  trivial
set_option maxRecDepth 10000 in
theorem okMy0_28 {b5 b11 : Nat} {A A1 : Option Addr} {nl c n1 c1 : Nat} {o t la sl dy src mn lo hi sk : Int} {a : Act} {w : World} (t1 : a.eval (.tmp 1) = .slice A1 n1 c1) (t2 : a.eval (.tmp 2) = .int .i64 la) (t3 : a.eval (.tmp 3) = .int .i64 sl) (t4 : a.eval (.tmp 4) = .int .i64 dy) (t5 : a.eval (.tmp 5) = .pointer (some ⟨b5, 0, none⟩)) (t11 : a.eval (.tmp 11) = .pointer (some ⟨b11, 0, none⟩)) (m0 : w.cell? ⟨b11, 0, none⟩ = some (.int .i64 src)) (m2 : w.cell? ⟨b11, 2, none⟩ = some (.int .i64 mn)) (m3 : w.cell? ⟨b11, 3, none⟩ = some (.int .i64 lo)) (m4 : w.cell? ⟨b11, 4, none⟩ = some (.int .i64 hi)) (q0 : w.cell? ⟨b5, 0, none⟩ = some (.int .i64 o)) (q1 : w.cell? ⟨b5, 1, none⟩ = some (.int .i64 t)) (q2 : w.cell? ⟨b5, 2, none⟩ = some (.slice A nl c)) (hh : CV w 40 #[.slice A1 n1 c1, .int .i64 sl] (.bool true)) : OpOk Try.prog opsMy0 (wordsMy0 b5 b11 A A1 nl c n1 c1 o t la sl dy src mn lo hi sk) 46 a w 28 := by
  refine OpOk.gen rfl (fun a1 w1 H => ?_)
  have d19 : a1.eval (.tmp 36) = .bool false := H.dep 19 36 rfl (by kernel_rfl)
  refine gd_none ?_
  exact OpW.pick (b := false) d19 rfl
set_option maxRecDepth 10000 in
theorem okMy0_29 {b5 b11 : Nat} {A A1 : Option Addr} {nl c n1 c1 : Nat} {o t la sl dy src mn lo hi sk : Int} {a : Act} {w : World} (t1 : a.eval (.tmp 1) = .slice A1 n1 c1) (t2 : a.eval (.tmp 2) = .int .i64 la) (t3 : a.eval (.tmp 3) = .int .i64 sl) (t4 : a.eval (.tmp 4) = .int .i64 dy) (t5 : a.eval (.tmp 5) = .pointer (some ⟨b5, 0, none⟩)) (t11 : a.eval (.tmp 11) = .pointer (some ⟨b11, 0, none⟩)) (m0 : w.cell? ⟨b11, 0, none⟩ = some (.int .i64 src)) (m2 : w.cell? ⟨b11, 2, none⟩ = some (.int .i64 mn)) (m3 : w.cell? ⟨b11, 3, none⟩ = some (.int .i64 lo)) (m4 : w.cell? ⟨b11, 4, none⟩ = some (.int .i64 hi)) (q0 : w.cell? ⟨b5, 0, none⟩ = some (.int .i64 o)) (q1 : w.cell? ⟨b5, 1, none⟩ = some (.int .i64 t)) (q2 : w.cell? ⟨b5, 2, none⟩ = some (.slice A nl c)) (hh : CV w 40 #[.slice A1 n1 c1, .int .i64 sl] (.bool true)) : OpOk Try.prog opsMy0 (wordsMy0 b5 b11 A A1 nl c n1 c1 o t la sl dy src mn lo hi sk) 46 a w 29 := by
  refine OpOk.gen rfl (fun a1 w1 H => ?_)
  have d28 : a1.eval (.tmp 45) = .bool false := H.dep 28 45 rfl (by kernel_rfl)
  refine gd_none ?_
  exact OpW.assign d28 rfl
set_option maxRecDepth 10000 in
theorem regionMy0 {F : Fence} {n : Nat} (hF : WideF F Try.prog) {Q : Exit → Act → World → Prop} {b5 b11 : Nat} {A A1 : Option Addr} {nl c n1 c1 : Nat} {o t la sl dy src mn lo hi sk : Int} {a : Act} {w : World} (hsz : a.tmps.size = 46)
    (t1 : a.eval (.tmp 1) = .slice A1 n1 c1) (t2 : a.eval (.tmp 2) = .int .i64 la) (t3 : a.eval (.tmp 3) = .int .i64 sl) (t4 : a.eval (.tmp 4) = .int .i64 dy) (t5 : a.eval (.tmp 5) = .pointer (some ⟨b5, 0, none⟩)) (t11 : a.eval (.tmp 11) = .pointer (some ⟨b11, 0, none⟩)) (m0 : w.cell? ⟨b11, 0, none⟩ = some (.int .i64 src)) (m2 : w.cell? ⟨b11, 2, none⟩ = some (.int .i64 mn)) (m3 : w.cell? ⟨b11, 3, none⟩ = some (.int .i64 lo)) (m4 : w.cell? ⟨b11, 4, none⟩ = some (.int .i64 hi)) (q0 : w.cell? ⟨b5, 0, none⟩ = some (.int .i64 o)) (q1 : w.cell? ⟨b5, 1, none⟩ = some (.int .i64 t)) (q2 : w.cell? ⟨b5, 2, none⟩ = some (.slice A nl c)) (hh : CV w 40 #[.slice A1 n1 c1, .int .i64 sl] (.bool true))
    (hK : ∀ (a' : Act) (w' : World), a'.tmps.size = 46 → a'.defers = a.defers → Below w.heap.size w w' → (∀ e, ndstB opsMy0 e = true → a'.eval (.tmp e) = a.eval (.tmp e)) → (∀ (j d : Nat), (opsMy0[j]?).bind (·.dst) = some d → (wordsMy0 b5 b11 A A1 nl c n1 c1 o t la sl dy src mn lo hi sk).at_ j (a'.eval (.tmp d)) w') → Q .normal a' w') :
    (Code.region 2 opsMy0 true).wpIn F n Try.prog Q a w := by
  refine region_S (wordsMy0 b5 b11 A A1 nl c n1 c1 o t la sl dy src mn lo hi sk) 46 hF (by kernel_rfl) Try.mixed (by kernel_rfl) (by kernel_rfl) ?_ hsz 30 (by kernel_rfl) ?_ hK
  · exact ⟨(fun _ _ _ h _ => h), (fun _ _ _ h _ => h), (fun _ _ _ h _ => h), (fun _ _ _ h _ => h), (fun _ _ _ h _ => h), (fun _ _ _ _ _ => trivial), (fun _ _ _ _ _ => trivial), (fun _ _ _ _ _ => trivial), (fun _ _ _ _ _ => trivial), (fun _ _ _ _ _ => trivial), (fun _ _ _ _ _ => trivial), (fun _ _ _ _ _ => trivial), (fun _ _ _ _ _ => trivial), (fun _ _ _ h _ => h), (fun _ _ _ h _ => h), (fun _ _ _ _ _ => trivial), (fun _ _ _ _ _ => trivial), (fun _ _ _ _ _ => trivial), (fun _ _ _ h _ => h), (fun _ _ _ h _ => h), (fun _ _ _ _ _ => trivial), (fun _ _ _ _ _ => trivial), (fun _ _ _ _ _ => trivial), (fun _ _ _ _ _ => trivial), (fun _ _ _ _ _ => trivial), (fun _ _ _ _ _ => trivial), (fun _ _ _ _ _ => trivial), (fun _ _ _ _ _ => trivial), (fun _ _ _ h _ => h), (fun _ _ _ h _ => h), trivial⟩
  · exact ⟨⟨⟨⟨⟨⟨⟨⟨⟨⟨⟨⟨⟨⟨⟨⟨⟨⟨⟨⟨⟨⟨⟨⟨⟨⟨⟨⟨⟨⟨trivial, okMy0_0 t1 t2 t3 t4 t5 t11 m0 m2 m3 m4 q0 q1 q2 hh.drew⟩, okMy0_1 t1 t2 t3 t4 t5 t11 m0 m2 m3 m4 q0 q1 q2 hh.drew⟩, okMy0_2 t1 t2 t3 t4 t5 t11 m0 m2 m3 m4 q0 q1 q2 hh.drew⟩, okMy0_3 t1 t2 t3 t4 t5 t11 m0 m2 m3 m4 q0 q1 q2 hh.drew⟩, okMy0_4 t1 t2 t3 t4 t5 t11 m0 m2 m3 m4 q0 q1 q2 hh.drew⟩, okMy0_5 t1 t2 t3 t4 t5 t11 m0 m2 m3 m4 q0 q1 q2 hh.drew⟩, okMy0_6 t1 t2 t3 t4 t5 t11 m0 m2 m3 m4 q0 q1 q2 hh.drew⟩, okMy0_7 t1 t2 t3 t4 t5 t11 m0 m2 m3 m4 q0 q1 q2 hh.drew⟩, okMy0_8 t1 t2 t3 t4 t5 t11 m0 m2 m3 m4 q0 q1 q2 hh.drew⟩, okMy0_9 t1 t2 t3 t4 t5 t11 m0 m2 m3 m4 q0 q1 q2 hh.drew⟩, okMy0_10 t1 t2 t3 t4 t5 t11 m0 m2 m3 m4 q0 q1 q2 hh.drew⟩, okMy0_11 t1 t2 t3 t4 t5 t11 m0 m2 m3 m4 q0 q1 q2 hh.drew⟩, okMy0_12 t1 t2 t3 t4 t5 t11 m0 m2 m3 m4 q0 q1 q2 hh.drew⟩, okMy0_13 t1 t2 t3 t4 t5 t11 m0 m2 m3 m4 q0 q1 q2 hh.drew⟩, okMy0_14 t1 t2 t3 t4 t5 t11 m0 m2 m3 m4 q0 q1 q2 hh.drew⟩, okMy0_15 t1 t2 t3 t4 t5 t11 m0 m2 m3 m4 q0 q1 q2 hh.drew⟩, okMy0_16 t1 t2 t3 t4 t5 t11 m0 m2 m3 m4 q0 q1 q2 hh.drew⟩, okMy0_17 t1 t2 t3 t4 t5 t11 m0 m2 m3 m4 q0 q1 q2 hh.drew⟩, okMy0_18 t1 t2 t3 t4 t5 t11 m0 m2 m3 m4 q0 q1 q2 hh.drew⟩, okMy0_19 t1 t2 t3 t4 t5 t11 m0 m2 m3 m4 q0 q1 q2 hh.drew⟩, okMy0_20 t1 t2 t3 t4 t5 t11 m0 m2 m3 m4 q0 q1 q2 hh.drew⟩, okMy0_21 t1 t2 t3 t4 t5 t11 m0 m2 m3 m4 q0 q1 q2 hh.drew⟩, okMy0_22 t1 t2 t3 t4 t5 t11 m0 m2 m3 m4 q0 q1 q2 hh.drew⟩, okMy0_23 t1 t2 t3 t4 t5 t11 m0 m2 m3 m4 q0 q1 q2 hh.drew⟩, okMy0_24 t1 t2 t3 t4 t5 t11 m0 m2 m3 m4 q0 q1 q2 hh.drew⟩, okMy0_25 t1 t2 t3 t4 t5 t11 m0 m2 m3 m4 q0 q1 q2 hh.drew⟩, okMy0_26 t1 t2 t3 t4 t5 t11 m0 m2 m3 m4 q0 q1 q2 hh.drew⟩, okMy0_27 t1 t2 t3 t4 t5 t11 m0 m2 m3 m4 q0 q1 q2 hh.drew⟩, okMy0_28 t1 t2 t3 t4 t5 t11 m0 m2 m3 m4 q0 q1 q2 hh.drew⟩, okMy0_29 t1 t2 t3 t4 t5 t11 m0 m2 m3 m4 q0 q1 q2 hh.drew⟩
noncomputable def opsMy1 : Array Oper := (Try.f52.body.bind (regionOf 2)).getD #[]
def wordsMy1 (b5 b11 : Nat) (A A1 : Option Addr) (nl c n1 c1 : Nat) (o t la sl dy src mn lo hi sk : Int) : Words := [fun v _ => v = .slice A1 n1 c1, fun v _ => v = .int .i64 sl, fun v _ => v = .bool false, fun v _ => v = .bool true, fun v _ => v = .bool true, fun v _ => v = .int .i64 dy, fun v _ => v = .pointer (some ⟨b11, 3, none⟩), fun v _ => v = .pointer (some ⟨b11, 3, none⟩), fun v _ => v = .int .i64 lo, fun v _ => v = .pointer (some ⟨b11, 3, none⟩), fun v _ => v = .pointer (some ⟨b11, 4, none⟩), fun v _ => v = .int .i64 hi, fun v _ => v = .bool false, fun v _ => v = .bool false, fun v _ => v = .bool false, fun _ _ => True, fun _ _ => True, fun _ _ => True, fun v _ => v = .bool false, fun v _ => v = .bool false, fun _ _ => True, fun _ _ => True, fun _ _ => True, fun _ _ => True, fun _ _ => True, fun _ _ => True, fun _ _ => True, fun _ _ => True, fun v _ => v = .bool false, fun v _ => v = .bool false]
set_option maxRecDepth 10000 in
theorem okMy1_0 {b5 b11 : Nat} {A A1 : Option Addr} {nl c n1 c1 : Nat} {o t la sl dy src mn lo hi sk : Int} {a : Act} {w : World} (t1 : a.eval (.tmp 1) = .slice A1 n1 c1) (t2 : a.eval (.tmp 2) = .int .i64 la) (t3 : a.eval (.tmp 3) = .int .i64 sl) (t4 : a.eval (.tmp 4) = .int .i64 dy) (t5 : a.eval (.tmp 5) = .pointer (some ⟨b5, 0, none⟩)) (t11 : a.eval (.tmp 11) = .pointer (some ⟨b11, 0, none⟩)) (m0 : w.cell? ⟨b11, 0, none⟩ = some (.int .i64 src)) (m2 : w.cell? ⟨b11, 2, none⟩ = some (.int .i64 mn)) (m3 : w.cell? ⟨b11, 3, none⟩ = some (.int .i64 lo)) (m4 : w.cell? ⟨b11, 4, none⟩ = some (.int .i64 hi)) (q0 : w.cell? ⟨b5, 0, none⟩ = some (.int .i64 o)) (q1 : w.cell? ⟨b5, 1, none⟩ = some (.int .i64 t)) (q2 : w.cell? ⟨b5, 2, none⟩ = some (.slice A nl c)) (hh : CV w 40 #[.slice A1 n1 c1, .int .i64 sl] (.bool false)) (hi' : CV w 31 #[.int .i64 dy, .int .i64 lo, .int .i64 hi] (.bool false)) : OpOk Try.prog opsMy1 (wordsMy1 b5 b11 A A1 nl c n1 c1 o t la sl dy src mn lo hi sk) 46 a w 0 := by
  refine OpOk.gen rfl (fun a1 w1 H => ?_)
  have e1 : a1.eval (.tmp 1) = .slice A1 n1 c1 := (H.out 1 (by kernel_rfl)).trans t1
  refine gd_none ?_
  exact OpW.move e1 rfl
set_option maxRecDepth 10000 in
theorem okMy1_1 {b5 b11 : Nat} {A A1 : Option Addr} {nl c n1 c1 : Nat} {o t la sl dy src mn lo hi sk : Int} {a : Act} {w : World} (t1 : a.eval (.tmp 1) = .slice A1 n1 c1) (t2 : a.eval (.tmp 2) = .int .i64 la) (t3 : a.eval (.tmp 3) = .int .i64 sl) (t4 : a.eval (.tmp 4) = .int .i64 dy) (t5 : a.eval (.tmp 5) = .pointer (some ⟨b5, 0, none⟩)) (t11 : a.eval (.tmp 11) = .pointer (some ⟨b11, 0, none⟩)) (m0 : w.cell? ⟨b11, 0, none⟩ = some (.int .i64 src)) (m2 : w.cell? ⟨b11, 2, none⟩ = some (.int .i64 mn)) (m3 : w.cell? ⟨b11, 3, none⟩ = some (.int .i64 lo)) (m4 : w.cell? ⟨b11, 4, none⟩ = some (.int .i64 hi)) (q0 : w.cell? ⟨b5, 0, none⟩ = some (.int .i64 o)) (q1 : w.cell? ⟨b5, 1, none⟩ = some (.int .i64 t)) (q2 : w.cell? ⟨b5, 2, none⟩ = some (.slice A nl c)) (hh : CV w 40 #[.slice A1 n1 c1, .int .i64 sl] (.bool false)) (hi' : CV w 31 #[.int .i64 dy, .int .i64 lo, .int .i64 hi] (.bool false)) : OpOk Try.prog opsMy1 (wordsMy1 b5 b11 A A1 nl c n1 c1 o t la sl dy src mn lo hi sk) 46 a w 1 := by
  refine OpOk.gen rfl (fun a1 w1 H => ?_)
  have e3 : a1.eval (.tmp 3) = .int .i64 sl := (H.out 3 (by kernel_rfl)).trans t3
  refine gd_none ?_
  exact OpW.move e3 rfl
set_option maxRecDepth 10000 in
theorem okMy1_2 {b5 b11 : Nat} {A A1 : Option Addr} {nl c n1 c1 : Nat} {o t la sl dy src mn lo hi sk : Int} {a : Act} {w : World} (t1 : a.eval (.tmp 1) = .slice A1 n1 c1) (t2 : a.eval (.tmp 2) = .int .i64 la) (t3 : a.eval (.tmp 3) = .int .i64 sl) (t4 : a.eval (.tmp 4) = .int .i64 dy) (t5 : a.eval (.tmp 5) = .pointer (some ⟨b5, 0, none⟩)) (t11 : a.eval (.tmp 11) = .pointer (some ⟨b11, 0, none⟩)) (m0 : w.cell? ⟨b11, 0, none⟩ = some (.int .i64 src)) (m2 : w.cell? ⟨b11, 2, none⟩ = some (.int .i64 mn)) (m3 : w.cell? ⟨b11, 3, none⟩ = some (.int .i64 lo)) (m4 : w.cell? ⟨b11, 4, none⟩ = some (.int .i64 hi)) (q0 : w.cell? ⟨b5, 0, none⟩ = some (.int .i64 o)) (q1 : w.cell? ⟨b5, 1, none⟩ = some (.int .i64 t)) (q2 : w.cell? ⟨b5, 2, none⟩ = some (.slice A nl c)) (hh : CV w 40 #[.slice A1 n1 c1, .int .i64 sl] (.bool false)) (hi' : CV w 31 #[.int .i64 dy, .int .i64 lo, .int .i64 hi] (.bool false)) : OpOk Try.prog opsMy1 (wordsMy1 b5 b11 A A1 nl c n1 c1 o t la sl dy src mn lo hi sk) 46 a w 2 := by
  refine OpOk.gen rfl (fun a1 w1 H => ?_)
  have d0 : a1.eval (.tmp 17) = .slice A1 n1 c1 := H.dep 0 17 rfl (by kernel_rfl)
  have d1 : a1.eval (.tmp 18) = .int .i64 sl := H.dep 1 18 rfl (by kernel_rfl)
  refine gd_none ?_
  exact OpW.call (vs := #[.slice A1 n1 c1, .int .i64 sl]) (enters_of Try.func40 (by kernel_rfl) rfl) (by simp [d0, d1]) (hh w1 H.low)
set_option maxRecDepth 10000 in
theorem okMy1_3 {b5 b11 : Nat} {A A1 : Option Addr} {nl c n1 c1 : Nat} {o t la sl dy src mn lo hi sk : Int} {a : Act} {w : World} (t1 : a.eval (.tmp 1) = .slice A1 n1 c1) (t2 : a.eval (.tmp 2) = .int .i64 la) (t3 : a.eval (.tmp 3) = .int .i64 sl) (t4 : a.eval (.tmp 4) = .int .i64 dy) (t5 : a.eval (.tmp 5) = .pointer (some ⟨b5, 0, none⟩)) (t11 : a.eval (.tmp 11) = .pointer (some ⟨b11, 0, none⟩)) (m0 : w.cell? ⟨b11, 0, none⟩ = some (.int .i64 src)) (m2 : w.cell? ⟨b11, 2, none⟩ = some (.int .i64 mn)) (m3 : w.cell? ⟨b11, 3, none⟩ = some (.int .i64 lo)) (m4 : w.cell? ⟨b11, 4, none⟩ = some (.int .i64 hi)) (q0 : w.cell? ⟨b5, 0, none⟩ = some (.int .i64 o)) (q1 : w.cell? ⟨b5, 1, none⟩ = some (.int .i64 t)) (q2 : w.cell? ⟨b5, 2, none⟩ = some (.slice A nl c)) (hh : CV w 40 #[.slice A1 n1 c1, .int .i64 sl] (.bool false)) (hi' : CV w 31 #[.int .i64 dy, .int .i64 lo, .int .i64 hi] (.bool false)) : OpOk Try.prog opsMy1 (wordsMy1 b5 b11 A A1 nl c n1 c1 o t la sl dy src mn lo hi sk) 46 a w 3 := by
  refine OpOk.gen rfl (fun a1 w1 H => ?_)
  have d2 : a1.eval (.tmp 19) = .bool false := H.dep 2 19 rfl (by kernel_rfl)
  refine gd_none ?_
  exact OpW.un d2 (not4 _ _) rfl
set_option maxRecDepth 10000 in
theorem okMy1_4 {b5 b11 : Nat} {A A1 : Option Addr} {nl c n1 c1 : Nat} {o t la sl dy src mn lo hi sk : Int} {a : Act} {w : World} (t1 : a.eval (.tmp 1) = .slice A1 n1 c1) (t2 : a.eval (.tmp 2) = .int .i64 la) (t3 : a.eval (.tmp 3) = .int .i64 sl) (t4 : a.eval (.tmp 4) = .int .i64 dy) (t5 : a.eval (.tmp 5) = .pointer (some ⟨b5, 0, none⟩)) (t11 : a.eval (.tmp 11) = .pointer (some ⟨b11, 0, none⟩)) (m0 : w.cell? ⟨b11, 0, none⟩ = some (.int .i64 src)) (m2 : w.cell? ⟨b11, 2, none⟩ = some (.int .i64 mn)) (m3 : w.cell? ⟨b11, 3, none⟩ = some (.int .i64 lo)) (m4 : w.cell? ⟨b11, 4, none⟩ = some (.int .i64 hi)) (q0 : w.cell? ⟨b5, 0, none⟩ = some (.int .i64 o)) (q1 : w.cell? ⟨b5, 1, none⟩ = some (.int .i64 t)) (q2 : w.cell? ⟨b5, 2, none⟩ = some (.slice A nl c)) (hh : CV w 40 #[.slice A1 n1 c1, .int .i64 sl] (.bool false)) (hi' : CV w 31 #[.int .i64 dy, .int .i64 lo, .int .i64 hi] (.bool false)) : OpOk Try.prog opsMy1 (wordsMy1 b5 b11 A A1 nl c n1 c1 o t la sl dy src mn lo hi sk) 46 a w 4 := by
  refine OpOk.gen rfl (fun a1 w1 H => ?_)
  have d3 : a1.eval (.tmp 20) = .bool true := H.dep 3 20 rfl (by kernel_rfl)
  refine gd_none ?_
  exact OpW.move d3 rfl
set_option maxRecDepth 10000 in
theorem okMy1_5 {b5 b11 : Nat} {A A1 : Option Addr} {nl c n1 c1 : Nat} {o t la sl dy src mn lo hi sk : Int} {a : Act} {w : World} (t1 : a.eval (.tmp 1) = .slice A1 n1 c1) (t2 : a.eval (.tmp 2) = .int .i64 la) (t3 : a.eval (.tmp 3) = .int .i64 sl) (t4 : a.eval (.tmp 4) = .int .i64 dy) (t5 : a.eval (.tmp 5) = .pointer (some ⟨b5, 0, none⟩)) (t11 : a.eval (.tmp 11) = .pointer (some ⟨b11, 0, none⟩)) (m0 : w.cell? ⟨b11, 0, none⟩ = some (.int .i64 src)) (m2 : w.cell? ⟨b11, 2, none⟩ = some (.int .i64 mn)) (m3 : w.cell? ⟨b11, 3, none⟩ = some (.int .i64 lo)) (m4 : w.cell? ⟨b11, 4, none⟩ = some (.int .i64 hi)) (q0 : w.cell? ⟨b5, 0, none⟩ = some (.int .i64 o)) (q1 : w.cell? ⟨b5, 1, none⟩ = some (.int .i64 t)) (q2 : w.cell? ⟨b5, 2, none⟩ = some (.slice A nl c)) (hh : CV w 40 #[.slice A1 n1 c1, .int .i64 sl] (.bool false)) (hi' : CV w 31 #[.int .i64 dy, .int .i64 lo, .int .i64 hi] (.bool false)) : OpOk Try.prog opsMy1 (wordsMy1 b5 b11 A A1 nl c n1 c1 o t la sl dy src mn lo hi sk) 46 a w 5 := by
  refine OpOk.gen rfl (fun a1 w1 H => ?_)
  have d4 : a1.eval (.tmp 21) = .bool true := H.dep 4 21 rfl (by kernel_rfl)
  have e4 : a1.eval (.tmp 4) = .int .i64 dy := (H.out 4 (by kernel_rfl)).trans t4
  refine gd_true rfl d4 ?_
  exact OpW.move e4 rfl
set_option maxRecDepth 10000 in
theorem okMy1_6 {b5 b11 : Nat} {A A1 : Option Addr} {nl c n1 c1 : Nat} {o t la sl dy src mn lo hi sk : Int} {a : Act} {w : World} (t1 : a.eval (.tmp 1) = .slice A1 n1 c1) (t2 : a.eval (.tmp 2) = .int .i64 la) (t3 : a.eval (.tmp 3) = .int .i64 sl) (t4 : a.eval (.tmp 4) = .int .i64 dy) (t5 : a.eval (.tmp 5) = .pointer (some ⟨b5, 0, none⟩)) (t11 : a.eval (.tmp 11) = .pointer (some ⟨b11, 0, none⟩)) (m0 : w.cell? ⟨b11, 0, none⟩ = some (.int .i64 src)) (m2 : w.cell? ⟨b11, 2, none⟩ = some (.int .i64 mn)) (m3 : w.cell? ⟨b11, 3, none⟩ = some (.int .i64 lo)) (m4 : w.cell? ⟨b11, 4, none⟩ = some (.int .i64 hi)) (q0 : w.cell? ⟨b5, 0, none⟩ = some (.int .i64 o)) (q1 : w.cell? ⟨b5, 1, none⟩ = some (.int .i64 t)) (q2 : w.cell? ⟨b5, 2, none⟩ = some (.slice A nl c)) (hh : CV w 40 #[.slice A1 n1 c1, .int .i64 sl] (.bool false)) (hi' : CV w 31 #[.int .i64 dy, .int .i64 lo, .int .i64 hi] (.bool false)) : OpOk Try.prog opsMy1 (wordsMy1 b5 b11 A A1 nl c n1 c1 o t la sl dy src mn lo hi sk) 46 a w 6 := by
  refine OpOk.gen rfl (fun a1 w1 H => ?_)
  have d4 : a1.eval (.tmp 21) = .bool true := H.dep 4 21 rfl (by kernel_rfl)
  have e11 : a1.eval (.tmp 11) = .pointer (some ⟨b11, 0, none⟩) := (H.out 11 (by kernel_rfl)).trans t11
  refine gd_true rfl d4 ?_
  exact OpW.field e11 (fa73_3 _) rfl
set_option maxRecDepth 10000 in
theorem okMy1_7 {b5 b11 : Nat} {A A1 : Option Addr} {nl c n1 c1 : Nat} {o t la sl dy src mn lo hi sk : Int} {a : Act} {w : World} (t1 : a.eval (.tmp 1) = .slice A1 n1 c1) (t2 : a.eval (.tmp 2) = .int .i64 la) (t3 : a.eval (.tmp 3) = .int .i64 sl) (t4 : a.eval (.tmp 4) = .int .i64 dy) (t5 : a.eval (.tmp 5) = .pointer (some ⟨b5, 0, none⟩)) (t11 : a.eval (.tmp 11) = .pointer (some ⟨b11, 0, none⟩)) (m0 : w.cell? ⟨b11, 0, none⟩ = some (.int .i64 src)) (m2 : w.cell? ⟨b11, 2, none⟩ = some (.int .i64 mn)) (m3 : w.cell? ⟨b11, 3, none⟩ = some (.int .i64 lo)) (m4 : w.cell? ⟨b11, 4, none⟩ = some (.int .i64 hi)) (q0 : w.cell? ⟨b5, 0, none⟩ = some (.int .i64 o)) (q1 : w.cell? ⟨b5, 1, none⟩ = some (.int .i64 t)) (q2 : w.cell? ⟨b5, 2, none⟩ = some (.slice A nl c)) (hh : CV w 40 #[.slice A1 n1 c1, .int .i64 sl] (.bool false)) (hi' : CV w 31 #[.int .i64 dy, .int .i64 lo, .int .i64 hi] (.bool false)) : OpOk Try.prog opsMy1 (wordsMy1 b5 b11 A A1 nl c n1 c1 o t la sl dy src mn lo hi sk) 46 a w 7 := by
  refine OpOk.gen rfl (fun a1 w1 H => ?_)
  have d4 : a1.eval (.tmp 21) = .bool true := H.dep 4 21 rfl (by kernel_rfl)
  have d6 : a1.eval (.tmp 23) = .pointer (some ⟨b11, 3, none⟩) := H.dep 6 23 rfl (by kernel_rfl)
  refine gd_true rfl d4 ?_
  exact OpW.field d6 (fa71_0 _) rfl
set_option maxRecDepth 10000 in
theorem okMy1_8 {b5 b11 : Nat} {A A1 : Option Addr} {nl c n1 c1 : Nat} {o t la sl dy src mn lo hi sk : Int} {a : Act} {w : World} (t1 : a.eval (.tmp 1) = .slice A1 n1 c1) (t2 : a.eval (.tmp 2) = .int .i64 la) (t3 : a.eval (.tmp 3) = .int .i64 sl) (t4 : a.eval (.tmp 4) = .int .i64 dy) (t5 : a.eval (.tmp 5) = .pointer (some ⟨b5, 0, none⟩)) (t11 : a.eval (.tmp 11) = .pointer (some ⟨b11, 0, none⟩)) (m0 : w.cell? ⟨b11, 0, none⟩ = some (.int .i64 src)) (m2 : w.cell? ⟨b11, 2, none⟩ = some (.int .i64 mn)) (m3 : w.cell? ⟨b11, 3, none⟩ = some (.int .i64 lo)) (m4 : w.cell? ⟨b11, 4, none⟩ = some (.int .i64 hi)) (q0 : w.cell? ⟨b5, 0, none⟩ = some (.int .i64 o)) (q1 : w.cell? ⟨b5, 1, none⟩ = some (.int .i64 t)) (q2 : w.cell? ⟨b5, 2, none⟩ = some (.slice A nl c)) (hh : CV w 40 #[.slice A1 n1 c1, .int .i64 sl] (.bool false)) (hi' : CV w 31 #[.int .i64 dy, .int .i64 lo, .int .i64 hi] (.bool false)) : OpOk Try.prog opsMy1 (wordsMy1 b5 b11 A A1 nl c n1 c1 o t la sl dy src mn lo hi sk) 46 a w 8 := by
  refine OpOk.gen rfl (fun a1 w1 H => ?_)
  have d4 : a1.eval (.tmp 21) = .bool true := H.dep 4 21 rfl (by kernel_rfl)
  have d7 : a1.eval (.tmp 24) = .pointer (some ⟨b11, 3, none⟩) := H.dep 7 24 rfl (by kernel_rfl)
  refine gd_true rfl d4 ?_
  exact OpW.load d7 (ld3 (H.cell m3)) rfl
set_option maxRecDepth 10000 in
theorem okMy1_9 {b5 b11 : Nat} {A A1 : Option Addr} {nl c n1 c1 : Nat} {o t la sl dy src mn lo hi sk : Int} {a : Act} {w : World} (t1 : a.eval (.tmp 1) = .slice A1 n1 c1) (t2 : a.eval (.tmp 2) = .int .i64 la) (t3 : a.eval (.tmp 3) = .int .i64 sl) (t4 : a.eval (.tmp 4) = .int .i64 dy) (t5 : a.eval (.tmp 5) = .pointer (some ⟨b5, 0, none⟩)) (t11 : a.eval (.tmp 11) = .pointer (some ⟨b11, 0, none⟩)) (m0 : w.cell? ⟨b11, 0, none⟩ = some (.int .i64 src)) (m2 : w.cell? ⟨b11, 2, none⟩ = some (.int .i64 mn)) (m3 : w.cell? ⟨b11, 3, none⟩ = some (.int .i64 lo)) (m4 : w.cell? ⟨b11, 4, none⟩ = some (.int .i64 hi)) (q0 : w.cell? ⟨b5, 0, none⟩ = some (.int .i64 o)) (q1 : w.cell? ⟨b5, 1, none⟩ = some (.int .i64 t)) (q2 : w.cell? ⟨b5, 2, none⟩ = some (.slice A nl c)) (hh : CV w 40 #[.slice A1 n1 c1, .int .i64 sl] (.bool false)) (hi' : CV w 31 #[.int .i64 dy, .int .i64 lo, .int .i64 hi] (.bool false)) : OpOk Try.prog opsMy1 (wordsMy1 b5 b11 A A1 nl c n1 c1 o t la sl dy src mn lo hi sk) 46 a w 9 := by
  refine OpOk.gen rfl (fun a1 w1 H => ?_)
  have d4 : a1.eval (.tmp 21) = .bool true := H.dep 4 21 rfl (by kernel_rfl)
  have e11 : a1.eval (.tmp 11) = .pointer (some ⟨b11, 0, none⟩) := (H.out 11 (by kernel_rfl)).trans t11
  refine gd_true rfl d4 ?_
  exact OpW.field e11 (fa73_3 _) rfl
set_option maxRecDepth 10000 in
theorem okMy1_10 {b5 b11 : Nat} {A A1 : Option Addr} {nl c n1 c1 : Nat} {o t la sl dy src mn lo hi sk : Int} {a : Act} {w : World} (t1 : a.eval (.tmp 1) = .slice A1 n1 c1) (t2 : a.eval (.tmp 2) = .int .i64 la) (t3 : a.eval (.tmp 3) = .int .i64 sl) (t4 : a.eval (.tmp 4) = .int .i64 dy) (t5 : a.eval (.tmp 5) = .pointer (some ⟨b5, 0, none⟩)) (t11 : a.eval (.tmp 11) = .pointer (some ⟨b11, 0, none⟩)) (m0 : w.cell? ⟨b11, 0, none⟩ = some (.int .i64 src)) (m2 : w.cell? ⟨b11, 2, none⟩ = some (.int .i64 mn)) (m3 : w.cell? ⟨b11, 3, none⟩ = some (.int .i64 lo)) (m4 : w.cell? ⟨b11, 4, none⟩ = some (.int .i64 hi)) (q0 : w.cell? ⟨b5, 0, none⟩ = some (.int .i64 o)) (q1 : w.cell? ⟨b5, 1, none⟩ = some (.int .i64 t)) (q2 : w.cell? ⟨b5, 2, none⟩ = some (.slice A nl c)) (hh : CV w 40 #[.slice A1 n1 c1, .int .i64 sl] (.bool false)) (hi' : CV w 31 #[.int .i64 dy, .int .i64 lo, .int .i64 hi] (.bool false)) : OpOk Try.prog opsMy1 (wordsMy1 b5 b11 A A1 nl c n1 c1 o t la sl dy src mn lo hi sk) 46 a w 10 := by
  refine OpOk.gen rfl (fun a1 w1 H => ?_)
  have d4 : a1.eval (.tmp 21) = .bool true := H.dep 4 21 rfl (by kernel_rfl)
  have d9 : a1.eval (.tmp 26) = .pointer (some ⟨b11, 3, none⟩) := H.dep 9 26 rfl (by kernel_rfl)
  refine gd_true rfl d4 ?_
  exact OpW.field d9 (fa71_1 _) rfl
set_option maxRecDepth 10000 in
theorem okMy1_11 {b5 b11 : Nat} {A A1 : Option Addr} {nl c n1 c1 : Nat} {o t la sl dy src mn lo hi sk : Int} {a : Act} {w : World} (t1 : a.eval (.tmp 1) = .slice A1 n1 c1) (t2 : a.eval (.tmp 2) = .int .i64 la) (t3 : a.eval (.tmp 3) = .int .i64 sl) (t4 : a.eval (.tmp 4) = .int .i64 dy) (t5 : a.eval (.tmp 5) = .pointer (some ⟨b5, 0, none⟩)) (t11 : a.eval (.tmp 11) = .pointer (some ⟨b11, 0, none⟩)) (m0 : w.cell? ⟨b11, 0, none⟩ = some (.int .i64 src)) (m2 : w.cell? ⟨b11, 2, none⟩ = some (.int .i64 mn)) (m3 : w.cell? ⟨b11, 3, none⟩ = some (.int .i64 lo)) (m4 : w.cell? ⟨b11, 4, none⟩ = some (.int .i64 hi)) (q0 : w.cell? ⟨b5, 0, none⟩ = some (.int .i64 o)) (q1 : w.cell? ⟨b5, 1, none⟩ = some (.int .i64 t)) (q2 : w.cell? ⟨b5, 2, none⟩ = some (.slice A nl c)) (hh : CV w 40 #[.slice A1 n1 c1, .int .i64 sl] (.bool false)) (hi' : CV w 31 #[.int .i64 dy, .int .i64 lo, .int .i64 hi] (.bool false)) : OpOk Try.prog opsMy1 (wordsMy1 b5 b11 A A1 nl c n1 c1 o t la sl dy src mn lo hi sk) 46 a w 11 := by
  refine OpOk.gen rfl (fun a1 w1 H => ?_)
  have d4 : a1.eval (.tmp 21) = .bool true := H.dep 4 21 rfl (by kernel_rfl)
  have d10 : a1.eval (.tmp 27) = .pointer (some ⟨b11, 4, none⟩) := H.dep 10 27 rfl (by kernel_rfl)
  refine gd_true rfl d4 ?_
  exact OpW.load d10 (ld3 (H.cell m4)) rfl
set_option maxRecDepth 10000 in
theorem okMy1_12 {b5 b11 : Nat} {A A1 : Option Addr} {nl c n1 c1 : Nat} {o t la sl dy src mn lo hi sk : Int} {a : Act} {w : World} (t1 : a.eval (.tmp 1) = .slice A1 n1 c1) (t2 : a.eval (.tmp 2) = .int .i64 la) (t3 : a.eval (.tmp 3) = .int .i64 sl) (t4 : a.eval (.tmp 4) = .int .i64 dy) (t5 : a.eval (.tmp 5) = .pointer (some ⟨b5, 0, none⟩)) (t11 : a.eval (.tmp 11) = .pointer (some ⟨b11, 0, none⟩)) (m0 : w.cell? ⟨b11, 0, none⟩ = some (.int .i64 src)) (m2 : w.cell? ⟨b11, 2, none⟩ = some (.int .i64 mn)) (m3 : w.cell? ⟨b11, 3, none⟩ = some (.int .i64 lo)) (m4 : w.cell? ⟨b11, 4, none⟩ = some (.int .i64 hi)) (q0 : w.cell? ⟨b5, 0, none⟩ = some (.int .i64 o)) (q1 : w.cell? ⟨b5, 1, none⟩ = some (.int .i64 t)) (q2 : w.cell? ⟨b5, 2, none⟩ = some (.slice A nl c)) (hh : CV w 40 #[.slice A1 n1 c1, .int .i64 sl] (.bool false)) (hi' : CV w 31 #[.int .i64 dy, .int .i64 lo, .int .i64 hi] (.bool false)) : OpOk Try.prog opsMy1 (wordsMy1 b5 b11 A A1 nl c n1 c1 o t la sl dy src mn lo hi sk) 46 a w 12 := by
  refine OpOk.gen rfl (fun a1 w1 H => ?_)
  have d4 : a1.eval (.tmp 21) = .bool true := H.dep 4 21 rfl (by kernel_rfl)
  have d5 : a1.eval (.tmp 22) = .int .i64 dy := H.dep 5 22 rfl (by kernel_rfl)
  have d8 : a1.eval (.tmp 25) = .int .i64 lo := H.dep 8 25 rfl (by kernel_rfl)
  have d11 : a1.eval (.tmp 28) = .int .i64 hi := H.dep 11 28 rfl (by kernel_rfl)
  refine gd_true rfl d4 ?_
  exact OpW.call (vs := #[.int .i64 dy, .int .i64 lo, .int .i64 hi]) (enters_of Try.func31 (by kernel_rfl) rfl) (by simp [d5, d8, d11]) (hi' w1 H.low)
set_option maxRecDepth 10000 in
theorem okMy1_13 {b5 b11 : Nat} {A A1 : Option Addr} {nl c n1 c1 : Nat} {o t la sl dy src mn lo hi sk : Int} {a : Act} {w : World} (t1 : a.eval (.tmp 1) = .slice A1 n1 c1) (t2 : a.eval (.tmp 2) = .int .i64 la) (t3 : a.eval (.tmp 3) = .int .i64 sl) (t4 : a.eval (.tmp 4) = .int .i64 dy) (t5 : a.eval (.tmp 5) = .pointer (some ⟨b5, 0, none⟩)) (t11 : a.eval (.tmp 11) = .pointer (some ⟨b11, 0, none⟩)) (m0 : w.cell? ⟨b11, 0, none⟩ = some (.int .i64 src)) (m2 : w.cell? ⟨b11, 2, none⟩ = some (.int .i64 mn)) (m3 : w.cell? ⟨b11, 3, none⟩ = some (.int .i64 lo)) (m4 : w.cell? ⟨b11, 4, none⟩ = some (.int .i64 hi)) (q0 : w.cell? ⟨b5, 0, none⟩ = some (.int .i64 o)) (q1 : w.cell? ⟨b5, 1, none⟩ = some (.int .i64 t)) (q2 : w.cell? ⟨b5, 2, none⟩ = some (.slice A nl c)) (hh : CV w 40 #[.slice A1 n1 c1, .int .i64 sl] (.bool false)) (hi' : CV w 31 #[.int .i64 dy, .int .i64 lo, .int .i64 hi] (.bool false)) : OpOk Try.prog opsMy1 (wordsMy1 b5 b11 A A1 nl c n1 c1 o t la sl dy src mn lo hi sk) 46 a w 13 := by
  refine OpOk.gen rfl (fun a1 w1 H => ?_)
  have d4 : a1.eval (.tmp 21) = .bool true := H.dep 4 21 rfl (by kernel_rfl)
  have d12 : a1.eval (.tmp 29) = .bool false := H.dep 12 29 rfl (by kernel_rfl)
  refine gd_none ?_
  exact OpW.pick (b := true) d4 d12
set_option maxRecDepth 10000 in
theorem okMy1_14 {b5 b11 : Nat} {A A1 : Option Addr} {nl c n1 c1 : Nat} {o t la sl dy src mn lo hi sk : Int} {a : Act} {w : World} (t1 : a.eval (.tmp 1) = .slice A1 n1 c1) (t2 : a.eval (.tmp 2) = .int .i64 la) (t3 : a.eval (.tmp 3) = .int .i64 sl) (t4 : a.eval (.tmp 4) = .int .i64 dy) (t5 : a.eval (.tmp 5) = .pointer (some ⟨b5, 0, none⟩)) (t11 : a.eval (.tmp 11) = .pointer (some ⟨b11, 0, none⟩)) (m0 : w.cell? ⟨b11, 0, none⟩ = some (.int .i64 src)) (m2 : w.cell? ⟨b11, 2, none⟩ = some (.int .i64 mn)) (m3 : w.cell? ⟨b11, 3, none⟩ = some (.int .i64 lo)) (m4 : w.cell? ⟨b11, 4, none⟩ = some (.int .i64 hi)) (q0 : w.cell? ⟨b5, 0, none⟩ = some (.int .i64 o)) (q1 : w.cell? ⟨b5, 1, none⟩ = some (.int .i64 t)) (q2 : w.cell? ⟨b5, 2, none⟩ = some (.slice A nl c)) (hh : CV w 40 #[.slice A1 n1 c1, .int .i64 sl] (.bool false)) (hi' : CV w 31 #[.int .i64 dy, .int .i64 lo, .int .i64 hi] (.bool false)) : OpOk Try.prog opsMy1 (wordsMy1 b5 b11 A A1 nl c n1 c1 o t la sl dy src mn lo hi sk) 46 a w 14 := by
  refine OpOk.gen rfl (fun a1 w1 H => ?_)
  have d13 : a1.eval (.tmp 30) = .bool false := H.dep 13 30 rfl (by kernel_rfl)
  refine gd_none ?_
  exact OpW.move d13 rfl
set_option maxRecDepth 10000 in
theorem okMy1_15 {b5 b11 : Nat} {A A1 : Option Addr} {nl c n1 c1 : Nat} {o t la sl dy src mn lo hi sk : Int} {a : Act} {w : World} (t1 : a.eval (.tmp 1) = .slice A1 n1 c1) (t2 : a.eval (.tmp 2) = .int .i64 la) (t3 : a.eval (.tmp 3) = .int .i64 sl) (t4 : a.eval (.tmp 4) = .int .i64 dy) (t5 : a.eval (.tmp 5) = .pointer (some ⟨b5, 0, none⟩)) (t11 : a.eval (.tmp 11) = .pointer (some ⟨b11, 0, none⟩)) (m0 : w.cell? ⟨b11, 0, none⟩ = some (.int .i64 src)) (m2 : w.cell? ⟨b11, 2, none⟩ = some (.int .i64 mn)) (m3 : w.cell? ⟨b11, 3, none⟩ = some (.int .i64 lo)) (m4 : w.cell? ⟨b11, 4, none⟩ = some (.int .i64 hi)) (q0 : w.cell? ⟨b5, 0, none⟩ = some (.int .i64 o)) (q1 : w.cell? ⟨b5, 1, none⟩ = some (.int .i64 t)) (q2 : w.cell? ⟨b5, 2, none⟩ = some (.slice A nl c)) (hh : CV w 40 #[.slice A1 n1 c1, .int .i64 sl] (.bool false)) (hi' : CV w 31 #[.int .i64 dy, .int .i64 lo, .int .i64 hi] (.bool false)) : OpOk Try.prog opsMy1 (wordsMy1 b5 b11 A A1 nl c n1 c1 o t la sl dy src mn lo hi sk) 46 a w 15 := by
  refine OpOk.gen rfl (fun a1 w1 H => ?_)
  have d14 : a1.eval (.tmp 31) = .bool false := H.dep 14 31 rfl (by kernel_rfl)
  refine gd_false rfl d14 (by decide) ?_
  trivial
set_option maxRecDepth 10000 in
theorem okMy1_16 {b5 b11 : Nat} {A A1 : Option Addr} {nl c n1 c1 : Nat} {o t la sl dy src mn lo hi sk : Int} {a : Act} {w : World} (t1 : a.eval (.tmp 1) = .slice A1 n1 c1) (t2 : a.eval (.tmp 2) = .int .i64 la) (t3 : a.eval (.tmp 3) = .int .i64 sl) (t4 : a.eval (.tmp 4) = .int .i64 dy) (t5 : a.eval (.tmp 5) = .pointer (some ⟨b5, 0, none⟩)) (t11 : a.eval (.tmp 11) = .pointer (some ⟨b11, 0, none⟩)) (m0 : w.cell? ⟨b11, 0, none⟩ = some (.int .i64 src)) (m2 : w.cell? ⟨b11, 2, none⟩ = some (.int .i64 mn)) (m3 : w.cell? ⟨b11, 3, none⟩ = some (.int .i64 lo)) (m4 : w.cell? ⟨b11, 4, none⟩ = some (.int .i64 hi)) (q0 : w.cell? ⟨b5, 0, none⟩ = some (.int .i64 o)) (q1 : w.cell? ⟨b5, 1, none⟩ = some (.int .i64 t)) (q2 : w.cell? ⟨b5, 2, none⟩ = some (.slice A nl c)) (hh : CV w 40 #[.slice A1 n1 c1, .int .i64 sl] (.bool false)) (hi' : CV w 31 #[.int .i64 dy, .int .i64 lo, .int .i64 hi] (.bool false)) : OpOk Try.prog opsMy1 (wordsMy1 b5 b11 A A1 nl c n1 c1 o t la sl dy src mn lo hi sk) 46 a w 16 := by
  refine OpOk.gen rfl (fun a1 w1 H => ?_)
  have d14 : a1.eval (.tmp 31) = .bool false := H.dep 14 31 rfl (by kernel_rfl)
  refine gd_false rfl d14 (by decide) ?_
  trivial
set_option maxRecDepth 10000 in
theorem okMy1_17 {b5 b11 : Nat} {A A1 : Option Addr} {nl c n1 c1 : Nat} {o t la sl dy src mn lo hi sk : Int} {a : Act} {w : World} (t1 : a.eval (.tmp 1) = .slice A1 n1 c1) (t2 : a.eval (.tmp 2) = .int .i64 la) (t3 : a.eval (.tmp 3) = .int .i64 sl) (t4 : a.eval (.tmp 4) = .int .i64 dy) (t5 : a.eval (.tmp 5) = .pointer (some ⟨b5, 0, none⟩)) (t11 : a.eval (.tmp 11) = .pointer (some ⟨b11, 0, none⟩)) (m0 : w.cell? ⟨b11, 0, none⟩ = some (.int .i64 src)) (m2 : w.cell? ⟨b11, 2, none⟩ = some (.int .i64 mn)) (m3 : w.cell? ⟨b11, 3, none⟩ = some (.int .i64 lo)) (m4 : w.cell? ⟨b11, 4, none⟩ = some (.int .i64 hi)) (q0 : w.cell? ⟨b5, 0, none⟩ = some (.int .i64 o)) (q1 : w.cell? ⟨b5, 1, none⟩ = some (.int .i64 t)) (q2 : w.cell? ⟨b5, 2, none⟩ = some (.slice A nl c)) (hh : CV w 40 #[.slice A1 n1 c1, .int .i64 sl] (.bool false)) (hi' : CV w 31 #[.int .i64 dy, .int .i64 lo, .int .i64 hi] (.bool false)) : OpOk Try.prog opsMy1 (wordsMy1 b5 b11 A A1 nl c n1 c1 o t la sl dy src mn lo hi sk) 46 a w 17 := by
  refine OpOk.gen rfl (fun a1 w1 H => ?_)
  have d14 : a1.eval (.tmp 31) = .bool false := H.dep 14 31 rfl (by kernel_rfl)
  refine gd_false rfl d14 (by decide) ?_
  trivial
set_option maxRecDepth 10000 in
theorem okMy1_18 {b5 b11 : Nat} {A A1 : Option Addr} {nl c n1 c1 : Nat} {o t la sl dy src mn lo hi sk : Int} {a : Act} {w : World} (t1 : a.eval (.tmp 1) = .slice A1 n1 c1) (t2 : a.eval (.tmp 2) = .int .i64 la) (t3 : a.eval (.tmp 3) = .int .i64 sl) (t4 : a.eval (.tmp 4) = .int .i64 dy) (t5 : a.eval (.tmp 5) = .pointer (some ⟨b5, 0, none⟩)) (t11 : a.eval (.tmp 11) = .pointer (some ⟨b11, 0, none⟩)) (m0 : w.cell? ⟨b11, 0, none⟩ = some (.int .i64 src)) (m2 : w.cell? ⟨b11, 2, none⟩ = some (.int .i64 mn)) (m3 : w.cell? ⟨b11, 3, none⟩ = some (.int .i64 lo)) (m4 : w.cell? ⟨b11, 4, none⟩ = some (.int .i64 hi)) (q0 : w.cell? ⟨b5, 0, none⟩ = some (.int .i64 o)) (q1 : w.cell? ⟨b5, 1, none⟩ = some (.int .i64 t)) (q2 : w.cell? ⟨b5, 2, none⟩ = some (.slice A nl c)) (hh : CV w 40 #[.slice A1 n1 c1, .int .i64 sl] (.bool false)) (hi' : CV w 31 #[.int .i64 dy, .int .i64 lo, .int .i64 hi] (.bool false)) : OpOk Try.prog opsMy1 (wordsMy1 b5 b11 A A1 nl c n1 c1 o t la sl dy src mn lo hi sk) 46 a w 18 := by
  refine OpOk.gen rfl (fun a1 w1 H => ?_)
  have d14 : a1.eval (.tmp 31) = .bool false := H.dep 14 31 rfl (by kernel_rfl)
  refine gd_none ?_
  exact OpW.pick (b := false) d14 rfl
set_option maxRecDepth 10000 in
theorem okMy1_19 {b5 b11 : Nat} {A A1 : Option Addr} {nl c n1 c1 : Nat} {o t la sl dy src mn lo hi sk : Int} {a : Act} {w : World} (t1 : a.eval (.tmp 1) = .slice A1 n1 c1) (t2 : a.eval (.tmp 2) = .int .i64 la) (t3 : a.eval (.tmp 3) = .int .i64 sl) (t4 : a.eval (.tmp 4) = .int .i64 dy) (t5 : a.eval (.tmp 5) = .pointer (some ⟨b5, 0, none⟩)) (t11 : a.eval (.tmp 11) = .pointer (some ⟨b11, 0, none⟩)) (m0 : w.cell? ⟨b11, 0, none⟩ = some (.int .i64 src)) (m2 : w.cell? ⟨b11, 2, none⟩ = some (.int .i64 mn)) (m3 : w.cell? ⟨b11, 3, none⟩ = some (.int .i64 lo)) (m4 : w.cell? ⟨b11, 4, none⟩ = some (.int .i64 hi)) (q0 : w.cell? ⟨b5, 0, none⟩ = some (.int .i64 o)) (q1 : w.cell? ⟨b5, 1, none⟩ = some (.int .i64 t)) (q2 : w.cell? ⟨b5, 2, none⟩ = some (.slice A nl c)) (hh : CV w 40 #[.slice A1 n1 c1, .int .i64 sl] (.bool false)) (hi' : CV w 31 #[.int .i64 dy, .int .i64 lo, .int .i64 hi] (.bool false)) : OpOk Try.prog opsMy1 (wordsMy1 b5 b11 A A1 nl c n1 c1 o t la sl dy src mn lo hi sk) 46 a w 19 := by
  refine OpOk.gen rfl (fun a1 w1 H => ?_)
  have d18 : a1.eval (.tmp 35) = .bool false := H.dep 18 35 rfl (by kernel_rfl)
  refine gd_none ?_
  exact OpW.move d18 rfl
set_option maxRecDepth 10000 in
theorem okMy1_20 {b5 b11 : Nat} {A A1 : Option Addr} {nl c n1 c1 : Nat} {o t la sl dy src mn lo hi sk : Int} {a : Act} {w : World} (t1 : a.eval (.tmp 1) = .slice A1 n1 c1) (t2 : a.eval (.tmp 2) = .int .i64 la) (t3 : a.eval (.tmp 3) = .int .i64 sl) (t4 : a.eval (.tmp 4) = .int .i64 dy) (t5 : a.eval (.tmp 5) = .pointer (some ⟨b5, 0, none⟩)) (t11 : a.eval (.tmp 11) = .pointer (some ⟨b11, 0, none⟩)) (m0 : w.cell? ⟨b11, 0, none⟩ = some (.int .i64 src)) (m2 : w.cell? ⟨b11, 2, none⟩ = some (.int .i64 mn)) (m3 : w.cell? ⟨b11, 3, none⟩ = some (.int .i64 lo)) (m4 : w.cell? ⟨b11, 4, none⟩ = some (.int .i64 hi)) (q0 : w.cell? ⟨b5, 0, none⟩ = some (.int .i64 o)) (q1 : w.cell? ⟨b5, 1, none⟩ = some (.int .i64 t)) (q2 : w.cell? ⟨b5, 2, none⟩ = some (.slice A nl c)) (hh : CV w 40 #[.slice A1 n1 c1, .int .i64 sl] (.bool false)) (hi' : CV w 31 #[.int .i64 dy, .int .i64 lo, .int .i64 hi] (.bool false)) : OpOk Try.prog opsMy1 (wordsMy1 b5 b11 A A1 nl c n1 c1 o t la sl dy src mn lo hi sk) 46 a w 20 := by
  refine OpOk.gen rfl (fun a1 w1 H => ?_)
  have d19 : a1.eval (.tmp 36) = .bool false := H.dep 19 36 rfl (by kernel_rfl)
  refine gd_false rfl d19 (by decide) ?_
  trivial
set_option maxRecDepth 10000 in
theorem okMy1_21 {b5 b11 : Nat} {A A1 : Option Addr} {nl c n1 c1 : Nat} {o t la sl dy src mn lo hi sk : Int} {a : Act} {w : World} (t1 : a.eval (.tmp 1) = .slice A1 n1 c1) (t2 : a.eval (.tmp 2) = .int .i64 la) (t3 : a.eval (.tmp 3) = .int .i64 sl) (t4 : a.eval (.tmp 4) = .int .i64 dy) (t5 : a.eval (.tmp 5) = .pointer (some ⟨b5, 0, none⟩)) (t11 : a.eval (.tmp 11) = .pointer (some ⟨b11, 0, none⟩)) (m0 : w.cell? ⟨b11, 0, none⟩ = some (.int .i64 src)) (m2 : w.cell? ⟨b11, 2, none⟩ = some (.int .i64 mn)) (m3 : w.cell? ⟨b11, 3, none⟩ = some (.int .i64 lo)) (m4 : w.cell? ⟨b11, 4, none⟩ = some (.int .i64 hi)) (q0 : w.cell? ⟨b5, 0, none⟩ = some (.int .i64 o)) (q1 : w.cell? ⟨b5, 1, none⟩ = some (.int .i64 t)) (q2 : w.cell? ⟨b5, 2, none⟩ = some (.slice A nl c)) (hh : CV w 40 #[.slice A1 n1 c1, .int .i64 sl] (.bool false)) (hi' : CV w 31 #[.int .i64 dy, .int .i64 lo, .int .i64 hi] (.bool false)) : OpOk Try.prog opsMy1 (wordsMy1 b5 b11 A A1 nl c n1 c1 o t la sl dy src mn lo hi sk) 46 a w 21 := by
  refine OpOk.gen rfl (fun a1 w1 H => ?_)
  have d19 : a1.eval (.tmp 36) = .bool false := H.dep 19 36 rfl (by kernel_rfl)
  refine gd_false rfl d19 (by decide) ?_
  trivial
set_option maxRecDepth 10000 in
theorem okMy1_22 {b5 b11 : Nat} {A A1 : Option Addr} {nl c n1 c1 : Nat} {o t la sl dy src mn lo hi sk : Int} {a : Act} {w : World} (t1 : a.eval (.tmp 1) = .slice A1 n1 c1) (t2 : a.eval (.tmp 2) = .int .i64 la) (t3 : a.eval (.tmp 3) = .int .i64 sl) (t4 : a.eval (.tmp 4) = .int .i64 dy) (t5 : a.eval (.tmp 5) = .pointer (some ⟨b5, 0, none⟩)) (t11 : a.eval (.tmp 11) = .pointer (some ⟨b11, 0, none⟩)) (m0 : w.cell? ⟨b11, 0, none⟩ = some (.int .i64 src)) (m2 : w.cell? ⟨b11, 2, none⟩ = some (.int .i64 mn)) (m3 : w.cell? ⟨b11, 3, none⟩ = some (.int .i64 lo)) (m4 : w.cell? ⟨b11, 4, none⟩ = some (.int .i64 hi)) (q0 : w.cell? ⟨b5, 0, none⟩ = some (.int .i64 o)) (q1 : w.cell? ⟨b5, 1, none⟩ = some (.int .i64 t)) (q2 : w.cell? ⟨b5, 2, none⟩ = some (.slice A nl c)) (hh : CV w 40 #[.slice A1 n1 c1, .int .i64 sl] (.bool false)) (hi' : CV w 31 #[.int .i64 dy, .int .i64 lo, .int .i64 hi] (.bool false)) : OpOk Try.prog opsMy1 (wordsMy1 b5 b11 A A1 nl c n1 c1 o t la sl dy src mn lo hi sk) 46 a w 22 := by
  refine OpOk.gen rfl (fun a1 w1 H => ?_)
  have d19 : a1.eval (.tmp 36) = .bool false := H.dep 19 36 rfl (by kernel_rfl)
  refine gd_false rfl d19 (by decide) ?_
  trivial
set_option maxRecDepth 10000 in
theorem okMy1_23 {b5 b11 : Nat} {A A1 : Option Addr} {nl c n1 c1 : Nat} {o t la sl dy src mn lo hi sk : Int} {a : Act} {w : World} (t1 : a.eval (.tmp 1) = .slice A1 n1 c1) (t2 : a.eval (.tmp 2) = .int .i64 la) (t3 : a.eval (.tmp 3) = .int .i64 sl) (t4 : a.eval (.tmp 4) = .int .i64 dy) (t5 : a.eval (.tmp 5) = .pointer (some ⟨b5, 0, none⟩)) (t11 : a.eval (.tmp 11) = .pointer (some ⟨b11, 0, none⟩)) (m0 : w.cell? ⟨b11, 0, none⟩ = some (.int .i64 src)) (m2 : w.cell? ⟨b11, 2, none⟩ = some (.int .i64 mn)) (m3 : w.cell? ⟨b11, 3, none⟩ = some (.int .i64 lo)) (m4 : w.cell? ⟨b11, 4, none⟩ = some (.int .i64 hi)) (q0 : w.cell? ⟨b5, 0, none⟩ = some (.int .i64 o)) (q1 : w.cell? ⟨b5, 1, none⟩ = some (.int .i64 t)) (q2 : w.cell? ⟨b5, 2, none⟩ = some (.slice A nl c)) (hh : CV w 40 #[.slice A1 n1 c1, .int .i64 sl] (.bool false)) (hi' : CV w 31 #[.int .i64 dy, .int .i64 lo, .int .i64 hi] (.bool false)) : OpOk Try.prog opsMy1 (wordsMy1 b5 b11 A A1 nl c n1 c1 o t la sl dy src mn lo hi sk) 46 a w 23 := by
  refine OpOk.gen rfl (fun a1 w1 H => ?_)
  have d19 : a1.eval (.tmp 36) = .bool false := H.dep 19 36 rfl (by kernel_rfl)
  refine gd_false rfl d19 (by decide) ?_
  trivial
set_option maxRecDepth 10000 in
theorem okMy1_24 {b5 b11 : Nat} {A A1 : Option Addr} {nl c n1 c1 : Nat} {o t la sl dy src mn lo hi sk : Int} {a : Act} {w : World} (t1 : a.eval (.tmp 1) = .slice A1 n1 c1) (t2 : a.eval (.tmp 2) = .int .i64 la) (t3 : a.eval (.tmp 3) = .int .i64 sl) (t4 : a.eval (.tmp 4) = .int .i64 dy) (t5 : a.eval (.tmp 5) = .pointer (some ⟨b5, 0, none⟩)) (t11 : a.eval (.tmp 11) = .pointer (some ⟨b11, 0, none⟩)) (m0 : w.cell? ⟨b11, 0, none⟩ = some (.int .i64 src)) (m2 : w.cell? ⟨b11, 2, none⟩ = some (.int .i64 mn)) (m3 : w.cell? ⟨b11, 3, none⟩ = some (.int .i64 lo)) (m4 : w.cell? ⟨b11, 4, none⟩ = some (.int .i64 hi)) (q0 : w.cell? ⟨b5, 0, none⟩ = some (.int .i64 o)) (q1 : w.cell? ⟨b5, 1, none⟩ = some (.int .i64 t)) (q2 : w.cell? ⟨b5, 2, none⟩ = some (.slice A nl c)) (hh : CV w 40 #[.slice A1 n1 c1, .int .i64 sl] (.bool false)) (hi' : CV w 31 #[.int .i64 dy, .int .i64 lo, .int .i64 hi] (.bool false)) : OpOk Try.prog opsMy1 (wordsMy1 b5 b11 A A1 nl c n1 c1 o t la sl dy src mn lo hi sk) 46 a w 24 := by
  refine OpOk.gen rfl (fun a1 w1 H => ?_)
  have d19 : a1.eval (.tmp 36) = .bool false := H.dep 19 36 rfl (by kernel_rfl)
  refine gd_false rfl d19 (by decide) ?_
  trivial
set_option maxRecDepth 10000 in
theorem okMy1_25 {b5 b11 : Nat} {A A1 : Option Addr} {nl c n1 c1 : Nat} {o t la sl dy src mn lo hi sk : Int} {a : Act} {w : World} (t1 : a.eval (.tmp 1) = .slice A1 n1 c1) (t2 : a.eval (.tmp 2) = .int .i64 la) (t3 : a.eval (.tmp 3) = .int .i64 sl) (t4 : a.eval (.tmp 4) = .int .i64 dy) (t5 : a.eval (.tmp 5) = .pointer (some ⟨b5, 0, none⟩)) (t11 : a.eval (.tmp 11) = .pointer (some ⟨b11, 0, none⟩)) (m0 : w.cell? ⟨b11, 0, none⟩ = some (.int .i64 src)) (m2 : w.cell? ⟨b11, 2, none⟩ = some (.int .i64 mn)) (m3 : w.cell? ⟨b11, 3, none⟩ = some (.int .i64 lo)) (m4 : w.cell? ⟨b11, 4, none⟩ = some (.int .i64 hi)) (q0 : w.cell? ⟨b5, 0, none⟩ = some (.int .i64 o)) (q1 : w.cell? ⟨b5, 1, none⟩ = some (.int .i64 t)) (q2 : w.cell? ⟨b5, 2, none⟩ = some (.slice A nl c)) (hh : CV w 40 #[.slice A1 n1 c1, .int .i64 sl] (.bool false)) (hi' : CV w 31 #[.int .i64 dy, .int .i64 lo, .int .i64 hi] (.bool false)) : OpOk Try.prog opsMy1 (wordsMy1 b5 b11 A A1 nl c n1 c1 o t la sl dy src mn lo hi sk) 46 a w 25 := by
  refine OpOk.gen rfl (fun a1 w1 H => ?_)
  have d19 : a1.eval (.tmp 36) = .bool false := H.dep 19 36 rfl (by kernel_rfl)
  refine gd_false rfl d19 (by decide) ?_
  trivial
set_option maxRecDepth 10000 in
theorem okMy1_26 {b5 b11 : Nat} {A A1 : Option Addr} {nl c n1 c1 : Nat} {o t la sl dy src mn lo hi sk : Int} {a : Act} {w : World} (t1 : a.eval (.tmp 1) = .slice A1 n1 c1) (t2 : a.eval (.tmp 2) = .int .i64 la) (t3 : a.eval (.tmp 3) = .int .i64 sl) (t4 : a.eval (.tmp 4) = .int .i64 dy) (t5 : a.eval (.tmp 5) = .pointer (some ⟨b5, 0, none⟩)) (t11 : a.eval (.tmp 11) = .pointer (some ⟨b11, 0, none⟩)) (m0 : w.cell? ⟨b11, 0, none⟩ = some (.int .i64 src)) (m2 : w.cell? ⟨b11, 2, none⟩ = some (.int .i64 mn)) (m3 : w.cell? ⟨b11, 3, none⟩ = some (.int .i64 lo)) (m4 : w.cell? ⟨b11, 4, none⟩ = some (.int .i64 hi)) (q0 : w.cell? ⟨b5, 0, none⟩ = some (.int .i64 o)) (q1 : w.cell? ⟨b5, 1, none⟩ = some (.int .i64 t)) (q2 : w.cell? ⟨b5, 2, none⟩ = some (.slice A nl c)) (hh : CV w 40 #[.slice A1 n1 c1, .int .i64 sl] (.bool false)) (hi' : CV w 31 #[.int .i64 dy, .int .i64 lo, .int .i64 hi] (.bool false)) : OpOk Try.prog opsMy1 (wordsMy1 b5 b11 A A1 nl c n1 c1 o t la sl dy src mn lo hi sk) 46 a w 26 := by
  refine OpOk.gen rfl (fun a1 w1 H => ?_)
  have d19 : a1.eval (.tmp 36) = .bool false := H.dep 19 36 rfl (by kernel_rfl)
  refine gd_false rfl d19 (by decide) ?_
  trivial
set_option maxRecDepth 10000 in
theorem okMy1_27 {b5 b11 : Nat} {A A1 : Option Addr} {nl c n1 c1 : Nat} {o t la sl dy src mn lo hi sk : Int} {a : Act} {w : World} (t1 : a.eval (.tmp 1) = .slice A1 n1 c1) (t2 : a.eval (.tmp 2) = .int .i64 la) (t3 : a.eval (.tmp 3) = .int .i64 sl) (t4 : a.eval (.tmp 4) = .int .i64 dy) (t5 : a.eval (.tmp 5) = .pointer (some ⟨b5, 0, none⟩)) (t11 : a.eval (.tmp 11) = .pointer (some ⟨b11, 0, none⟩)) (m0 : w.cell? ⟨b11, 0, none⟩ = some (.int .i64 src)) (m2 : w.cell? ⟨b11, 2, none⟩ = some (.int .i64 mn)) (m3 : w.cell? ⟨b11, 3, none⟩ = some (.int .i64 lo)) (m4 : w.cell? ⟨b11, 4, none⟩ = some (.int .i64 hi)) (q0 : w.cell? ⟨b5, 0, none⟩ = some (.int .i64 o)) (q1 : w.cell? ⟨b5, 1, none⟩ = some (.int .i64 t)) (q2 : w.cell? ⟨b5, 2, none⟩ = some (.slice A nl c)) (hh : CV w 40 #[.slice A1 n1 c1, .int .i64 sl] (.bool false)) (hi' : CV w 31 #[.int .i64 dy, .int .i64 lo, .int .i64 hi] (.bool false)) : OpOk Try.prog opsMy1 (wordsMy1 b5 b11 A A1 nl c n1 c1 o t la sl dy src mn lo hi sk) 46 a w 27 := by
  refine OpOk.gen rfl (fun a1 w1 H => ?_)
  have d19 : a1.eval (.tmp 36) = .bool false := H.dep 19 36 rfl (by kernel_rfl)
  refine gd_false rfl d19 (by decide) ?_
  trivial
set_option maxRecDepth 10000 in
theorem okMy1_28 {b5 b11 : Nat} {A A1 : Option Addr} {nl c n1 c1 : Nat} {o t la sl dy src mn lo hi sk : Int} {a : Act} {w : World} (t1 : a.eval (.tmp 1) = .slice A1 n1 c1) (t2 : a.eval (.tmp 2) = .int .i64 la) (t3 : a.eval (.tmp 3) = .int .i64 sl) (t4 : a.eval (.tmp 4) = .int .i64 dy) (t5 : a.eval (.tmp 5) = .pointer (some ⟨b5, 0, none⟩)) (t11 : a.eval (.tmp 11) = .pointer (some ⟨b11, 0, none⟩)) (m0 : w.cell? ⟨b11, 0, none⟩ = some (.int .i64 src)) (m2 : w.cell? ⟨b11, 2, none⟩ = some (.int .i64 mn)) (m3 : w.cell? ⟨b11, 3, none⟩ = some (.int .i64 lo)) (m4 : w.cell? ⟨b11, 4, none⟩ = some (.int .i64 hi)) (q0 : w.cell? ⟨b5, 0, none⟩ = some (.int .i64 o)) (q1 : w.cell? ⟨b5, 1, none⟩ = some (.int .i64 t)) (q2 : w.cell? ⟨b5, 2, none⟩ = some (.slice A nl c)) (hh : CV w 40 #[.slice A1 n1 c1, .int .i64 sl] (.bool false)) (hi' : CV w 31 #[.int .i64 dy, .int .i64 lo, .int .i64 hi] (.bool false)) : OpOk Try.prog opsMy1 (wordsMy1 b5 b11 A A1 nl c n1 c1 o t la sl dy src mn lo hi sk) 46 a w 28 := by
  refine OpOk.gen rfl (fun a1 w1 H => ?_)
  have d19 : a1.eval (.tmp 36) = .bool false := H.dep 19 36 rfl (by kernel_rfl)
  refine gd_none ?_
  exact OpW.pick (b := false) d19 rfl
set_option maxRecDepth 10000 in
theorem okMy1_29 {b5 b11 : Nat} {A A1 : Option Addr} {nl c n1 c1 : Nat} {o t la sl dy src mn lo hi sk : Int} {a : Act} {w : World} (t1 : a.eval (.tmp 1) = .slice A1 n1 c1) (t2 : a.eval (.tmp 2) = .int .i64 la) (t3 : a.eval (.tmp 3) = .int .i64 sl) (t4 : a.eval (.tmp 4) = .int .i64 dy) (t5 : a.eval (.tmp 5) = .pointer (some ⟨b5, 0, none⟩)) (t11 : a.eval (.tmp 11) = .pointer (some ⟨b11, 0, none⟩)) (m0 : w.cell? ⟨b11, 0, none⟩ = some (.int .i64 src)) (m2 : w.cell? ⟨b11, 2, none⟩ = some (.int .i64 mn)) (m3 : w.cell? ⟨b11, 3, none⟩ = some (.int .i64 lo)) (m4 : w.cell? ⟨b11, 4, none⟩ = some (.int .i64 hi)) (q0 : w.cell? ⟨b5, 0, none⟩ = some (.int .i64 o)) (q1 : w.cell? ⟨b5, 1, none⟩ = some (.int .i64 t)) (q2 : w.cell? ⟨b5, 2, none⟩ = some (.slice A nl c)) (hh : CV w 40 #[.slice A1 n1 c1, .int .i64 sl] (.bool false)) (hi' : CV w 31 #[.int .i64 dy, .int .i64 lo, .int .i64 hi] (.bool false)) : OpOk Try.prog opsMy1 (wordsMy1 b5 b11 A A1 nl c n1 c1 o t la sl dy src mn lo hi sk) 46 a w 29 := by
  refine OpOk.gen rfl (fun a1 w1 H => ?_)
  have d28 : a1.eval (.tmp 45) = .bool false := H.dep 28 45 rfl (by kernel_rfl)
  refine gd_none ?_
  exact OpW.assign d28 rfl
set_option maxRecDepth 10000 in
theorem regionMy1 {F : Fence} {n : Nat} (hF : WideF F Try.prog) {Q : Exit → Act → World → Prop} {b5 b11 : Nat} {A A1 : Option Addr} {nl c n1 c1 : Nat} {o t la sl dy src mn lo hi sk : Int} {a : Act} {w : World} (hsz : a.tmps.size = 46)
    (t1 : a.eval (.tmp 1) = .slice A1 n1 c1) (t2 : a.eval (.tmp 2) = .int .i64 la) (t3 : a.eval (.tmp 3) = .int .i64 sl) (t4 : a.eval (.tmp 4) = .int .i64 dy) (t5 : a.eval (.tmp 5) = .pointer (some ⟨b5, 0, none⟩)) (t11 : a.eval (.tmp 11) = .pointer (some ⟨b11, 0, none⟩)) (m0 : w.cell? ⟨b11, 0, none⟩ = some (.int .i64 src)) (m2 : w.cell? ⟨b11, 2, none⟩ = some (.int .i64 mn)) (m3 : w.cell? ⟨b11, 3, none⟩ = some (.int .i64 lo)) (m4 : w.cell? ⟨b11, 4, none⟩ = some (.int .i64 hi)) (q0 : w.cell? ⟨b5, 0, none⟩ = some (.int .i64 o)) (q1 : w.cell? ⟨b5, 1, none⟩ = some (.int .i64 t)) (q2 : w.cell? ⟨b5, 2, none⟩ = some (.slice A nl c)) (hh : CV w 40 #[.slice A1 n1 c1, .int .i64 sl] (.bool false)) (hi' : CV w 31 #[.int .i64 dy, .int .i64 lo, .int .i64 hi] (.bool false))
    (hK : ∀ (a' : Act) (w' : World), a'.tmps.size = 46 → a'.defers = a.defers → Below w.heap.size w w' → (∀ e, ndstB opsMy1 e = true → a'.eval (.tmp e) = a.eval (.tmp e)) → (∀ (j d : Nat), (opsMy1[j]?).bind (·.dst) = some d → (wordsMy1 b5 b11 A A1 nl c n1 c1 o t la sl dy src mn lo hi sk).at_ j (a'.eval (.tmp d)) w') → Q .normal a' w') :
    (Code.region 2 opsMy1 true).wpIn F n Try.prog Q a w := by
  refine region_S (wordsMy1 b5 b11 A A1 nl c n1 c1 o t la sl dy src mn lo hi sk) 46 hF (by kernel_rfl) Try.mixed (by kernel_rfl) (by kernel_rfl) ?_ hsz 30 (by kernel_rfl) ?_ hK
  · exact ⟨(fun _ _ _ h _ => h), (fun _ _ _ h _ => h), (fun _ _ _ h _ => h), (fun _ _ _ h _ => h), (fun _ _ _ h _ => h), (fun _ _ _ h _ => h), (fun _ _ _ h _ => h), (fun _ _ _ h _ => h), (fun _ _ _ h _ => h), (fun _ _ _ h _ => h), (fun _ _ _ h _ => h), (fun _ _ _ h _ => h), (fun _ _ _ h _ => h), (fun _ _ _ h _ => h), (fun _ _ _ h _ => h), (fun _ _ _ _ _ => trivial), (fun _ _ _ _ _ => trivial), (fun _ _ _ _ _ => trivial), (fun _ _ _ h _ => h), (fun _ _ _ h _ => h), (fun _ _ _ _ _ => trivial), (fun _ _ _ _ _ => trivial), (fun _ _ _ _ _ => trivial), (fun _ _ _ _ _ => trivial), (fun _ _ _ _ _ => trivial), (fun _ _ _ _ _ => trivial), (fun _ _ _ _ _ => trivial), (fun _ _ _ _ _ => trivial), (fun _ _ _ h _ => h), (fun _ _ _ h _ => h), trivial⟩
  · exact ⟨⟨⟨⟨⟨⟨⟨⟨⟨⟨⟨⟨⟨⟨⟨⟨⟨⟨⟨⟨⟨⟨⟨⟨⟨⟨⟨⟨⟨⟨trivial, okMy1_0 t1 t2 t3 t4 t5 t11 m0 m2 m3 m4 q0 q1 q2 hh.drew hi'.drew⟩, okMy1_1 t1 t2 t3 t4 t5 t11 m0 m2 m3 m4 q0 q1 q2 hh.drew hi'.drew⟩, okMy1_2 t1 t2 t3 t4 t5 t11 m0 m2 m3 m4 q0 q1 q2 hh.drew hi'.drew⟩, okMy1_3 t1 t2 t3 t4 t5 t11 m0 m2 m3 m4 q0 q1 q2 hh.drew hi'.drew⟩, okMy1_4 t1 t2 t3 t4 t5 t11 m0 m2 m3 m4 q0 q1 q2 hh.drew hi'.drew⟩, okMy1_5 t1 t2 t3 t4 t5 t11 m0 m2 m3 m4 q0 q1 q2 hh.drew hi'.drew⟩, okMy1_6 t1 t2 t3 t4 t5 t11 m0 m2 m3 m4 q0 q1 q2 hh.drew hi'.drew⟩, okMy1_7 t1 t2 t3 t4 t5 t11 m0 m2 m3 m4 q0 q1 q2 hh.drew hi'.drew⟩, okMy1_8 t1 t2 t3 t4 t5 t11 m0 m2 m3 m4 q0 q1 q2 hh.drew hi'.drew⟩, okMy1_9 t1 t2 t3 t4 t5 t11 m0 m2 m3 m4 q0 q1 q2 hh.drew hi'.drew⟩, okMy1_10 t1 t2 t3 t4 t5 t11 m0 m2 m3 m4 q0 q1 q2 hh.drew hi'.drew⟩, okMy1_11 t1 t2 t3 t4 t5 t11 m0 m2 m3 m4 q0 q1 q2 hh.drew hi'.drew⟩, okMy1_12 t1 t2 t3 t4 t5 t11 m0 m2 m3 m4 q0 q1 q2 hh.drew hi'.drew⟩, okMy1_13 t1 t2 t3 t4 t5 t11 m0 m2 m3 m4 q0 q1 q2 hh.drew hi'.drew⟩, okMy1_14 t1 t2 t3 t4 t5 t11 m0 m2 m3 m4 q0 q1 q2 hh.drew hi'.drew⟩, okMy1_15 t1 t2 t3 t4 t5 t11 m0 m2 m3 m4 q0 q1 q2 hh.drew hi'.drew⟩, okMy1_16 t1 t2 t3 t4 t5 t11 m0 m2 m3 m4 q0 q1 q2 hh.drew hi'.drew⟩, okMy1_17 t1 t2 t3 t4 t5 t11 m0 m2 m3 m4 q0 q1 q2 hh.drew hi'.drew⟩, okMy1_18 t1 t2 t3 t4 t5 t11 m0 m2 m3 m4 q0 q1 q2 hh.drew hi'.drew⟩, okMy1_19 t1 t2 t3 t4 t5 t11 m0 m2 m3 m4 q0 q1 q2 hh.drew hi'.drew⟩, okMy1_20 t1 t2 t3 t4 t5 t11 m0 m2 m3 m4 q0 q1 q2 hh.drew hi'.drew⟩, okMy1_21 t1 t2 t3 t4 t5 t11 m0 m2 m3 m4 q0 q1 q2 hh.drew hi'.drew⟩, okMy1_22 t1 t2 t3 t4 t5 t11 m0 m2 m3 m4 q0 q1 q2 hh.drew hi'.drew⟩, okMy1_23 t1 t2 t3 t4 t5 t11 m0 m2 m3 m4 q0 q1 q2 hh.drew hi'.drew⟩, okMy1_24 t1 t2 t3 t4 t5 t11 m0 m2 m3 m4 q0 q1 q2 hh.drew hi'.drew⟩, okMy1_25 t1 t2 t3 t4 t5 t11 m0 m2 m3 m4 q0 q1 q2 hh.drew hi'.drew⟩, okMy1_26 t1 t2 t3 t4 t5 t11 m0 m2 m3 m4 q0 q1 q2 hh.drew hi'.drew⟩, okMy1_27 t1 t2 t3 t4 t5 t11 m0 m2 m3 m4 q0 q1 q2 hh.drew hi'.drew⟩, okMy1_28 t1 t2 t3 t4 t5 t11 m0 m2 m3 m4 q0 q1 q2 hh.drew hi'.drew⟩, okMy1_29 t1 t2 t3 t4 t5 t11 m0 m2 m3 m4 q0 q1 q2 hh.drew hi'.drew⟩
noncomputable def opsMy2 : Array Oper := (Try.f52.body.bind (regionOf 2)).getD #[]
def wordsMy2 (b5 b11 : Nat) (A A1 : Option Addr) (nl c n1 c1 : Nat) (o t la sl dy src mn lo hi sk : Int) : Words := [fun v _ => v = .slice A1 n1 c1, fun v _ => v = .int .i64 sl, fun v _ => v = .bool false, fun v _ => v = .bool true, fun v _ => v = .bool true, fun v _ => v = .int .i64 dy, fun v _ => v = .pointer (some ⟨b11, 3, none⟩), fun v _ => v = .pointer (some ⟨b11, 3, none⟩), fun v _ => v = .int .i64 lo, fun v _ => v = .pointer (some ⟨b11, 3, none⟩), fun v _ => v = .pointer (some ⟨b11, 4, none⟩), fun v _ => v = .int .i64 hi, fun v _ => v = .bool true, fun v _ => v = .bool true, fun v _ => v = .bool true, fun v _ => v = .int .i64 dy, fun v _ => v = .int .i64 la, fun v _ => v = .bool false, fun v _ => v = .bool false, fun v _ => v = .bool false, fun _ _ => True, fun _ _ => True, fun _ _ => True, fun _ _ => True, fun _ _ => True, fun _ _ => True, fun _ _ => True, fun _ _ => True, fun v _ => v = .bool false, fun v _ => v = .bool false]
set_option maxRecDepth 10000 in
theorem okMy2_0 {b5 b11 : Nat} {A A1 : Option Addr} {nl c n1 c1 : Nat} {o t la sl dy src mn lo hi sk : Int} {a : Act} {w : World} (t1 : a.eval (.tmp 1) = .slice A1 n1 c1) (t2 : a.eval (.tmp 2) = .int .i64 la) (t3 : a.eval (.tmp 3) = .int .i64 sl) (t4 : a.eval (.tmp 4) = .int .i64 dy) (t5 : a.eval (.tmp 5) = .pointer (some ⟨b5, 0, none⟩)) (t11 : a.eval (.tmp 11) = .pointer (some ⟨b11, 0, none⟩)) (m0 : w.cell? ⟨b11, 0, none⟩ = some (.int .i64 src)) (m2 : w.cell? ⟨b11, 2, none⟩ = some (.int .i64 mn)) (m3 : w.cell? ⟨b11, 3, none⟩ = some (.int .i64 lo)) (m4 : w.cell? ⟨b11, 4, none⟩ = some (.int .i64 hi)) (q0 : w.cell? ⟨b5, 0, none⟩ = some (.int .i64 o)) (q1 : w.cell? ⟨b5, 1, none⟩ = some (.int .i64 t)) (q2 : w.cell? ⟨b5, 2, none⟩ = some (.slice A nl c)) (hh : CV w 40 #[.slice A1 n1 c1, .int .i64 sl] (.bool false)) (hi' : CV w 31 #[.int .i64 dy, .int .i64 lo, .int .i64 hi] (.bool true)) (hl' : ¬ la ≤ dy) : OpOk Try.prog opsMy2 (wordsMy2 b5 b11 A A1 nl c n1 c1 o t la sl dy src mn lo hi sk) 46 a w 0 := by
  refine OpOk.gen rfl (fun a1 w1 H => ?_)
  have e1 : a1.eval (.tmp 1) = .slice A1 n1 c1 := (H.out 1 (by kernel_rfl)).trans t1
  refine gd_none ?_
  exact OpW.move e1 rfl
set_option maxRecDepth 10000 in
theorem okMy2_1 {b5 b11 : Nat} {A A1 : Option Addr} {nl c n1 c1 : Nat} {o t la sl dy src mn lo hi sk : Int} {a : Act} {w : World} (t1 : a.eval (.tmp 1) = .slice A1 n1 c1) (t2 : a.eval (.tmp 2) = .int .i64 la) (t3 : a.eval (.tmp 3) = .int .i64 sl) (t4 : a.eval (.tmp 4) = .int .i64 dy) (t5 : a.eval (.tmp 5) = .pointer (some ⟨b5, 0, none⟩)) (t11 : a.eval (.tmp 11) = .pointer (some ⟨b11, 0, none⟩)) (m0 : w.cell? ⟨b11, 0, none⟩ = some (.int .i64 src)) (m2 : w.cell? ⟨b11, 2, none⟩ = some (.int .i64 mn)) (m3 : w.cell? ⟨b11, 3, none⟩ = some (.int .i64 lo)) (m4 : w.cell? ⟨b11, 4, none⟩ = some (.int .i64 hi)) (q0 : w.cell? ⟨b5, 0, none⟩ = some (.int .i64 o)) (q1 : w.cell? ⟨b5, 1, none⟩ = some (.int .i64 t)) (q2 : w.cell? ⟨b5, 2, none⟩ = some (.slice A nl c)) (hh : CV w 40 #[.slice A1 n1 c1, .int .i64 sl] (.bool false)) (hi' : CV w 31 #[.int .i64 dy, .int .i64 lo, .int .i64 hi] (.bool true)) (hl' : ¬ la ≤ dy) : OpOk Try.prog opsMy2 (wordsMy2 b5 b11 A A1 nl c n1 c1 o t la sl dy src mn lo hi sk) 46 a w 1 := by
  refine OpOk.gen rfl (fun a1 w1 H => ?_)
  have e3 : a1.eval (.tmp 3) = .int .i64 sl := (H.out 3 (by kernel_rfl)).trans t3
  refine gd_none ?_
  exact OpW.move e3 rfl
set_option maxRecDepth 10000 in
theorem okMy2_2 {b5 b11 : Nat} {A A1 : Option Addr} {nl c n1 c1 : Nat} {o t la sl dy src mn lo hi sk : Int} {a : Act} {w : World} (t1 : a.eval (.tmp 1) = .slice A1 n1 c1) (t2 : a.eval (.tmp 2) = .int .i64 la) (t3 : a.eval (.tmp 3) = .int .i64 sl) (t4 : a.eval (.tmp 4) = .int .i64 dy) (t5 : a.eval (.tmp 5) = .pointer (some ⟨b5, 0, none⟩)) (t11 : a.eval (.tmp 11) = .pointer (some ⟨b11, 0, none⟩)) (m0 : w.cell? ⟨b11, 0, none⟩ = some (.int .i64 src)) (m2 : w.cell? ⟨b11, 2, none⟩ = some (.int .i64 mn)) (m3 : w.cell? ⟨b11, 3, none⟩ = some (.int .i64 lo)) (m4 : w.cell? ⟨b11, 4, none⟩ = some (.int .i64 hi)) (q0 : w.cell? ⟨b5, 0, none⟩ = some (.int .i64 o)) (q1 : w.cell? ⟨b5, 1, none⟩ = some (.int .i64 t)) (q2 : w.cell? ⟨b5, 2, none⟩ = some (.slice A nl c)) (hh : CV w 40 #[.slice A1 n1 c1, .int .i64 sl] (.bool false)) (hi' : CV w 31 #[.int .i64 dy, .int .i64 lo, .int .i64 hi] (.bool true)) (hl' : ¬ la ≤ dy) : OpOk Try.prog opsMy2 (wordsMy2 b5 b11 A A1 nl c n1 c1 o t la sl dy src mn lo hi sk) 46 a w 2 := by
  refine OpOk.gen rfl (fun a1 w1 H => ?_)
  have d0 : a1.eval (.tmp 17) = .slice A1 n1 c1 := H.dep 0 17 rfl (by kernel_rfl)
  have d1 : a1.eval (.tmp 18) = .int .i64 sl := H.dep 1 18 rfl (by kernel_rfl)
  refine gd_none ?_
  exact OpW.call (vs := #[.slice A1 n1 c1, .int .i64 sl]) (enters_of Try.func40 (by kernel_rfl) rfl) (by simp [d0, d1]) (hh w1 H.low)
set_option maxRecDepth 10000 in
theorem okMy2_3 {b5 b11 : Nat} {A A1 : Option Addr} {nl c n1 c1 : Nat} {o t la sl dy src mn lo hi sk : Int} {a : Act} {w : World} (t1 : a.eval (.tmp 1) = .slice A1 n1 c1) (t2 : a.eval (.tmp 2) = .int .i64 la) (t3 : a.eval (.tmp 3) = .int .i64 sl) (t4 : a.eval (.tmp 4) = .int .i64 dy) (t5 : a.eval (.tmp 5) = .pointer (some ⟨b5, 0, none⟩)) (t11 : a.eval (.tmp 11) = .pointer (some ⟨b11, 0, none⟩)) (m0 : w.cell? ⟨b11, 0, none⟩ = some (.int .i64 src)) (m2 : w.cell? ⟨b11, 2, none⟩ = some (.int .i64 mn)) (m3 : w.cell? ⟨b11, 3, none⟩ = some (.int .i64 lo)) (m4 : w.cell? ⟨b11, 4, none⟩ = some (.int .i64 hi)) (q0 : w.cell? ⟨b5, 0, none⟩ = some (.int .i64 o)) (q1 : w.cell? ⟨b5, 1, none⟩ = some (.int .i64 t)) (q2 : w.cell? ⟨b5, 2, none⟩ = some (.slice A nl c)) (hh : CV w 40 #[.slice A1 n1 c1, .int .i64 sl] (.bool false)) (hi' : CV w 31 #[.int .i64 dy, .int .i64 lo, .int .i64 hi] (.bool true)) (hl' : ¬ la ≤ dy) : OpOk Try.prog opsMy2 (wordsMy2 b5 b11 A A1 nl c n1 c1 o t la sl dy src mn lo hi sk) 46 a w 3 := by
  refine OpOk.gen rfl (fun a1 w1 H => ?_)
  have d2 : a1.eval (.tmp 19) = .bool false := H.dep 2 19 rfl (by kernel_rfl)
  refine gd_none ?_
  exact OpW.un d2 (not4 _ _) rfl
set_option maxRecDepth 10000 in
theorem okMy2_4 {b5 b11 : Nat} {A A1 : Option Addr} {nl c n1 c1 : Nat} {o t la sl dy src mn lo hi sk : Int} {a : Act} {w : World} (t1 : a.eval (.tmp 1) = .slice A1 n1 c1) (t2 : a.eval (.tmp 2) = .int .i64 la) (t3 : a.eval (.tmp 3) = .int .i64 sl) (t4 : a.eval (.tmp 4) = .int .i64 dy) (t5 : a.eval (.tmp 5) = .pointer (some ⟨b5, 0, none⟩)) (t11 : a.eval (.tmp 11) = .pointer (some ⟨b11, 0, none⟩)) (m0 : w.cell? ⟨b11, 0, none⟩ = some (.int .i64 src)) (m2 : w.cell? ⟨b11, 2, none⟩ = some (.int .i64 mn)) (m3 : w.cell? ⟨b11, 3, none⟩ = some (.int .i64 lo)) (m4 : w.cell? ⟨b11, 4, none⟩ = some (.int .i64 hi)) (q0 : w.cell? ⟨b5, 0, none⟩ = some (.int .i64 o)) (q1 : w.cell? ⟨b5, 1, none⟩ = some (.int .i64 t)) (q2 : w.cell? ⟨b5, 2, none⟩ = some (.slice A nl c)) (hh : CV w 40 #[.slice A1 n1 c1, .int .i64 sl] (.bool false)) (hi' : CV w 31 #[.int .i64 dy, .int .i64 lo, .int .i64 hi] (.bool true)) (hl' : ¬ la ≤ dy) : OpOk Try.prog opsMy2 (wordsMy2 b5 b11 A A1 nl c n1 c1 o t la sl dy src mn lo hi sk) 46 a w 4 := by
  refine OpOk.gen rfl (fun a1 w1 H => ?_)
  have d3 : a1.eval (.tmp 20) = .bool true := H.dep 3 20 rfl (by kernel_rfl)
  refine gd_none ?_
  exact OpW.move d3 rfl
set_option maxRecDepth 10000 in
theorem okMy2_5 {b5 b11 : Nat} {A A1 : Option Addr} {nl c n1 c1 : Nat} {o t la sl dy src mn lo hi sk : Int} {a : Act} {w : World} (t1 : a.eval (.tmp 1) = .slice A1 n1 c1) (t2 : a.eval (.tmp 2) = .int .i64 la) (t3 : a.eval (.tmp 3) = .int .i64 sl) (t4 : a.eval (.tmp 4) = .int .i64 dy) (t5 : a.eval (.tmp 5) = .pointer (some ⟨b5, 0, none⟩)) (t11 : a.eval (.tmp 11) = .pointer (some ⟨b11, 0, none⟩)) (m0 : w.cell? ⟨b11, 0, none⟩ = some (.int .i64 src)) (m2 : w.cell? ⟨b11, 2, none⟩ = some (.int .i64 mn)) (m3 : w.cell? ⟨b11, 3, none⟩ = some (.int .i64 lo)) (m4 : w.cell? ⟨b11, 4, none⟩ = some (.int .i64 hi)) (q0 : w.cell? ⟨b5, 0, none⟩ = some (.int .i64 o)) (q1 : w.cell? ⟨b5, 1, none⟩ = some (.int .i64 t)) (q2 : w.cell? ⟨b5, 2, none⟩ = some (.slice A nl c)) (hh : CV w 40 #[.slice A1 n1 c1, .int .i64 sl] (.bool false)) (hi' : CV w 31 #[.int .i64 dy, .int .i64 lo, .int .i64 hi] (.bool true)) (hl' : ¬ la ≤ dy) : OpOk Try.prog opsMy2 (wordsMy2 b5 b11 A A1 nl c n1 c1 o t la sl dy src mn lo hi sk) 46 a w 5 := by
  refine OpOk.gen rfl (fun a1 w1 H => ?_)
  have d4 : a1.eval (.tmp 21) = .bool true := H.dep 4 21 rfl (by kernel_rfl)
  have e4 : a1.eval (.tmp 4) = .int .i64 dy := (H.out 4 (by kernel_rfl)).trans t4
  refine gd_true rfl d4 ?_
  exact OpW.move e4 rfl
set_option maxRecDepth 10000 in
theorem okMy2_6 {b5 b11 : Nat} {A A1 : Option Addr} {nl c n1 c1 : Nat} {o t la sl dy src mn lo hi sk : Int} {a : Act} {w : World} (t1 : a.eval (.tmp 1) = .slice A1 n1 c1) (t2 : a.eval (.tmp 2) = .int .i64 la) (t3 : a.eval (.tmp 3) = .int .i64 sl) (t4 : a.eval (.tmp 4) = .int .i64 dy) (t5 : a.eval (.tmp 5) = .pointer (some ⟨b5, 0, none⟩)) (t11 : a.eval (.tmp 11) = .pointer (some ⟨b11, 0, none⟩)) (m0 : w.cell? ⟨b11, 0, none⟩ = some (.int .i64 src)) (m2 : w.cell? ⟨b11, 2, none⟩ = some (.int .i64 mn)) (m3 : w.cell? ⟨b11, 3, none⟩ = some (.int .i64 lo)) (m4 : w.cell? ⟨b11, 4, none⟩ = some (.int .i64 hi)) (q0 : w.cell? ⟨b5, 0, none⟩ = some (.int .i64 o)) (q1 : w.cell? ⟨b5, 1, none⟩ = some (.int .i64 t)) (q2 : w.cell? ⟨b5, 2, none⟩ = some (.slice A nl c)) (hh : CV w 40 #[.slice A1 n1 c1, .int .i64 sl] (.bool false)) (hi' : CV w 31 #[.int .i64 dy, .int .i64 lo, .int .i64 hi] (.bool true)) (hl' : ¬ la ≤ dy) : OpOk Try.prog opsMy2 (wordsMy2 b5 b11 A A1 nl c n1 c1 o t la sl dy src mn lo hi sk) 46 a w 6 := by
  refine OpOk.gen rfl (fun a1 w1 H => ?_)
  have d4 : a1.eval (.tmp 21) = .bool true := H.dep 4 21 rfl (by kernel_rfl)
  have e11 : a1.eval (.tmp 11) = .pointer (some ⟨b11, 0, none⟩) := (H.out 11 (by kernel_rfl)).trans t11
  refine gd_true rfl d4 ?_
  exact OpW.field e11 (fa73_3 _) rfl
set_option maxRecDepth 10000 in
theorem okMy2_7 {b5 b11 : Nat} {A A1 : Option Addr} {nl c n1 c1 : Nat} {o t la sl dy src mn lo hi sk : Int} {a : Act} {w : World} (t1 : a.eval (.tmp 1) = .slice A1 n1 c1) (t2 : a.eval (.tmp 2) = .int .i64 la) (t3 : a.eval (.tmp 3) = .int .i64 sl) (t4 : a.eval (.tmp 4) = .int .i64 dy) (t5 : a.eval (.tmp 5) = .pointer (some ⟨b5, 0, none⟩)) (t11 : a.eval (.tmp 11) = .pointer (some ⟨b11, 0, none⟩)) (m0 : w.cell? ⟨b11, 0, none⟩ = some (.int .i64 src)) (m2 : w.cell? ⟨b11, 2, none⟩ = some (.int .i64 mn)) (m3 : w.cell? ⟨b11, 3, none⟩ = some (.int .i64 lo)) (m4 : w.cell? ⟨b11, 4, none⟩ = some (.int .i64 hi)) (q0 : w.cell? ⟨b5, 0, none⟩ = some (.int .i64 o)) (q1 : w.cell? ⟨b5, 1, none⟩ = some (.int .i64 t)) (q2 : w.cell? ⟨b5, 2, none⟩ = some (.slice A nl c)) (hh : CV w 40 #[.slice A1 n1 c1, .int .i64 sl] (.bool false)) (hi' : CV w 31 #[.int .i64 dy, .int .i64 lo, .int .i64 hi] (.bool true)) (hl' : ¬ la ≤ dy) : OpOk Try.prog opsMy2 (wordsMy2 b5 b11 A A1 nl c n1 c1 o t la sl dy src mn lo hi sk) 46 a w 7 := by
  refine OpOk.gen rfl (fun a1 w1 H => ?_)
  have d4 : a1.eval (.tmp 21) = .bool true := H.dep 4 21 rfl (by kernel_rfl)
  have d6 : a1.eval (.tmp 23) = .pointer (some ⟨b11, 3, none⟩) := H.dep 6 23 rfl (by kernel_rfl)
  refine gd_true rfl d4 ?_
  exact OpW.field d6 (fa71_0 _) rfl
set_option maxRecDepth 10000 in
theorem okMy2_8 {b5 b11 : Nat} {A A1 : Option Addr} {nl c n1 c1 : Nat} {o t la sl dy src mn lo hi sk : Int} {a : Act} {w : World} (t1 : a.eval (.tmp 1) = .slice A1 n1 c1) (t2 : a.eval (.tmp 2) = .int .i64 la) (t3 : a.eval (.tmp 3) = .int .i64 sl) (t4 : a.eval (.tmp 4) = .int .i64 dy) (t5 : a.eval (.tmp 5) = .pointer (some ⟨b5, 0, none⟩)) (t11 : a.eval (.tmp 11) = .pointer (some ⟨b11, 0, none⟩)) (m0 : w.cell? ⟨b11, 0, none⟩ = some (.int .i64 src)) (m2 : w.cell? ⟨b11, 2, none⟩ = some (.int .i64 mn)) (m3 : w.cell? ⟨b11, 3, none⟩ = some (.int .i64 lo)) (m4 : w.cell? ⟨b11, 4, none⟩ = some (.int .i64 hi)) (q0 : w.cell? ⟨b5, 0, none⟩ = some (.int .i64 o)) (q1 : w.cell? ⟨b5, 1, none⟩ = some (.int .i64 t)) (q2 : w.cell? ⟨b5, 2, none⟩ = some (.slice A nl c)) (hh : CV w 40 #[.slice A1 n1 c1, .int .i64 sl] (.bool false)) (hi' : CV w 31 #[.int .i64 dy, .int .i64 lo, .int .i64 hi] (.bool true)) (hl' : ¬ la ≤ dy) : OpOk Try.prog opsMy2 (wordsMy2 b5 b11 A A1 nl c n1 c1 o t la sl dy src mn lo hi sk) 46 a w 8 := by
  refine OpOk.gen rfl (fun a1 w1 H => ?_)
  have d4 : a1.eval (.tmp 21) = .bool true := H.dep 4 21 rfl (by kernel_rfl)
  have d7 : a1.eval (.tmp 24) = .pointer (some ⟨b11, 3, none⟩) := H.dep 7 24 rfl (by kernel_rfl)
  refine gd_true rfl d4 ?_
  exact OpW.load d7 (ld3 (H.cell m3)) rfl
set_option maxRecDepth 10000 in
theorem okMy2_9 {b5 b11 : Nat} {A A1 : Option Addr} {nl c n1 c1 : Nat} {o t la sl dy src mn lo hi sk : Int} {a : Act} {w : World} (t1 : a.eval (.tmp 1) = .slice A1 n1 c1) (t2 : a.eval (.tmp 2) = .int .i64 la) (t3 : a.eval (.tmp 3) = .int .i64 sl) (t4 : a.eval (.tmp 4) = .int .i64 dy) (t5 : a.eval (.tmp 5) = .pointer (some ⟨b5, 0, none⟩)) (t11 : a.eval (.tmp 11) = .pointer (some ⟨b11, 0, none⟩)) (m0 : w.cell? ⟨b11, 0, none⟩ = some (.int .i64 src)) (m2 : w.cell? ⟨b11, 2, none⟩ = some (.int .i64 mn)) (m3 : w.cell? ⟨b11, 3, none⟩ = some (.int .i64 lo)) (m4 : w.cell? ⟨b11, 4, none⟩ = some (.int .i64 hi)) (q0 : w.cell? ⟨b5, 0, none⟩ = some (.int .i64 o)) (q1 : w.cell? ⟨b5, 1, none⟩ = some (.int .i64 t)) (q2 : w.cell? ⟨b5, 2, none⟩ = some (.slice A nl c)) (hh : CV w 40 #[.slice A1 n1 c1, .int .i64 sl] (.bool false)) (hi' : CV w 31 #[.int .i64 dy, .int .i64 lo, .int .i64 hi] (.bool true)) (hl' : ¬ la ≤ dy) : OpOk Try.prog opsMy2 (wordsMy2 b5 b11 A A1 nl c n1 c1 o t la sl dy src mn lo hi sk) 46 a w 9 := by
  refine OpOk.gen rfl (fun a1 w1 H => ?_)
  have d4 : a1.eval (.tmp 21) = .bool true := H.dep 4 21 rfl (by kernel_rfl)
  have e11 : a1.eval (.tmp 11) = .pointer (some ⟨b11, 0, none⟩) := (H.out 11 (by kernel_rfl)).trans t11
  refine gd_true rfl d4 ?_
  exact OpW.field e11 (fa73_3 _) rfl
set_option maxRecDepth 10000 in
theorem okMy2_10 {b5 b11 : Nat} {A A1 : Option Addr} {nl c n1 c1 : Nat} {o t la sl dy src mn lo hi sk : Int} {a : Act} {w : World} (t1 : a.eval (.tmp 1) = .slice A1 n1 c1) (t2 : a.eval (.tmp 2) = .int .i64 la) (t3 : a.eval (.tmp 3) = .int .i64 sl) (t4 : a.eval (.tmp 4) = .int .i64 dy) (t5 : a.eval (.tmp 5) = .pointer (some ⟨b5, 0, none⟩)) (t11 : a.eval (.tmp 11) = .pointer (some ⟨b11, 0, none⟩)) (m0 : w.cell? ⟨b11, 0, none⟩ = some (.int .i64 src)) (m2 : w.cell? ⟨b11, 2, none⟩ = some (.int .i64 mn)) (m3 : w.cell? ⟨b11, 3, none⟩ = some (.int .i64 lo)) (m4 : w.cell? ⟨b11, 4, none⟩ = some (.int .i64 hi)) (q0 : w.cell? ⟨b5, 0, none⟩ = some (.int .i64 o)) (q1 : w.cell? ⟨b5, 1, none⟩ = some (.int .i64 t)) (q2 : w.cell? ⟨b5, 2, none⟩ = some (.slice A nl c)) (hh : CV w 40 #[.slice A1 n1 c1, .int .i64 sl] (.bool false)) (hi' : CV w 31 #[.int .i64 dy, .int .i64 lo, .int .i64 hi] (.bool true)) (hl' : ¬ la ≤ dy) : OpOk Try.prog opsMy2 (wordsMy2 b5 b11 A A1 nl c n1 c1 o t la sl dy src mn lo hi sk) 46 a w 10 := by
  refine OpOk.gen rfl (fun a1 w1 H => ?_)
  have d4 : a1.eval (.tmp 21) = .bool true := H.dep 4 21 rfl (by kernel_rfl)
  have d9 : a1.eval (.tmp 26) = .pointer (some ⟨b11, 3, none⟩) := H.dep 9 26 rfl (by kernel_rfl)
  refine gd_true rfl d4 ?_
  exact OpW.field d9 (fa71_1 _) rfl
set_option maxRecDepth 10000 in
theorem okMy2_11 {b5 b11 : Nat} {A A1 : Option Addr} {nl c n1 c1 : Nat} {o t la sl dy src mn lo hi sk : Int} {a : Act} {w : World} (t1 : a.eval (.tmp 1) = .slice A1 n1 c1) (t2 : a.eval (.tmp 2) = .int .i64 la) (t3 : a.eval (.tmp 3) = .int .i64 sl) (t4 : a.eval (.tmp 4) = .int .i64 dy) (t5 : a.eval (.tmp 5) = .pointer (some ⟨b5, 0, none⟩)) (t11 : a.eval (.tmp 11) = .pointer (some ⟨b11, 0, none⟩)) (m0 : w.cell? ⟨b11, 0, none⟩ = some (.int .i64 src)) (m2 : w.cell? ⟨b11, 2, none⟩ = some (.int .i64 mn)) (m3 : w.cell? ⟨b11, 3, none⟩ = some (.int .i64 lo)) (m4 : w.cell? ⟨b11, 4, none⟩ = some (.int .i64 hi)) (q0 : w.cell? ⟨b5, 0, none⟩ = some (.int .i64 o)) (q1 : w.cell? ⟨b5, 1, none⟩ = some (.int .i64 t)) (q2 : w.cell? ⟨b5, 2, none⟩ = some (.slice A nl c)) (hh : CV w 40 #[.slice A1 n1 c1, .int .i64 sl] (.bool false)) (hi' : CV w 31 #[.int .i64 dy, .int .i64 lo, .int .i64 hi] (.bool true)) (hl' : ¬ la ≤ dy) : OpOk Try.prog opsMy2 (wordsMy2 b5 b11 A A1 nl c n1 c1 o t la sl dy src mn lo hi sk) 46 a w 11 := by
  refine OpOk.gen rfl (fun a1 w1 H => ?_)
  have d4 : a1.eval (.tmp 21) = .bool true := H.dep 4 21 rfl (by kernel_rfl)
  have d10 : a1.eval (.tmp 27) = .pointer (some ⟨b11, 4, none⟩) := H.dep 10 27 rfl (by kernel_rfl)
  refine gd_true rfl d4 ?_
  exact OpW.load d10 (ld3 (H.cell m4)) rfl
set_option maxRecDepth 10000 in
theorem okMy2_12 {b5 b11 : Nat} {A A1 : Option Addr} {nl c n1 c1 : Nat} {o t la sl dy src mn lo hi sk : Int} {a : Act} {w : World} (t1 : a.eval (.tmp 1) = .slice A1 n1 c1) (t2 : a.eval (.tmp 2) = .int .i64 la) (t3 : a.eval (.tmp 3) = .int .i64 sl) (t4 : a.eval (.tmp 4) = .int .i64 dy) (t5 : a.eval (.tmp 5) = .pointer (some ⟨b5, 0, none⟩)) (t11 : a.eval (.tmp 11) = .pointer (some ⟨b11, 0, none⟩)) (m0 : w.cell? ⟨b11, 0, none⟩ = some (.int .i64 src)) (m2 : w.cell? ⟨b11, 2, none⟩ = some (.int .i64 mn)) (m3 : w.cell? ⟨b11, 3, none⟩ = some (.int .i64 lo)) (m4 : w.cell? ⟨b11, 4, none⟩ = some (.int .i64 hi)) (q0 : w.cell? ⟨b5, 0, none⟩ = some (.int .i64 o)) (q1 : w.cell? ⟨b5, 1, none⟩ = some (.int .i64 t)) (q2 : w.cell? ⟨b5, 2, none⟩ = some (.slice A nl c)) (hh : CV w 40 #[.slice A1 n1 c1, .int .i64 sl] (.bool false)) (hi' : CV w 31 #[.int .i64 dy, .int .i64 lo, .int .i64 hi] (.bool true)) (hl' : ¬ la ≤ dy) : OpOk Try.prog opsMy2 (wordsMy2 b5 b11 A A1 nl c n1 c1 o t la sl dy src mn lo hi sk) 46 a w 12 := by
  refine OpOk.gen rfl (fun a1 w1 H => ?_)
  have d4 : a1.eval (.tmp 21) = .bool true := H.dep 4 21 rfl (by kernel_rfl)
  have d5 : a1.eval (.tmp 22) = .int .i64 dy := H.dep 5 22 rfl (by kernel_rfl)
  have d8 : a1.eval (.tmp 25) = .int .i64 lo := H.dep 8 25 rfl (by kernel_rfl)
  have d11 : a1.eval (.tmp 28) = .int .i64 hi := H.dep 11 28 rfl (by kernel_rfl)
  refine gd_true rfl d4 ?_
  exact OpW.call (vs := #[.int .i64 dy, .int .i64 lo, .int .i64 hi]) (enters_of Try.func31 (by kernel_rfl) rfl) (by simp [d5, d8, d11]) (hi' w1 H.low)
set_option maxRecDepth 10000 in
theorem okMy2_13 {b5 b11 : Nat} {A A1 : Option Addr} {nl c n1 c1 : Nat} {o t la sl dy src mn lo hi sk : Int} {a : Act} {w : World} (t1 : a.eval (.tmp 1) = .slice A1 n1 c1) (t2 : a.eval (.tmp 2) = .int .i64 la) (t3 : a.eval (.tmp 3) = .int .i64 sl) (t4 : a.eval (.tmp 4) = .int .i64 dy) (t5 : a.eval (.tmp 5) = .pointer (some ⟨b5, 0, none⟩)) (t11 : a.eval (.tmp 11) = .pointer (some ⟨b11, 0, none⟩)) (m0 : w.cell? ⟨b11, 0, none⟩ = some (.int .i64 src)) (m2 : w.cell? ⟨b11, 2, none⟩ = some (.int .i64 mn)) (m3 : w.cell? ⟨b11, 3, none⟩ = some (.int .i64 lo)) (m4 : w.cell? ⟨b11, 4, none⟩ = some (.int .i64 hi)) (q0 : w.cell? ⟨b5, 0, none⟩ = some (.int .i64 o)) (q1 : w.cell? ⟨b5, 1, none⟩ = some (.int .i64 t)) (q2 : w.cell? ⟨b5, 2, none⟩ = some (.slice A nl c)) (hh : CV w 40 #[.slice A1 n1 c1, .int .i64 sl] (.bool false)) (hi' : CV w 31 #[.int .i64 dy, .int .i64 lo, .int .i64 hi] (.bool true)) (hl' : ¬ la ≤ dy) : OpOk Try.prog opsMy2 (wordsMy2 b5 b11 A A1 nl c n1 c1 o t la sl dy src mn lo hi sk) 46 a w 13 := by
  refine OpOk.gen rfl (fun a1 w1 H => ?_)
  have d4 : a1.eval (.tmp 21) = .bool true := H.dep 4 21 rfl (by kernel_rfl)
  have d12 : a1.eval (.tmp 29) = .bool true := H.dep 12 29 rfl (by kernel_rfl)
  refine gd_none ?_
  exact OpW.pick (b := true) d4 d12
set_option maxRecDepth 10000 in
theorem okMy2_14 {b5 b11 : Nat} {A A1 : Option Addr} {nl c n1 c1 : Nat} {o t la sl dy src mn lo hi sk : Int} {a : Act} {w : World} (t1 : a.eval (.tmp 1) = .slice A1 n1 c1) (t2 : a.eval (.tmp 2) = .int .i64 la) (t3 : a.eval (.tmp 3) = .int .i64 sl) (t4 : a.eval (.tmp 4) = .int .i64 dy) (t5 : a.eval (.tmp 5) = .pointer (some ⟨b5, 0, none⟩)) (t11 : a.eval (.tmp 11) = .pointer (some ⟨b11, 0, none⟩)) (m0 : w.cell? ⟨b11, 0, none⟩ = some (.int .i64 src)) (m2 : w.cell? ⟨b11, 2, none⟩ = some (.int .i64 mn)) (m3 : w.cell? ⟨b11, 3, none⟩ = some (.int .i64 lo)) (m4 : w.cell? ⟨b11, 4, none⟩ = some (.int .i64 hi)) (q0 : w.cell? ⟨b5, 0, none⟩ = some (.int .i64 o)) (q1 : w.cell? ⟨b5, 1, none⟩ = some (.int .i64 t)) (q2 : w.cell? ⟨b5, 2, none⟩ = some (.slice A nl c)) (hh : CV w 40 #[.slice A1 n1 c1, .int .i64 sl] (.bool false)) (hi' : CV w 31 #[.int .i64 dy, .int .i64 lo, .int .i64 hi] (.bool true)) (hl' : ¬ la ≤ dy) : OpOk Try.prog opsMy2 (wordsMy2 b5 b11 A A1 nl c n1 c1 o t la sl dy src mn lo hi sk) 46 a w 14 := by
  refine OpOk.gen rfl (fun a1 w1 H => ?_)
  have d13 : a1.eval (.tmp 30) = .bool true := H.dep 13 30 rfl (by kernel_rfl)
  refine gd_none ?_
  exact OpW.move d13 rfl
set_option maxRecDepth 10000 in
theorem okMy2_15 {b5 b11 : Nat} {A A1 : Option Addr} {nl c n1 c1 : Nat} {o t la sl dy src mn lo hi sk : Int} {a : Act} {w : World} (t1 : a.eval (.tmp 1) = .slice A1 n1 c1) (t2 : a.eval (.tmp 2) = .int .i64 la) (t3 : a.eval (.tmp 3) = .int .i64 sl) (t4 : a.eval (.tmp 4) = .int .i64 dy) (t5 : a.eval (.tmp 5) = .pointer (some ⟨b5, 0, none⟩)) (t11 : a.eval (.tmp 11) = .pointer (some ⟨b11, 0, none⟩)) (m0 : w.cell? ⟨b11, 0, none⟩ = some (.int .i64 src)) (m2 : w.cell? ⟨b11, 2, none⟩ = some (.int .i64 mn)) (m3 : w.cell? ⟨b11, 3, none⟩ = some (.int .i64 lo)) (m4 : w.cell? ⟨b11, 4, none⟩ = some (.int .i64 hi)) (q0 : w.cell? ⟨b5, 0, none⟩ = some (.int .i64 o)) (q1 : w.cell? ⟨b5, 1, none⟩ = some (.int .i64 t)) (q2 : w.cell? ⟨b5, 2, none⟩ = some (.slice A nl c)) (hh : CV w 40 #[.slice A1 n1 c1, .int .i64 sl] (.bool false)) (hi' : CV w 31 #[.int .i64 dy, .int .i64 lo, .int .i64 hi] (.bool true)) (hl' : ¬ la ≤ dy) : OpOk Try.prog opsMy2 (wordsMy2 b5 b11 A A1 nl c n1 c1 o t la sl dy src mn lo hi sk) 46 a w 15 := by
  refine OpOk.gen rfl (fun a1 w1 H => ?_)
  have d14 : a1.eval (.tmp 31) = .bool true := H.dep 14 31 rfl (by kernel_rfl)
  have e4 : a1.eval (.tmp 4) = .int .i64 dy := (H.out 4 (by kernel_rfl)).trans t4
  refine gd_true rfl d14 ?_
  exact OpW.move e4 rfl
set_option maxRecDepth 10000 in
theorem okMy2_16 {b5 b11 : Nat} {A A1 : Option Addr} {nl c n1 c1 : Nat} {o t la sl dy src mn lo hi sk : Int} {a : Act} {w : World} (t1 : a.eval (.tmp 1) = .slice A1 n1 c1) (t2 : a.eval (.tmp 2) = .int .i64 la) (t3 : a.eval (.tmp 3) = .int .i64 sl) (t4 : a.eval (.tmp 4) = .int .i64 dy) (t5 : a.eval (.tmp 5) = .pointer (some ⟨b5, 0, none⟩)) (t11 : a.eval (.tmp 11) = .pointer (some ⟨b11, 0, none⟩)) (m0 : w.cell? ⟨b11, 0, none⟩ = some (.int .i64 src)) (m2 : w.cell? ⟨b11, 2, none⟩ = some (.int .i64 mn)) (m3 : w.cell? ⟨b11, 3, none⟩ = some (.int .i64 lo)) (m4 : w.cell? ⟨b11, 4, none⟩ = some (.int .i64 hi)) (q0 : w.cell? ⟨b5, 0, none⟩ = some (.int .i64 o)) (q1 : w.cell? ⟨b5, 1, none⟩ = some (.int .i64 t)) (q2 : w.cell? ⟨b5, 2, none⟩ = some (.slice A nl c)) (hh : CV w 40 #[.slice A1 n1 c1, .int .i64 sl] (.bool false)) (hi' : CV w 31 #[.int .i64 dy, .int .i64 lo, .int .i64 hi] (.bool true)) (hl' : ¬ la ≤ dy) : OpOk Try.prog opsMy2 (wordsMy2 b5 b11 A A1 nl c n1 c1 o t la sl dy src mn lo hi sk) 46 a w 16 := by
  refine OpOk.gen rfl (fun a1 w1 H => ?_)
  have d14 : a1.eval (.tmp 31) = .bool true := H.dep 14 31 rfl (by kernel_rfl)
  have e2 : a1.eval (.tmp 2) = .int .i64 la := (H.out 2 (by kernel_rfl)).trans t2
  refine gd_true rfl d14 ?_
  exact OpW.move e2 rfl
set_option maxRecDepth 10000 in
theorem okMy2_17 {b5 b11 : Nat} {A A1 : Option Addr} {nl c n1 c1 : Nat} {o t la sl dy src mn lo hi sk : Int} {a : Act} {w : World} (t1 : a.eval (.tmp 1) = .slice A1 n1 c1) (t2 : a.eval (.tmp 2) = .int .i64 la) (t3 : a.eval (.tmp 3) = .int .i64 sl) (t4 : a.eval (.tmp 4) = .int .i64 dy) (t5 : a.eval (.tmp 5) = .pointer (some ⟨b5, 0, none⟩)) (t11 : a.eval (.tmp 11) = .pointer (some ⟨b11, 0, none⟩)) (m0 : w.cell? ⟨b11, 0, none⟩ = some (.int .i64 src)) (m2 : w.cell? ⟨b11, 2, none⟩ = some (.int .i64 mn)) (m3 : w.cell? ⟨b11, 3, none⟩ = some (.int .i64 lo)) (m4 : w.cell? ⟨b11, 4, none⟩ = some (.int .i64 hi)) (q0 : w.cell? ⟨b5, 0, none⟩ = some (.int .i64 o)) (q1 : w.cell? ⟨b5, 1, none⟩ = some (.int .i64 t)) (q2 : w.cell? ⟨b5, 2, none⟩ = some (.slice A nl c)) (hh : CV w 40 #[.slice A1 n1 c1, .int .i64 sl] (.bool false)) (hi' : CV w 31 #[.int .i64 dy, .int .i64 lo, .int .i64 hi] (.bool true)) (hl' : ¬ la ≤ dy) : OpOk Try.prog opsMy2 (wordsMy2 b5 b11 A A1 nl c n1 c1 o t la sl dy src mn lo hi sk) 46 a w 17 := by
  refine OpOk.gen rfl (fun a1 w1 H => ?_)
  have d14 : a1.eval (.tmp 31) = .bool true := H.dep 14 31 rfl (by kernel_rfl)
  have d15 : a1.eval (.tmp 32) = .int .i64 dy := H.dep 15 32 rfl (by kernel_rfl)
  have d16 : a1.eval (.tmp 33) = .int .i64 la := H.dep 16 33 rfl (by kernel_rfl)
  refine gd_true rfl d14 ?_
  exact OpW.bin d15 d16 (geqF hl' _) rfl
set_option maxRecDepth 10000 in
theorem okMy2_18 {b5 b11 : Nat} {A A1 : Option Addr} {nl c n1 c1 : Nat} {o t la sl dy src mn lo hi sk : Int} {a : Act} {w : World} (t1 : a.eval (.tmp 1) = .slice A1 n1 c1) (t2 : a.eval (.tmp 2) = .int .i64 la) (t3 : a.eval (.tmp 3) = .int .i64 sl) (t4 : a.eval (.tmp 4) = .int .i64 dy) (t5 : a.eval (.tmp 5) = .pointer (some ⟨b5, 0, none⟩)) (t11 : a.eval (.tmp 11) = .pointer (some ⟨b11, 0, none⟩)) (m0 : w.cell? ⟨b11, 0, none⟩ = some (.int .i64 src)) (m2 : w.cell? ⟨b11, 2, none⟩ = some (.int .i64 mn)) (m3 : w.cell? ⟨b11, 3, none⟩ = some (.int .i64 lo)) (m4 : w.cell? ⟨b11, 4, none⟩ = some (.int .i64 hi)) (q0 : w.cell? ⟨b5, 0, none⟩ = some (.int .i64 o)) (q1 : w.cell? ⟨b5, 1, none⟩ = some (.int .i64 t)) (q2 : w.cell? ⟨b5, 2, none⟩ = some (.slice A nl c)) (hh : CV w 40 #[.slice A1 n1 c1, .int .i64 sl] (.bool false)) (hi' : CV w 31 #[.int .i64 dy, .int .i64 lo, .int .i64 hi] (.bool true)) (hl' : ¬ la ≤ dy) : OpOk Try.prog opsMy2 (wordsMy2 b5 b11 A A1 nl c n1 c1 o t la sl dy src mn lo hi sk) 46 a w 18 := by
  refine OpOk.gen rfl (fun a1 w1 H => ?_)
  have d14 : a1.eval (.tmp 31) = .bool true := H.dep 14 31 rfl (by kernel_rfl)
  have d17 : a1.eval (.tmp 34) = .bool false := H.dep 17 34 rfl (by kernel_rfl)
  refine gd_none ?_
  exact OpW.pick (b := true) d14 d17
set_option maxRecDepth 10000 in
theorem okMy2_19 {b5 b11 : Nat} {A A1 : Option Addr} {nl c n1 c1 : Nat} {o t la sl dy src mn lo hi sk : Int} {a : Act} {w : World} (t1 : a.eval (.tmp 1) = .slice A1 n1 c1) (t2 : a.eval (.tmp 2) = .int .i64 la) (t3 : a.eval (.tmp 3) = .int .i64 sl) (t4 : a.eval (.tmp 4) = .int .i64 dy) (t5 : a.eval (.tmp 5) = .pointer (some ⟨b5, 0, none⟩)) (t11 : a.eval (.tmp 11) = .pointer (some ⟨b11, 0, none⟩)) (m0 : w.cell? ⟨b11, 0, none⟩ = some (.int .i64 src)) (m2 : w.cell? ⟨b11, 2, none⟩ = some (.int .i64 mn)) (m3 : w.cell? ⟨b11, 3, none⟩ = some (.int .i64 lo)) (m4 : w.cell? ⟨b11, 4, none⟩ = some (.int .i64 hi)) (q0 : w.cell? ⟨b5, 0, none⟩ = some (.int .i64 o)) (q1 : w.cell? ⟨b5, 1, none⟩ = some (.int .i64 t)) (q2 : w.cell? ⟨b5, 2, none⟩ = some (.slice A nl c)) (hh : CV w 40 #[.slice A1 n1 c1, .int .i64 sl] (.bool false)) (hi' : CV w 31 #[.int .i64 dy, .int .i64 lo, .int .i64 hi] (.bool true)) (hl' : ¬ la ≤ dy) : OpOk Try.prog opsMy2 (wordsMy2 b5 b11 A A1 nl c n1 c1 o t la sl dy src mn lo hi sk) 46 a w 19 := by
  refine OpOk.gen rfl (fun a1 w1 H => ?_)
  have d18 : a1.eval (.tmp 35) = .bool false := H.dep 18 35 rfl (by kernel_rfl)
  refine gd_none ?_
  exact OpW.move d18 rfl
set_option maxRecDepth 10000 in
theorem okMy2_20 {b5 b11 : Nat} {A A1 : Option Addr} {nl c n1 c1 : Nat} {o t la sl dy src mn lo hi sk : Int} {a : Act} {w : World} (t1 : a.eval (.tmp 1) = .slice A1 n1 c1) (t2 : a.eval (.tmp 2) = .int .i64 la) (t3 : a.eval (.tmp 3) = .int .i64 sl) (t4 : a.eval (.tmp 4) = .int .i64 dy) (t5 : a.eval (.tmp 5) = .pointer (some ⟨b5, 0, none⟩)) (t11 : a.eval (.tmp 11) = .pointer (some ⟨b11, 0, none⟩)) (m0 : w.cell? ⟨b11, 0, none⟩ = some (.int .i64 src)) (m2 : w.cell? ⟨b11, 2, none⟩ = some (.int .i64 mn)) (m3 : w.cell? ⟨b11, 3, none⟩ = some (.int .i64 lo)) (m4 : w.cell? ⟨b11, 4, none⟩ = some (.int .i64 hi)) (q0 : w.cell? ⟨b5, 0, none⟩ = some (.int .i64 o)) (q1 : w.cell? ⟨b5, 1, none⟩ = some (.int .i64 t)) (q2 : w.cell? ⟨b5, 2, none⟩ = some (.slice A nl c)) (hh : CV w 40 #[.slice A1 n1 c1, .int .i64 sl] (.bool false)) (hi' : CV w 31 #[.int .i64 dy, .int .i64 lo, .int .i64 hi] (.bool true)) (hl' : ¬ la ≤ dy) : OpOk Try.prog opsMy2 (wordsMy2 b5 b11 A A1 nl c n1 c1 o t la sl dy src mn lo hi sk) 46 a w 20 := by
  refine OpOk.gen rfl (fun a1 w1 H => ?_)
  have d19 : a1.eval (.tmp 36) = .bool false := H.dep 19 36 rfl (by kernel_rfl)
  refine gd_false rfl d19 (by decide) ?_
  trivial
set_option maxRecDepth 10000 in
theorem okMy2_21 {b5 b11 : Nat} {A A1 : Option Addr} {nl c n1 c1 : Nat} {o t la sl dy src mn lo hi sk : Int} {a : Act} {w : World} (t1 : a.eval (.tmp 1) = .slice A1 n1 c1) (t2 : a.eval (.tmp 2) = .int .i64 la) (t3 : a.eval (.tmp 3) = .int .i64 sl) (t4 : a.eval (.tmp 4) = .int .i64 dy) (t5 : a.eval (.tmp 5) = .pointer (some ⟨b5, 0, none⟩)) (t11 : a.eval (.tmp 11) = .pointer (some ⟨b11, 0, none⟩)) (m0 : w.cell? ⟨b11, 0, none⟩ = some (.int .i64 src)) (m2 : w.cell? ⟨b11, 2, none⟩ = some (.int .i64 mn)) (m3 : w.cell? ⟨b11, 3, none⟩ = some (.int .i64 lo)) (m4 : w.cell? ⟨b11, 4, none⟩ = some (.int .i64 hi)) (q0 : w.cell? ⟨b5, 0, none⟩ = some (.int .i64 o)) (q1 : w.cell? ⟨b5, 1, none⟩ = some (.int .i64 t)) (q2 : w.cell? ⟨b5, 2, none⟩ = some (.slice A nl c)) (hh : CV w 40 #[.slice A1 n1 c1, .int .i64 sl] (.bool false)) (hi' : CV w 31 #[.int .i64 dy, .int .i64 lo, .int .i64 hi] (.bool true)) (hl' : ¬ la ≤ dy) : OpOk Try.prog opsMy2 (wordsMy2 b5 b11 A A1 nl c n1 c1 o t la sl dy src mn lo hi sk) 46 a w 21 := by
  refine OpOk.gen rfl (fun a1 w1 H => ?_)
  have d19 : a1.eval (.tmp 36) = .bool false := H.dep 19 36 rfl (by kernel_rfl)
  refine gd_false rfl d19 (by decide) ?_
  trivial
set_option maxRecDepth 10000 in
theorem okMy2_22 {b5 b11 : Nat} {A A1 : Option Addr} {nl c n1 c1 : Nat} {o t la sl dy src mn lo hi sk : Int} {a : Act} {w : World} (t1 : a.eval (.tmp 1) = .slice A1 n1 c1) (t2 : a.eval (.tmp 2) = .int .i64 la) (t3 : a.eval (.tmp 3) = .int .i64 sl) (t4 : a.eval (.tmp 4) = .int .i64 dy) (t5 : a.eval (.tmp 5) = .pointer (some ⟨b5, 0, none⟩)) (t11 : a.eval (.tmp 11) = .pointer (some ⟨b11, 0, none⟩)) (m0 : w.cell? ⟨b11, 0, none⟩ = some (.int .i64 src)) (m2 : w.cell? ⟨b11, 2, none⟩ = some (.int .i64 mn)) (m3 : w.cell? ⟨b11, 3, none⟩ = some (.int .i64 lo)) (m4 : w.cell? ⟨b11, 4, none⟩ = some (.int .i64 hi)) (q0 : w.cell? ⟨b5, 0, none⟩ = some (.int .i64 o)) (q1 : w.cell? ⟨b5, 1, none⟩ = some (.int .i64 t)) (q2 : w.cell? ⟨b5, 2, none⟩ = some (.slice A nl c)) (hh : CV w 40 #[.slice A1 n1 c1, .int .i64 sl] (.bool false)) (hi' : CV w 31 #[.int .i64 dy, .int .i64 lo, .int .i64 hi] (.bool true)) (hl' : ¬ la ≤ dy) : OpOk Try.prog opsMy2 (wordsMy2 b5 b11 A A1 nl c n1 c1 o t la sl dy src mn lo hi sk) 46 a w 22 := by
  refine OpOk.gen rfl (fun a1 w1 H => ?_)
  have d19 : a1.eval (.tmp 36) = .bool false := H.dep 19 36 rfl (by kernel_rfl)
  refine gd_false rfl d19 (by decide) ?_
  trivial
set_option maxRecDepth 10000 in
theorem okMy2_23 {b5 b11 : Nat} {A A1 : Option Addr} {nl c n1 c1 : Nat} {o t la sl dy src mn lo hi sk : Int} {a : Act} {w : World} (t1 : a.eval (.tmp 1) = .slice A1 n1 c1) (t2 : a.eval (.tmp 2) = .int .i64 la) (t3 : a.eval (.tmp 3) = .int .i64 sl) (t4 : a.eval (.tmp 4) = .int .i64 dy) (t5 : a.eval (.tmp 5) = .pointer (some ⟨b5, 0, none⟩)) (t11 : a.eval (.tmp 11) = .pointer (some ⟨b11, 0, none⟩)) (m0 : w.cell? ⟨b11, 0, none⟩ = some (.int .i64 src)) (m2 : w.cell? ⟨b11, 2, none⟩ = some (.int .i64 mn)) (m3 : w.cell? ⟨b11, 3, none⟩ = some (.int .i64 lo)) (m4 : w.cell? ⟨b11, 4, none⟩ = some (.int .i64 hi)) (q0 : w.cell? ⟨b5, 0, none⟩ = some (.int .i64 o)) (q1 : w.cell? ⟨b5, 1, none⟩ = some (.int .i64 t)) (q2 : w.cell? ⟨b5, 2, none⟩ = some (.slice A nl c)) (hh : CV w 40 #[.slice A1 n1 c1, .int .i64 sl] (.bool false)) (hi' : CV w 31 #[.int .i64 dy, .int .i64 lo, .int .i64 hi] (.bool true)) (hl' : ¬ la ≤ dy) : OpOk Try.prog opsMy2 (wordsMy2 b5 b11 A A1 nl c n1 c1 o t la sl dy src mn lo hi sk) 46 a w 23 := by
  refine OpOk.gen rfl (fun a1 w1 H => ?_)
  have d19 : a1.eval (.tmp 36) = .bool false := H.dep 19 36 rfl (by kernel_rfl)
  refine gd_false rfl d19 (by decide) ?_
  trivial
set_option maxRecDepth 10000 in
theorem okMy2_24 {b5 b11 : Nat} {A A1 : Option Addr} {nl c n1 c1 : Nat} {o t la sl dy src mn lo hi sk : Int} {a : Act} {w : World} (t1 : a.eval (.tmp 1) = .slice A1 n1 c1) (t2 : a.eval (.tmp 2) = .int .i64 la) (t3 : a.eval (.tmp 3) = .int .i64 sl) (t4 : a.eval (.tmp 4) = .int .i64 dy) (t5 : a.eval (.tmp 5) = .pointer (some ⟨b5, 0, none⟩)) (t11 : a.eval (.tmp 11) = .pointer (some ⟨b11, 0, none⟩)) (m0 : w.cell? ⟨b11, 0, none⟩ = some (.int .i64 src)) (m2 : w.cell? ⟨b11, 2, none⟩ = some (.int .i64 mn)) (m3 : w.cell? ⟨b11, 3, none⟩ = some (.int .i64 lo)) (m4 : w.cell? ⟨b11, 4, none⟩ = some (.int .i64 hi)) (q0 : w.cell? ⟨b5, 0, none⟩ = some (.int .i64 o)) (q1 : w.cell? ⟨b5, 1, none⟩ = some (.int .i64 t)) (q2 : w.cell? ⟨b5, 2, none⟩ = some (.slice A nl c)) (hh : CV w 40 #[.slice A1 n1 c1, .int .i64 sl] (.bool false)) (hi' : CV w 31 #[.int .i64 dy, .int .i64 lo, .int .i64 hi] (.bool true)) (hl' : ¬ la ≤ dy) : OpOk Try.prog opsMy2 (wordsMy2 b5 b11 A A1 nl c n1 c1 o t la sl dy src mn lo hi sk) 46 a w 24 := by
  refine OpOk.gen rfl (fun a1 w1 H => ?_)
  have d19 : a1.eval (.tmp 36) = .bool false := H.dep 19 36 rfl (by kernel_rfl)
  refine gd_false rfl d19 (by decide) ?_
  trivial
set_option maxRecDepth 10000 in
theorem okMy2_25 {b5 b11 : Nat} {A A1 : Option Addr} {nl c n1 c1 : Nat} {o t la sl dy src mn lo hi sk : Int} {a : Act} {w : World} (t1 : a.eval (.tmp 1) = .slice A1 n1 c1) (t2 : a.eval (.tmp 2) = .int .i64 la) (t3 : a.eval (.tmp 3) = .int .i64 sl) (t4 : a.eval (.tmp 4) = .int .i64 dy) (t5 : a.eval (.tmp 5) = .pointer (some ⟨b5, 0, none⟩)) (t11 : a.eval (.tmp 11) = .pointer (some ⟨b11, 0, none⟩)) (m0 : w.cell? ⟨b11, 0, none⟩ = some (.int .i64 src)) (m2 : w.cell? ⟨b11, 2, none⟩ = some (.int .i64 mn)) (m3 : w.cell? ⟨b11, 3, none⟩ = some (.int .i64 lo)) (m4 : w.cell? ⟨b11, 4, none⟩ = some (.int .i64 hi)) (q0 : w.cell? ⟨b5, 0, none⟩ = some (.int .i64 o)) (q1 : w.cell? ⟨b5, 1, none⟩ = some (.int .i64 t)) (q2 : w.cell? ⟨b5, 2, none⟩ = some (.slice A nl c)) (hh : CV w 40 #[.slice A1 n1 c1, .int .i64 sl] (.bool false)) (hi' : CV w 31 #[.int .i64 dy, .int .i64 lo, .int .i64 hi] (.bool true)) (hl' : ¬ la ≤ dy) : OpOk Try.prog opsMy2 (wordsMy2 b5 b11 A A1 nl c n1 c1 o t la sl dy src mn lo hi sk) 46 a w 25 := by
  refine OpOk.gen rfl (fun a1 w1 H => ?_)
  have d19 : a1.eval (.tmp 36) = .bool false := H.dep 19 36 rfl (by kernel_rfl)
  refine gd_false rfl d19 (by decide) ?_
  trivial
set_option maxRecDepth 10000 in
theorem okMy2_26 {b5 b11 : Nat} {A A1 : Option Addr} {nl c n1 c1 : Nat} {o t la sl dy src mn lo hi sk : Int} {a : Act} {w : World} (t1 : a.eval (.tmp 1) = .slice A1 n1 c1) (t2 : a.eval (.tmp 2) = .int .i64 la) (t3 : a.eval (.tmp 3) = .int .i64 sl) (t4 : a.eval (.tmp 4) = .int .i64 dy) (t5 : a.eval (.tmp 5) = .pointer (some ⟨b5, 0, none⟩)) (t11 : a.eval (.tmp 11) = .pointer (some ⟨b11, 0, none⟩)) (m0 : w.cell? ⟨b11, 0, none⟩ = some (.int .i64 src)) (m2 : w.cell? ⟨b11, 2, none⟩ = some (.int .i64 mn)) (m3 : w.cell? ⟨b11, 3, none⟩ = some (.int .i64 lo)) (m4 : w.cell? ⟨b11, 4, none⟩ = some (.int .i64 hi)) (q0 : w.cell? ⟨b5, 0, none⟩ = some (.int .i64 o)) (q1 : w.cell? ⟨b5, 1, none⟩ = some (.int .i64 t)) (q2 : w.cell? ⟨b5, 2, none⟩ = some (.slice A nl c)) (hh : CV w 40 #[.slice A1 n1 c1, .int .i64 sl] (.bool false)) (hi' : CV w 31 #[.int .i64 dy, .int .i64 lo, .int .i64 hi] (.bool true)) (hl' : ¬ la ≤ dy) : OpOk Try.prog opsMy2 (wordsMy2 b5 b11 A A1 nl c n1 c1 o t la sl dy src mn lo hi sk) 46 a w 26 := by
  refine OpOk.gen rfl (fun a1 w1 H => ?_)
  have d19 : a1.eval (.tmp 36) = .bool false := H.dep 19 36 rfl (by kernel_rfl)
  refine gd_false rfl d19 (by decide) ?_
  trivial
set_option maxRecDepth 10000 in
theorem okMy2_27 {b5 b11 : Nat} {A A1 : Option Addr} {nl c n1 c1 : Nat} {o t la sl dy src mn lo hi sk : Int} {a : Act} {w : World} (t1 : a.eval (.tmp 1) = .slice A1 n1 c1) (t2 : a.eval (.tmp 2) = .int .i64 la) (t3 : a.eval (.tmp 3) = .int .i64 sl) (t4 : a.eval (.tmp 4) = .int .i64 dy) (t5 : a.eval (.tmp 5) = .pointer (some ⟨b5, 0, none⟩)) (t11 : a.eval (.tmp 11) = .pointer (some ⟨b11, 0, none⟩)) (m0 : w.cell? ⟨b11, 0, none⟩ = some (.int .i64 src)) (m2 : w.cell? ⟨b11, 2, none⟩ = some (.int .i64 mn)) (m3 : w.cell? ⟨b11, 3, none⟩ = some (.int .i64 lo)) (m4 : w.cell? ⟨b11, 4, none⟩ = some (.int .i64 hi)) (q0 : w.cell? ⟨b5, 0, none⟩ = some (.int .i64 o)) (q1 : w.cell? ⟨b5, 1, none⟩ = some (.int .i64 t)) (q2 : w.cell? ⟨b5, 2, none⟩ = some (.slice A nl c)) (hh : CV w 40 #[.slice A1 n1 c1, .int .i64 sl] (.bool false)) (hi' : CV w 31 #[.int .i64 dy, .int .i64 lo, .int .i64 hi] (.bool true)) (hl' : ¬ la ≤ dy) : OpOk Try.prog opsMy2 (wordsMy2 b5 b11 A A1 nl c n1 c1 o t la sl dy src mn lo hi sk) 46 a w 27 := by
  refine OpOk.gen rfl (fun a1 w1 H => ?_)
  have d19 : a1.eval (.tmp 36) = .bool false := H.dep 19 36 rfl (by kernel_rfl)
  refine gd_false rfl d19 (by decide) ?_
  trivial
set_option maxRecDepth 10000 in
theorem okMy2_28 {b5 b11 : Nat} {A A1 : Option Addr} {nl c n1 c1 : Nat} {o t la sl dy src mn lo hi sk : Int} {a : Act} {w : World} (t1 : a.eval (.tmp 1) = .slice A1 n1 c1) (t2 : a.eval (.tmp 2) = .int .i64 la) (t3 : a.eval (.tmp 3) = .int .i64 sl) (t4 : a.eval (.tmp 4) = .int .i64 dy) (t5 : a.eval (.tmp 5) = .pointer (some ⟨b5, 0, none⟩)) (t11 : a.eval (.tmp 11) = .pointer (some ⟨b11, 0, none⟩)) (m0 : w.cell? ⟨b11, 0, none⟩ = some (.int .i64 src)) (m2 : w.cell? ⟨b11, 2, none⟩ = some (.int .i64 mn)) (m3 : w.cell? ⟨b11, 3, none⟩ = some (.int .i64 lo)) (m4 : w.cell? ⟨b11, 4, none⟩ = some (.int .i64 hi)) (q0 : w.cell? ⟨b5, 0, none⟩ = some (.int .i64 o)) (q1 : w.cell? ⟨b5, 1, none⟩ = some (.int .i64 t)) (q2 : w.cell? ⟨b5, 2, none⟩ = some (.slice A nl c)) (hh : CV w 40 #[.slice A1 n1 c1, .int .i64 sl] (.bool false)) (hi' : CV w 31 #[.int .i64 dy, .int .i64 lo, .int .i64 hi] (.bool true)) (hl' : ¬ la ≤ dy) : OpOk Try.prog opsMy2 (wordsMy2 b5 b11 A A1 nl c n1 c1 o t la sl dy src mn lo hi sk) 46 a w 28 := by
  refine OpOk.gen rfl (fun a1 w1 H => ?_)
  have d19 : a1.eval (.tmp 36) = .bool false := H.dep 19 36 rfl (by kernel_rfl)
  refine gd_none ?_
  exact OpW.pick (b := false) d19 rfl
set_option maxRecDepth 10000 in
theorem okMy2_29 {b5 b11 : Nat} {A A1 : Option Addr} {nl c n1 c1 : Nat} {o t la sl dy src mn lo hi sk : Int} {a : Act} {w : World} (t1 : a.eval (.tmp 1) = .slice A1 n1 c1) (t2 : a.eval (.tmp 2) = .int .i64 la) (t3 : a.eval (.tmp 3) = .int .i64 sl) (t4 : a.eval (.tmp 4) = .int .i64 dy) (t5 : a.eval (.tmp 5) = .pointer (some ⟨b5, 0, none⟩)) (t11 : a.eval (.tmp 11) = .pointer (some ⟨b11, 0, none⟩)) (m0 : w.cell? ⟨b11, 0, none⟩ = some (.int .i64 src)) (m2 : w.cell? ⟨b11, 2, none⟩ = some (.int .i64 mn)) (m3 : w.cell? ⟨b11, 3, none⟩ = some (.int .i64 lo)) (m4 : w.cell? ⟨b11, 4, none⟩ = some (.int .i64 hi)) (q0 : w.cell? ⟨b5, 0, none⟩ = some (.int .i64 o)) (q1 : w.cell? ⟨b5, 1, none⟩ = some (.int .i64 t)) (q2 : w.cell? ⟨b5, 2, none⟩ = some (.slice A nl c)) (hh : CV w 40 #[.slice A1 n1 c1, .int .i64 sl] (.bool false)) (hi' : CV w 31 #[.int .i64 dy, .int .i64 lo, .int .i64 hi] (.bool true)) (hl' : ¬ la ≤ dy) : OpOk Try.prog opsMy2 (wordsMy2 b5 b11 A A1 nl c n1 c1 o t la sl dy src mn lo hi sk) 46 a w 29 := by
  refine OpOk.gen rfl (fun a1 w1 H => ?_)
  have d28 : a1.eval (.tmp 45) = .bool false := H.dep 28 45 rfl (by kernel_rfl)
  refine gd_none ?_
  exact OpW.assign d28 rfl
set_option maxRecDepth 10000 in
theorem regionMy2 {F : Fence} {n : Nat} (hF : WideF F Try.prog) {Q : Exit → Act → World → Prop} {b5 b11 : Nat} {A A1 : Option Addr} {nl c n1 c1 : Nat} {o t la sl dy src mn lo hi sk : Int} {a : Act} {w : World} (hsz : a.tmps.size = 46)
    (t1 : a.eval (.tmp 1) = .slice A1 n1 c1) (t2 : a.eval (.tmp 2) = .int .i64 la) (t3 : a.eval (.tmp 3) = .int .i64 sl) (t4 : a.eval (.tmp 4) = .int .i64 dy) (t5 : a.eval (.tmp 5) = .pointer (some ⟨b5, 0, none⟩)) (t11 : a.eval (.tmp 11) = .pointer (some ⟨b11, 0, none⟩)) (m0 : w.cell? ⟨b11, 0, none⟩ = some (.int .i64 src)) (m2 : w.cell? ⟨b11, 2, none⟩ = some (.int .i64 mn)) (m3 : w.cell? ⟨b11, 3, none⟩ = some (.int .i64 lo)) (m4 : w.cell? ⟨b11, 4, none⟩ = some (.int .i64 hi)) (q0 : w.cell? ⟨b5, 0, none⟩ = some (.int .i64 o)) (q1 : w.cell? ⟨b5, 1, none⟩ = some (.int .i64 t)) (q2 : w.cell? ⟨b5, 2, none⟩ = some (.slice A nl c)) (hh : CV w 40 #[.slice A1 n1 c1, .int .i64 sl] (.bool false)) (hi' : CV w 31 #[.int .i64 dy, .int .i64 lo, .int .i64 hi] (.bool true)) (hl' : ¬ la ≤ dy)
    (hK : ∀ (a' : Act) (w' : World), a'.tmps.size = 46 → a'.defers = a.defers → Below w.heap.size w w' → (∀ e, ndstB opsMy2 e = true → a'.eval (.tmp e) = a.eval (.tmp e)) → (∀ (j d : Nat), (opsMy2[j]?).bind (·.dst) = some d → (wordsMy2 b5 b11 A A1 nl c n1 c1 o t la sl dy src mn lo hi sk).at_ j (a'.eval (.tmp d)) w') → Q .normal a' w') :
    (Code.region 2 opsMy2 true).wpIn F n Try.prog Q a w := by
  refine region_S (wordsMy2 b5 b11 A A1 nl c n1 c1 o t la sl dy src mn lo hi sk) 46 hF (by kernel_rfl) Try.mixed (by kernel_rfl) (by kernel_rfl) ?_ hsz 30 (by kernel_rfl) ?_ hK
  · exact ⟨(fun _ _ _ h _ => h), (fun _ _ _ h _ => h), (fun _ _ _ h _ => h), (fun _ _ _ h _ => h), (fun _ _ _ h _ => h), (fun _ _ _ h _ => h), (fun _ _ _ h _ => h), (fun _ _ _ h _ => h), (fun _ _ _ h _ => h), (fun _ _ _ h _ => h), (fun _ _ _ h _ => h), (fun _ _ _ h _ => h), (fun _ _ _ h _ => h), (fun _ _ _ h _ => h), (fun _ _ _ h _ => h), (fun _ _ _ h _ => h), (fun _ _ _ h _ => h), (fun _ _ _ h _ => h), (fun _ _ _ h _ => h), (fun _ _ _ h _ => h), (fun _ _ _ _ _ => trivial), (fun _ _ _ _ _ => trivial), (fun _ _ _ _ _ => trivial), (fun _ _ _ _ _ => trivial), (fun _ _ _ _ _ => trivial), (fun _ _ _ _ _ => trivial), (fun _ _ _ _ _ => trivial), (fun _ _ _ _ _ => trivial), (fun _ _ _ h _ => h), (fun _ _ _ h _ => h), trivial⟩
  · exact ⟨⟨⟨⟨⟨⟨⟨⟨⟨⟨⟨⟨⟨⟨⟨⟨⟨⟨⟨⟨⟨⟨⟨⟨⟨⟨⟨⟨⟨⟨trivial, okMy2_0 t1 t2 t3 t4 t5 t11 m0 m2 m3 m4 q0 q1 q2 hh.drew hi'.drew hl'⟩, okMy2_1 t1 t2 t3 t4 t5 t11 m0 m2 m3 m4 q0 q1 q2 hh.drew hi'.drew hl'⟩, okMy2_2 t1 t2 t3 t4 t5 t11 m0 m2 m3 m4 q0 q1 q2 hh.drew hi'.drew hl'⟩, okMy2_3 t1 t2 t3 t4 t5 t11 m0 m2 m3 m4 q0 q1 q2 hh.drew hi'.drew hl'⟩, okMy2_4 t1 t2 t3 t4 t5 t11 m0 m2 m3 m4 q0 q1 q2 hh.drew hi'.drew hl'⟩, okMy2_5 t1 t2 t3 t4 t5 t11 m0 m2 m3 m4 q0 q1 q2 hh.drew hi'.drew hl'⟩, okMy2_6 t1 t2 t3 t4 t5 t11 m0 m2 m3 m4 q0 q1 q2 hh.drew hi'.drew hl'⟩, okMy2_7 t1 t2 t3 t4 t5 t11 m0 m2 m3 m4 q0 q1 q2 hh.drew hi'.drew hl'⟩, okMy2_8 t1 t2 t3 t4 t5 t11 m0 m2 m3 m4 q0 q1 q2 hh.drew hi'.drew hl'⟩, okMy2_9 t1 t2 t3 t4 t5 t11 m0 m2 m3 m4 q0 q1 q2 hh.drew hi'.drew hl'⟩, okMy2_10 t1 t2 t3 t4 t5 t11 m0 m2 m3 m4 q0 q1 q2 hh.drew hi'.drew hl'⟩, okMy2_11 t1 t2 t3 t4 t5 t11 m0 m2 m3 m4 q0 q1 q2 hh.drew hi'.drew hl'⟩, okMy2_12 t1 t2 t3 t4 t5 t11 m0 m2 m3 m4 q0 q1 q2 hh.drew hi'.drew hl'⟩, okMy2_13 t1 t2 t3 t4 t5 t11 m0 m2 m3 m4 q0 q1 q2 hh.drew hi'.drew hl'⟩, okMy2_14 t1 t2 t3 t4 t5 t11 m0 m2 m3 m4 q0 q1 q2 hh.drew hi'.drew hl'⟩, okMy2_15 t1 t2 t3 t4 t5 t11 m0 m2 m3 m4 q0 q1 q2 hh.drew hi'.drew hl'⟩, okMy2_16 t1 t2 t3 t4 t5 t11 m0 m2 m3 m4 q0 q1 q2 hh.drew hi'.drew hl'⟩, okMy2_17 t1 t2 t3 t4 t5 t11 m0 m2 m3 m4 q0 q1 q2 hh.drew hi'.drew hl'⟩, okMy2_18 t1 t2 t3 t4 t5 t11 m0 m2 m3 m4 q0 q1 q2 hh.drew hi'.drew hl'⟩, okMy2_19 t1 t2 t3 t4 t5 t11 m0 m2 m3 m4 q0 q1 q2 hh.drew hi'.drew hl'⟩, okMy2_20 t1 t2 t3 t4 t5 t11 m0 m2 m3 m4 q0 q1 q2 hh.drew hi'.drew hl'⟩, okMy2_21 t1 t2 t3 t4 t5 t11 m0 m2 m3 m4 q0 q1 q2 hh.drew hi'.drew hl'⟩, okMy2_22 t1 t2 t3 t4 t5 t11 m0 m2 m3 m4 q0 q1 q2 hh.drew hi'.drew hl'⟩, okMy2_23 t1 t2 t3 t4 t5 t11 m0 m2 m3 m4 q0 q1 q2 hh.drew hi'.drew hl'⟩, okMy2_24 t1 t2 t3 t4 t5 t11 m0 m2 m3 m4 q0 q1 q2 hh.drew hi'.drew hl'⟩, okMy2_25 t1 t2 t3 t4 t5 t11 m0 m2 m3 m4 q0 q1 q2 hh.drew hi'.drew hl'⟩, okMy2_26 t1 t2 t3 t4 t5 t11 m0 m2 m3 m4 q0 q1 q2 hh.drew hi'.drew hl'⟩, okMy2_27 t1 t2 t3 t4 t5 t11 m0 m2 m3 m4 q0 q1 q2 hh.drew hi'.drew hl'⟩, okMy2_28 t1 t2 t3 t4 t5 t11 m0 m2 m3 m4 q0 q1 q2 hh.drew hi'.drew hl'⟩, okMy2_29 t1 t2 t3 t4 t5 t11 m0 m2 m3 m4 q0 q1 q2 hh.drew hi'.drew hl'⟩
noncomputable def opsMy3 : Array Oper := (Try.f52.body.bind (regionOf 2)).getD #[]
def wordsMy3 (b5 b11 : Nat) (A A1 : Option Addr) (nl c n1 c1 : Nat) (o t la sl dy src mn lo hi sk : Int) : Words := [fun v _ => v = .slice A1 n1 c1, fun v _ => v = .int .i64 sl, fun v _ => v = .bool false, fun v _ => v = .bool true, fun v _ => v = .bool true, fun v _ => v = .int .i64 dy, fun v _ => v = .pointer (some ⟨b11, 3, none⟩), fun v _ => v = .pointer (some ⟨b11, 3, none⟩), fun v _ => v = .int .i64 lo, fun v _ => v = .pointer (some ⟨b11, 3, none⟩), fun v _ => v = .pointer (some ⟨b11, 4, none⟩), fun v _ => v = .int .i64 hi, fun v _ => v = .bool true, fun v _ => v = .bool true, fun v _ => v = .bool true, fun v _ => v = .int .i64 dy, fun v _ => v = .int .i64 la, fun v _ => v = .bool true, fun v _ => v = .bool true, fun v _ => v = .bool true, fun v _ => v = .agg #[.int .i64 o, .int .i64 t, .slice A nl c], fun v _ => v = .slice A1 n1 c1, fun v _ => v = .pointer (some ⟨b11, 0, none⟩), fun v _ => v = .int .i64 src, fun v _ => v = .int .i64 sk, fun v _ => v = .pointer (some ⟨b11, 2, none⟩), fun v _ => v = .int .i64 mn, fun v _ => v = .bool (decide (mn ≤ sk)), fun v _ => v = .bool (decide (mn ≤ sk)), fun v _ => v = .bool (decide (mn ≤ sk))]
set_option maxRecDepth 10000 in
theorem okMy3_0 {b5 b11 : Nat} {A A1 : Option Addr} {nl c n1 c1 : Nat} {o t la sl dy src mn lo hi sk : Int} {a : Act} {w : World} (t1 : a.eval (.tmp 1) = .slice A1 n1 c1) (t2 : a.eval (.tmp 2) = .int .i64 la) (t3 : a.eval (.tmp 3) = .int .i64 sl) (t4 : a.eval (.tmp 4) = .int .i64 dy) (t5 : a.eval (.tmp 5) = .pointer (some ⟨b5, 0, none⟩)) (t11 : a.eval (.tmp 11) = .pointer (some ⟨b11, 0, none⟩)) (m0 : w.cell? ⟨b11, 0, none⟩ = some (.int .i64 src)) (m2 : w.cell? ⟨b11, 2, none⟩ = some (.int .i64 mn)) (m3 : w.cell? ⟨b11, 3, none⟩ = some (.int .i64 lo)) (m4 : w.cell? ⟨b11, 4, none⟩ = some (.int .i64 hi)) (q0 : w.cell? ⟨b5, 0, none⟩ = some (.int .i64 o)) (q1 : w.cell? ⟨b5, 1, none⟩ = some (.int .i64 t)) (q2 : w.cell? ⟨b5, 2, none⟩ = some (.slice A nl c)) (hh : CV w 40 #[.slice A1 n1 c1, .int .i64 sl] (.bool false)) (hi' : CV w 31 #[.int .i64 dy, .int .i64 lo, .int .i64 hi] (.bool true)) (hl' : la ≤ dy) (hs' : CV w 69 #[.agg #[.int .i64 o, .int .i64 t, .slice A nl c], .slice A1 n1 c1, .int .i64 src] (.int .i64 sk)) : OpOk Try.prog opsMy3 (wordsMy3 b5 b11 A A1 nl c n1 c1 o t la sl dy src mn lo hi sk) 46 a w 0 := by
  refine OpOk.gen rfl (fun a1 w1 H => ?_)
  have e1 : a1.eval (.tmp 1) = .slice A1 n1 c1 := (H.out 1 (by kernel_rfl)).trans t1
  refine gd_none ?_
  exact OpW.move e1 rfl
set_option maxRecDepth 10000 in
theorem okMy3_1 {b5 b11 : Nat} {A A1 : Option Addr} {nl c n1 c1 : Nat} {o t la sl dy src mn lo hi sk : Int} {a : Act} {w : World} (t1 : a.eval (.tmp 1) = .slice A1 n1 c1) (t2 : a.eval (.tmp 2) = .int .i64 la) (t3 : a.eval (.tmp 3) = .int .i64 sl) (t4 : a.eval (.tmp 4) = .int .i64 dy) (t5 : a.eval (.tmp 5) = .pointer (some ⟨b5, 0, none⟩)) (t11 : a.eval (.tmp 11) = .pointer (some ⟨b11, 0, none⟩)) (m0 : w.cell? ⟨b11, 0, none⟩ = some (.int .i64 src)) (m2 : w.cell? ⟨b11, 2, none⟩ = some (.int .i64 mn)) (m3 : w.cell? ⟨b11, 3, none⟩ = some (.int .i64 lo)) (m4 : w.cell? ⟨b11, 4, none⟩ = some (.int .i64 hi)) (q0 : w.cell? ⟨b5, 0, none⟩ = some (.int .i64 o)) (q1 : w.cell? ⟨b5, 1, none⟩ = some (.int .i64 t)) (q2 : w.cell? ⟨b5, 2, none⟩ = some (.slice A nl c)) (hh : CV w 40 #[.slice A1 n1 c1, .int .i64 sl] (.bool false)) (hi' : CV w 31 #[.int .i64 dy, .int .i64 lo, .int .i64 hi] (.bool true)) (hl' : la ≤ dy) (hs' : CV w 69 #[.agg #[.int .i64 o, .int .i64 t, .slice A nl c], .slice A1 n1 c1, .int .i64 src] (.int .i64 sk)) : OpOk Try.prog opsMy3 (wordsMy3 b5 b11 A A1 nl c n1 c1 o t la sl dy src mn lo hi sk) 46 a w 1 := by
  refine OpOk.gen rfl (fun a1 w1 H => ?_)
  have e3 : a1.eval (.tmp 3) = .int .i64 sl := (H.out 3 (by kernel_rfl)).trans t3
  refine gd_none ?_
  exact OpW.move e3 rfl
set_option maxRecDepth 10000 in
theorem okMy3_2 {b5 b11 : Nat} {A A1 : Option Addr} {nl c n1 c1 : Nat} {o t la sl dy src mn lo hi sk : Int} {a : Act} {w : World} (t1 : a.eval (.tmp 1) = .slice A1 n1 c1) (t2 : a.eval (.tmp 2) = .int .i64 la) (t3 : a.eval (.tmp 3) = .int .i64 sl) (t4 : a.eval (.tmp 4) = .int .i64 dy) (t5 : a.eval (.tmp 5) = .pointer (some ⟨b5, 0, none⟩)) (t11 : a.eval (.tmp 11) = .pointer (some ⟨b11, 0, none⟩)) (m0 : w.cell? ⟨b11, 0, none⟩ = some (.int .i64 src)) (m2 : w.cell? ⟨b11, 2, none⟩ = some (.int .i64 mn)) (m3 : w.cell? ⟨b11, 3, none⟩ = some (.int .i64 lo)) (m4 : w.cell? ⟨b11, 4, none⟩ = some (.int .i64 hi)) (q0 : w.cell? ⟨b5, 0, none⟩ = some (.int .i64 o)) (q1 : w.cell? ⟨b5, 1, none⟩ = some (.int .i64 t)) (q2 : w.cell? ⟨b5, 2, none⟩ = some (.slice A nl c)) (hh : CV w 40 #[.slice A1 n1 c1, .int .i64 sl] (.bool false)) (hi' : CV w 31 #[.int .i64 dy, .int .i64 lo, .int .i64 hi] (.bool true)) (hl' : la ≤ dy) (hs' : CV w 69 #[.agg #[.int .i64 o, .int .i64 t, .slice A nl c], .slice A1 n1 c1, .int .i64 src] (.int .i64 sk)) : OpOk Try.prog opsMy3 (wordsMy3 b5 b11 A A1 nl c n1 c1 o t la sl dy src mn lo hi sk) 46 a w 2 := by
  refine OpOk.gen rfl (fun a1 w1 H => ?_)
  have d0 : a1.eval (.tmp 17) = .slice A1 n1 c1 := H.dep 0 17 rfl (by kernel_rfl)
  have d1 : a1.eval (.tmp 18) = .int .i64 sl := H.dep 1 18 rfl (by kernel_rfl)
  refine gd_none ?_
  exact OpW.call (vs := #[.slice A1 n1 c1, .int .i64 sl]) (enters_of Try.func40 (by kernel_rfl) rfl) (by simp [d0, d1]) (hh w1 H.low)
set_option maxRecDepth 10000 in
theorem okMy3_3 {b5 b11 : Nat} {A A1 : Option Addr} {nl c n1 c1 : Nat} {o t la sl dy src mn lo hi sk : Int} {a : Act} {w : World} (t1 : a.eval (.tmp 1) = .slice A1 n1 c1) (t2 : a.eval (.tmp 2) = .int .i64 la) (t3 : a.eval (.tmp 3) = .int .i64 sl) (t4 : a.eval (.tmp 4) = .int .i64 dy) (t5 : a.eval (.tmp 5) = .pointer (some ⟨b5, 0, none⟩)) (t11 : a.eval (.tmp 11) = .pointer (some ⟨b11, 0, none⟩)) (m0 : w.cell? ⟨b11, 0, none⟩ = some (.int .i64 src)) (m2 : w.cell? ⟨b11, 2, none⟩ = some (.int .i64 mn)) (m3 : w.cell? ⟨b11, 3, none⟩ = some (.int .i64 lo)) (m4 : w.cell? ⟨b11, 4, none⟩ = some (.int .i64 hi)) (q0 : w.cell? ⟨b5, 0, none⟩ = some (.int .i64 o)) (q1 : w.cell? ⟨b5, 1, none⟩ = some (.int .i64 t)) (q2 : w.cell? ⟨b5, 2, none⟩ = some (.slice A nl c)) (hh : CV w 40 #[.slice A1 n1 c1, .int .i64 sl] (.bool false)) (hi' : CV w 31 #[.int .i64 dy, .int .i64 lo, .int .i64 hi] (.bool true)) (hl' : la ≤ dy) (hs' : CV w 69 #[.agg #[.int .i64 o, .int .i64 t, .slice A nl c], .slice A1 n1 c1, .int .i64 src] (.int .i64 sk)) : OpOk Try.prog opsMy3 (wordsMy3 b5 b11 A A1 nl c n1 c1 o t la sl dy src mn lo hi sk) 46 a w 3 := by
  refine OpOk.gen rfl (fun a1 w1 H => ?_)
  have d2 : a1.eval (.tmp 19) = .bool false := H.dep 2 19 rfl (by kernel_rfl)
  refine gd_none ?_
  exact OpW.un d2 (not4 _ _) rfl
set_option maxRecDepth 10000 in
theorem okMy3_4 {b5 b11 : Nat} {A A1 : Option Addr} {nl c n1 c1 : Nat} {o t la sl dy src mn lo hi sk : Int} {a : Act} {w : World} (t1 : a.eval (.tmp 1) = .slice A1 n1 c1) (t2 : a.eval (.tmp 2) = .int .i64 la) (t3 : a.eval (.tmp 3) = .int .i64 sl) (t4 : a.eval (.tmp 4) = .int .i64 dy) (t5 : a.eval (.tmp 5) = .pointer (some ⟨b5, 0, none⟩)) (t11 : a.eval (.tmp 11) = .pointer (some ⟨b11, 0, none⟩)) (m0 : w.cell? ⟨b11, 0, none⟩ = some (.int .i64 src)) (m2 : w.cell? ⟨b11, 2, none⟩ = some (.int .i64 mn)) (m3 : w.cell? ⟨b11, 3, none⟩ = some (.int .i64 lo)) (m4 : w.cell? ⟨b11, 4, none⟩ = some (.int .i64 hi)) (q0 : w.cell? ⟨b5, 0, none⟩ = some (.int .i64 o)) (q1 : w.cell? ⟨b5, 1, none⟩ = some (.int .i64 t)) (q2 : w.cell? ⟨b5, 2, none⟩ = some (.slice A nl c)) (hh : CV w 40 #[.slice A1 n1 c1, .int .i64 sl] (.bool false)) (hi' : CV w 31 #[.int .i64 dy, .int .i64 lo, .int .i64 hi] (.bool true)) (hl' : la ≤ dy) (hs' : CV w 69 #[.agg #[.int .i64 o, .int .i64 t, .slice A nl c], .slice A1 n1 c1, .int .i64 src] (.int .i64 sk)) : OpOk Try.prog opsMy3 (wordsMy3 b5 b11 A A1 nl c n1 c1 o t la sl dy src mn lo hi sk) 46 a w 4 := by
  refine OpOk.gen rfl (fun a1 w1 H => ?_)
  have d3 : a1.eval (.tmp 20) = .bool true := H.dep 3 20 rfl (by kernel_rfl)
  refine gd_none ?_
  exact OpW.move d3 rfl
set_option maxRecDepth 10000 in
theorem okMy3_5 {b5 b11 : Nat} {A A1 : Option Addr} {nl c n1 c1 : Nat} {o t la sl dy src mn lo hi sk : Int} {a : Act} {w : World} (t1 : a.eval (.tmp 1) = .slice A1 n1 c1) (t2 : a.eval (.tmp 2) = .int .i64 la) (t3 : a.eval (.tmp 3) = .int .i64 sl) (t4 : a.eval (.tmp 4) = .int .i64 dy) (t5 : a.eval (.tmp 5) = .pointer (some ⟨b5, 0, none⟩)) (t11 : a.eval (.tmp 11) = .pointer (some ⟨b11, 0, none⟩)) (m0 : w.cell? ⟨b11, 0, none⟩ = some (.int .i64 src)) (m2 : w.cell? ⟨b11, 2, none⟩ = some (.int .i64 mn)) (m3 : w.cell? ⟨b11, 3, none⟩ = some (.int .i64 lo)) (m4 : w.cell? ⟨b11, 4, none⟩ = some (.int .i64 hi)) (q0 : w.cell? ⟨b5, 0, none⟩ = some (.int .i64 o)) (q1 : w.cell? ⟨b5, 1, none⟩ = some (.int .i64 t)) (q2 : w.cell? ⟨b5, 2, none⟩ = some (.slice A nl c)) (hh : CV w 40 #[.slice A1 n1 c1, .int .i64 sl] (.bool false)) (hi' : CV w 31 #[.int .i64 dy, .int .i64 lo, .int .i64 hi] (.bool true)) (hl' : la ≤ dy) (hs' : CV w 69 #[.agg #[.int .i64 o, .int .i64 t, .slice A nl c], .slice A1 n1 c1, .int .i64 src] (.int .i64 sk)) : OpOk Try.prog opsMy3 (wordsMy3 b5 b11 A A1 nl c n1 c1 o t la sl dy src mn lo hi sk) 46 a w 5 := by
  refine OpOk.gen rfl (fun a1 w1 H => ?_)
  have d4 : a1.eval (.tmp 21) = .bool true := H.dep 4 21 rfl (by kernel_rfl)
  have e4 : a1.eval (.tmp 4) = .int .i64 dy := (H.out 4 (by kernel_rfl)).trans t4
  refine gd_true rfl d4 ?_
  exact OpW.move e4 rfl
set_option maxRecDepth 10000 in
theorem okMy3_6 {b5 b11 : Nat} {A A1 : Option Addr} {nl c n1 c1 : Nat} {o t la sl dy src mn lo hi sk : Int} {a : Act} {w : World} (t1 : a.eval (.tmp 1) = .slice A1 n1 c1) (t2 : a.eval (.tmp 2) = .int .i64 la) (t3 : a.eval (.tmp 3) = .int .i64 sl) (t4 : a.eval (.tmp 4) = .int .i64 dy) (t5 : a.eval (.tmp 5) = .pointer (some ⟨b5, 0, none⟩)) (t11 : a.eval (.tmp 11) = .pointer (some ⟨b11, 0, none⟩)) (m0 : w.cell? ⟨b11, 0, none⟩ = some (.int .i64 src)) (m2 : w.cell? ⟨b11, 2, none⟩ = some (.int .i64 mn)) (m3 : w.cell? ⟨b11, 3, none⟩ = some (.int .i64 lo)) (m4 : w.cell? ⟨b11, 4, none⟩ = some (.int .i64 hi)) (q0 : w.cell? ⟨b5, 0, none⟩ = some (.int .i64 o)) (q1 : w.cell? ⟨b5, 1, none⟩ = some (.int .i64 t)) (q2 : w.cell? ⟨b5, 2, none⟩ = some (.slice A nl c)) (hh : CV w 40 #[.slice A1 n1 c1, .int .i64 sl] (.bool false)) (hi' : CV w 31 #[.int .i64 dy, .int .i64 lo, .int .i64 hi] (.bool true)) (hl' : la ≤ dy) (hs' : CV w 69 #[.agg #[.int .i64 o, .int .i64 t, .slice A nl c], .slice A1 n1 c1, .int .i64 src] (.int .i64 sk)) : OpOk Try.prog opsMy3 (wordsMy3 b5 b11 A A1 nl c n1 c1 o t la sl dy src mn lo hi sk) 46 a w 6 := by
  refine OpOk.gen rfl (fun a1 w1 H => ?_)
  have d4 : a1.eval (.tmp 21) = .bool true := H.dep 4 21 rfl (by kernel_rfl)
  have e11 : a1.eval (.tmp 11) = .pointer (some ⟨b11, 0, none⟩) := (H.out 11 (by kernel_rfl)).trans t11
  refine gd_true rfl d4 ?_
  exact OpW.field e11 (fa73_3 _) rfl
set_option maxRecDepth 10000 in
theorem okMy3_7 {b5 b11 : Nat} {A A1 : Option Addr} {nl c n1 c1 : Nat} {o t la sl dy src mn lo hi sk : Int} {a : Act} {w : World} (t1 : a.eval (.tmp 1) = .slice A1 n1 c1) (t2 : a.eval (.tmp 2) = .int .i64 la) (t3 : a.eval (.tmp 3) = .int .i64 sl) (t4 : a.eval (.tmp 4) = .int .i64 dy) (t5 : a.eval (.tmp 5) = .pointer (some ⟨b5, 0, none⟩)) (t11 : a.eval (.tmp 11) = .pointer (some ⟨b11, 0, none⟩)) (m0 : w.cell? ⟨b11, 0, none⟩ = some (.int .i64 src)) (m2 : w.cell? ⟨b11, 2, none⟩ = some (.int .i64 mn)) (m3 : w.cell? ⟨b11, 3, none⟩ = some (.int .i64 lo)) (m4 : w.cell? ⟨b11, 4, none⟩ = some (.int .i64 hi)) (q0 : w.cell? ⟨b5, 0, none⟩ = some (.int .i64 o)) (q1 : w.cell? ⟨b5, 1, none⟩ = some (.int .i64 t)) (q2 : w.cell? ⟨b5, 2, none⟩ = some (.slice A nl c)) (hh : CV w 40 #[.slice A1 n1 c1, .int .i64 sl] (.bool false)) (hi' : CV w 31 #[.int .i64 dy, .int .i64 lo, .int .i64 hi] (.bool true)) (hl' : la ≤ dy) (hs' : CV w 69 #[.agg #[.int .i64 o, .int .i64 t, .slice A nl c], .slice A1 n1 c1, .int .i64 src] (.int .i64 sk)) : OpOk Try.prog opsMy3 (wordsMy3 b5 b11 A A1 nl c n1 c1 o t la sl dy src mn lo hi sk) 46 a w 7 := by
  refine OpOk.gen rfl (fun a1 w1 H => ?_)
  have d4 : a1.eval (.tmp 21) = .bool true := H.dep 4 21 rfl (by kernel_rfl)
  have d6 : a1.eval (.tmp 23) = .pointer (some ⟨b11, 3, none⟩) := H.dep 6 23 rfl (by kernel_rfl)
  refine gd_true rfl d4 ?_
  exact OpW.field d6 (fa71_0 _) rfl
set_option maxRecDepth 10000 in
theorem okMy3_8 {b5 b11 : Nat} {A A1 : Option Addr} {nl c n1 c1 : Nat} {o t la sl dy src mn lo hi sk : Int} {a : Act} {w : World} (t1 : a.eval (.tmp 1) = .slice A1 n1 c1) (t2 : a.eval (.tmp 2) = .int .i64 la) (t3 : a.eval (.tmp 3) = .int .i64 sl) (t4 : a.eval (.tmp 4) = .int .i64 dy) (t5 : a.eval (.tmp 5) = .pointer (some ⟨b5, 0, none⟩)) (t11 : a.eval (.tmp 11) = .pointer (some ⟨b11, 0, none⟩)) (m0 : w.cell? ⟨b11, 0, none⟩ = some (.int .i64 src)) (m2 : w.cell? ⟨b11, 2, none⟩ = some (.int .i64 mn)) (m3 : w.cell? ⟨b11, 3, none⟩ = some (.int .i64 lo)) (m4 : w.cell? ⟨b11, 4, none⟩ = some (.int .i64 hi)) (q0 : w.cell? ⟨b5, 0, none⟩ = some (.int .i64 o)) (q1 : w.cell? ⟨b5, 1, none⟩ = some (.int .i64 t)) (q2 : w.cell? ⟨b5, 2, none⟩ = some (.slice A nl c)) (hh : CV w 40 #[.slice A1 n1 c1, .int .i64 sl] (.bool false)) (hi' : CV w 31 #[.int .i64 dy, .int .i64 lo, .int .i64 hi] (.bool true)) (hl' : la ≤ dy) (hs' : CV w 69 #[.agg #[.int .i64 o, .int .i64 t, .slice A nl c], .slice A1 n1 c1, .int .i64 src] (.int .i64 sk)) : OpOk Try.prog opsMy3 (wordsMy3 b5 b11 A A1 nl c n1 c1 o t la sl dy src mn lo hi sk) 46 a w 8 := by
  refine OpOk.gen rfl (fun a1 w1 H => ?_)
  have d4 : a1.eval (.tmp 21) = .bool true := H.dep 4 21 rfl (by kernel_rfl)
  have d7 : a1.eval (.tmp 24) = .pointer (some ⟨b11, 3, none⟩) := H.dep 7 24 rfl (by kernel_rfl)
  refine gd_true rfl d4 ?_
  exact OpW.load d7 (ld3 (H.cell m3)) rfl
set_option maxRecDepth 10000 in
theorem okMy3_9 {b5 b11 : Nat} {A A1 : Option Addr} {nl c n1 c1 : Nat} {o t la sl dy src mn lo hi sk : Int} {a : Act} {w : World} (t1 : a.eval (.tmp 1) = .slice A1 n1 c1) (t2 : a.eval (.tmp 2) = .int .i64 la) (t3 : a.eval (.tmp 3) = .int .i64 sl) (t4 : a.eval (.tmp 4) = .int .i64 dy) (t5 : a.eval (.tmp 5) = .pointer (some ⟨b5, 0, none⟩)) (t11 : a.eval (.tmp 11) = .pointer (some ⟨b11, 0, none⟩)) (m0 : w.cell? ⟨b11, 0, none⟩ = some (.int .i64 src)) (m2 : w.cell? ⟨b11, 2, none⟩ = some (.int .i64 mn)) (m3 : w.cell? ⟨b11, 3, none⟩ = some (.int .i64 lo)) (m4 : w.cell? ⟨b11, 4, none⟩ = some (.int .i64 hi)) (q0 : w.cell? ⟨b5, 0, none⟩ = some (.int .i64 o)) (q1 : w.cell? ⟨b5, 1, none⟩ = some (.int .i64 t)) (q2 : w.cell? ⟨b5, 2, none⟩ = some (.slice A nl c)) (hh : CV w 40 #[.slice A1 n1 c1, .int .i64 sl] (.bool false)) (hi' : CV w 31 #[.int .i64 dy, .int .i64 lo, .int .i64 hi] (.bool true)) (hl' : la ≤ dy) (hs' : CV w 69 #[.agg #[.int .i64 o, .int .i64 t, .slice A nl c], .slice A1 n1 c1, .int .i64 src] (.int .i64 sk)) : OpOk Try.prog opsMy3 (wordsMy3 b5 b11 A A1 nl c n1 c1 o t la sl dy src mn lo hi sk) 46 a w 9 := by
  refine OpOk.gen rfl (fun a1 w1 H => ?_)
  have d4 : a1.eval (.tmp 21) = .bool true := H.dep 4 21 rfl (by kernel_rfl)
  have e11 : a1.eval (.tmp 11) = .pointer (some ⟨b11, 0, none⟩) := (H.out 11 (by kernel_rfl)).trans t11
  refine gd_true rfl d4 ?_
  exact OpW.field e11 (fa73_3 _) rfl
set_option maxRecDepth 10000 in
theorem okMy3_10 {b5 b11 : Nat} {A A1 : Option Addr} {nl c n1 c1 : Nat} {o t la sl dy src mn lo hi sk : Int} {a : Act} {w : World} (t1 : a.eval (.tmp 1) = .slice A1 n1 c1) (t2 : a.eval (.tmp 2) = .int .i64 la) (t3 : a.eval (.tmp 3) = .int .i64 sl) (t4 : a.eval (.tmp 4) = .int .i64 dy) (t5 : a.eval (.tmp 5) = .pointer (some ⟨b5, 0, none⟩)) (t11 : a.eval (.tmp 11) = .pointer (some ⟨b11, 0, none⟩)) (m0 : w.cell? ⟨b11, 0, none⟩ = some (.int .i64 src)) (m2 : w.cell? ⟨b11, 2, none⟩ = some (.int .i64 mn)) (m3 : w.cell? ⟨b11, 3, none⟩ = some (.int .i64 lo)) (m4 : w.cell? ⟨b11, 4, none⟩ = some (.int .i64 hi)) (q0 : w.cell? ⟨b5, 0, none⟩ = some (.int .i64 o)) (q1 : w.cell? ⟨b5, 1, none⟩ = some (.int .i64 t)) (q2 : w.cell? ⟨b5, 2, none⟩ = some (.slice A nl c)) (hh : CV w 40 #[.slice A1 n1 c1, .int .i64 sl] (.bool false)) (hi' : CV w 31 #[.int .i64 dy, .int .i64 lo, .int .i64 hi] (.bool true)) (hl' : la ≤ dy) (hs' : CV w 69 #[.agg #[.int .i64 o, .int .i64 t, .slice A nl c], .slice A1 n1 c1, .int .i64 src] (.int .i64 sk)) : OpOk Try.prog opsMy3 (wordsMy3 b5 b11 A A1 nl c n1 c1 o t la sl dy src mn lo hi sk) 46 a w 10 := by
  refine OpOk.gen rfl (fun a1 w1 H => ?_)
  have d4 : a1.eval (.tmp 21) = .bool true := H.dep 4 21 rfl (by kernel_rfl)
  have d9 : a1.eval (.tmp 26) = .pointer (some ⟨b11, 3, none⟩) := H.dep 9 26 rfl (by kernel_rfl)
  refine gd_true rfl d4 ?_
  exact OpW.field d9 (fa71_1 _) rfl
set_option maxRecDepth 10000 in
theorem okMy3_11 {b5 b11 : Nat} {A A1 : Option Addr} {nl c n1 c1 : Nat} {o t la sl dy src mn lo hi sk : Int} {a : Act} {w : World} (t1 : a.eval (.tmp 1) = .slice A1 n1 c1) (t2 : a.eval (.tmp 2) = .int .i64 la) (t3 : a.eval (.tmp 3) = .int .i64 sl) (t4 : a.eval (.tmp 4) = .int .i64 dy) (t5 : a.eval (.tmp 5) = .pointer (some ⟨b5, 0, none⟩)) (t11 : a.eval (.tmp 11) = .pointer (some ⟨b11, 0, none⟩)) (m0 : w.cell? ⟨b11, 0, none⟩ = some (.int .i64 src)) (m2 : w.cell? ⟨b11, 2, none⟩ = some (.int .i64 mn)) (m3 : w.cell? ⟨b11, 3, none⟩ = some (.int .i64 lo)) (m4 : w.cell? ⟨b11, 4, none⟩ = some (.int .i64 hi)) (q0 : w.cell? ⟨b5, 0, none⟩ = some (.int .i64 o)) (q1 : w.cell? ⟨b5, 1, none⟩ = some (.int .i64 t)) (q2 : w.cell? ⟨b5, 2, none⟩ = some (.slice A nl c)) (hh : CV w 40 #[.slice A1 n1 c1, .int .i64 sl] (.bool false)) (hi' : CV w 31 #[.int .i64 dy, .int .i64 lo, .int .i64 hi] (.bool true)) (hl' : la ≤ dy) (hs' : CV w 69 #[.agg #[.int .i64 o, .int .i64 t, .slice A nl c], .slice A1 n1 c1, .int .i64 src] (.int .i64 sk)) : OpOk Try.prog opsMy3 (wordsMy3 b5 b11 A A1 nl c n1 c1 o t la sl dy src mn lo hi sk) 46 a w 11 := by
  refine OpOk.gen rfl (fun a1 w1 H => ?_)
  have d4 : a1.eval (.tmp 21) = .bool true := H.dep 4 21 rfl (by kernel_rfl)
  have d10 : a1.eval (.tmp 27) = .pointer (some ⟨b11, 4, none⟩) := H.dep 10 27 rfl (by kernel_rfl)
  refine gd_true rfl d4 ?_
  exact OpW.load d10 (ld3 (H.cell m4)) rfl
set_option maxRecDepth 10000 in
theorem okMy3_12 {b5 b11 : Nat} {A A1 : Option Addr} {nl c n1 c1 : Nat} {o t la sl dy src mn lo hi sk : Int} {a : Act} {w : World} (t1 : a.eval (.tmp 1) = .slice A1 n1 c1) (t2 : a.eval (.tmp 2) = .int .i64 la) (t3 : a.eval (.tmp 3) = .int .i64 sl) (t4 : a.eval (.tmp 4) = .int .i64 dy) (t5 : a.eval (.tmp 5) = .pointer (some ⟨b5, 0, none⟩)) (t11 : a.eval (.tmp 11) = .pointer (some ⟨b11, 0, none⟩)) (m0 : w.cell? ⟨b11, 0, none⟩ = some (.int .i64 src)) (m2 : w.cell? ⟨b11, 2, none⟩ = some (.int .i64 mn)) (m3 : w.cell? ⟨b11, 3, none⟩ = some (.int .i64 lo)) (m4 : w.cell? ⟨b11, 4, none⟩ = some (.int .i64 hi)) (q0 : w.cell? ⟨b5, 0, none⟩ = some (.int .i64 o)) (q1 : w.cell? ⟨b5, 1, none⟩ = some (.int .i64 t)) (q2 : w.cell? ⟨b5, 2, none⟩ = some (.slice A nl c)) (hh : CV w 40 #[.slice A1 n1 c1, .int .i64 sl] (.bool false)) (hi' : CV w 31 #[.int .i64 dy, .int .i64 lo, .int .i64 hi] (.bool true)) (hl' : la ≤ dy) (hs' : CV w 69 #[.agg #[.int .i64 o, .int .i64 t, .slice A nl c], .slice A1 n1 c1, .int .i64 src] (.int .i64 sk)) : OpOk Try.prog opsMy3 (wordsMy3 b5 b11 A A1 nl c n1 c1 o t la sl dy src mn lo hi sk) 46 a w 12 := by
  refine OpOk.gen rfl (fun a1 w1 H => ?_)
  have d4 : a1.eval (.tmp 21) = .bool true := H.dep 4 21 rfl (by kernel_rfl)
  have d5 : a1.eval (.tmp 22) = .int .i64 dy := H.dep 5 22 rfl (by kernel_rfl)
  have d8 : a1.eval (.tmp 25) = .int .i64 lo := H.dep 8 25 rfl (by kernel_rfl)
  have d11 : a1.eval (.tmp 28) = .int .i64 hi := H.dep 11 28 rfl (by kernel_rfl)
  refine gd_true rfl d4 ?_
  exact OpW.call (vs := #[.int .i64 dy, .int .i64 lo, .int .i64 hi]) (enters_of Try.func31 (by kernel_rfl) rfl) (by simp [d5, d8, d11]) (hi' w1 H.low)
set_option maxRecDepth 10000 in
theorem okMy3_13 {b5 b11 : Nat} {A A1 : Option Addr} {nl c n1 c1 : Nat} {o t la sl dy src mn lo hi sk : Int} {a : Act} {w : World} (t1 : a.eval (.tmp 1) = .slice A1 n1 c1) (t2 : a.eval (.tmp 2) = .int .i64 la) (t3 : a.eval (.tmp 3) = .int .i64 sl) (t4 : a.eval (.tmp 4) = .int .i64 dy) (t5 : a.eval (.tmp 5) = .pointer (some ⟨b5, 0, none⟩)) (t11 : a.eval (.tmp 11) = .pointer (some ⟨b11, 0, none⟩)) (m0 : w.cell? ⟨b11, 0, none⟩ = some (.int .i64 src)) (m2 : w.cell? ⟨b11, 2, none⟩ = some (.int .i64 mn)) (m3 : w.cell? ⟨b11, 3, none⟩ = some (.int .i64 lo)) (m4 : w.cell? ⟨b11, 4, none⟩ = some (.int .i64 hi)) (q0 : w.cell? ⟨b5, 0, none⟩ = some (.int .i64 o)) (q1 : w.cell? ⟨b5, 1, none⟩ = some (.int .i64 t)) (q2 : w.cell? ⟨b5, 2, none⟩ = some (.slice A nl c)) (hh : CV w 40 #[.slice A1 n1 c1, .int .i64 sl] (.bool false)) (hi' : CV w 31 #[.int .i64 dy, .int .i64 lo, .int .i64 hi] (.bool true)) (hl' : la ≤ dy) (hs' : CV w 69 #[.agg #[.int .i64 o, .int .i64 t, .slice A nl c], .slice A1 n1 c1, .int .i64 src] (.int .i64 sk)) : OpOk Try.prog opsMy3 (wordsMy3 b5 b11 A A1 nl c n1 c1 o t la sl dy src mn lo hi sk) 46 a w 13 := by
  refine OpOk.gen rfl (fun a1 w1 H => ?_)
  have d4 : a1.eval (.tmp 21) = .bool true := H.dep 4 21 rfl (by kernel_rfl)
  have d12 : a1.eval (.tmp 29) = .bool true := H.dep 12 29 rfl (by kernel_rfl)
  refine gd_none ?_
  exact OpW.pick (b := true) d4 d12
set_option maxRecDepth 10000 in
theorem okMy3_14 {b5 b11 : Nat} {A A1 : Option Addr} {nl c n1 c1 : Nat} {o t la sl dy src mn lo hi sk : Int} {a : Act} {w : World} (t1 : a.eval (.tmp 1) = .slice A1 n1 c1) (t2 : a.eval (.tmp 2) = .int .i64 la) (t3 : a.eval (.tmp 3) = .int .i64 sl) (t4 : a.eval (.tmp 4) = .int .i64 dy) (t5 : a.eval (.tmp 5) = .pointer (some ⟨b5, 0, none⟩)) (t11 : a.eval (.tmp 11) = .pointer (some ⟨b11, 0, none⟩)) (m0 : w.cell? ⟨b11, 0, none⟩ = some (.int .i64 src)) (m2 : w.cell? ⟨b11, 2, none⟩ = some (.int .i64 mn)) (m3 : w.cell? ⟨b11, 3, none⟩ = some (.int .i64 lo)) (m4 : w.cell? ⟨b11, 4, none⟩ = some (.int .i64 hi)) (q0 : w.cell? ⟨b5, 0, none⟩ = some (.int .i64 o)) (q1 : w.cell? ⟨b5, 1, none⟩ = some (.int .i64 t)) (q2 : w.cell? ⟨b5, 2, none⟩ = some (.slice A nl c)) (hh : CV w 40 #[.slice A1 n1 c1, .int .i64 sl] (.bool false)) (hi' : CV w 31 #[.int .i64 dy, .int .i64 lo, .int .i64 hi] (.bool true)) (hl' : la ≤ dy) (hs' : CV w 69 #[.agg #[.int .i64 o, .int .i64 t, .slice A nl c], .slice A1 n1 c1, .int .i64 src] (.int .i64 sk)) : OpOk Try.prog opsMy3 (wordsMy3 b5 b11 A A1 nl c n1 c1 o t la sl dy src mn lo hi sk) 46 a w 14 := by
  refine OpOk.gen rfl (fun a1 w1 H => ?_)
  have d13 : a1.eval (.tmp 30) = .bool true := H.dep 13 30 rfl (by kernel_rfl)
  refine gd_none ?_
  exact OpW.move d13 rfl
set_option maxRecDepth 10000 in
theorem okMy3_15 {b5 b11 : Nat} {A A1 : Option Addr} {nl c n1 c1 : Nat} {o t la sl dy src mn lo hi sk : Int} {a : Act} {w : World} (t1 : a.eval (.tmp 1) = .slice A1 n1 c1) (t2 : a.eval (.tmp 2) = .int .i64 la) (t3 : a.eval (.tmp 3) = .int .i64 sl) (t4 : a.eval (.tmp 4) = .int .i64 dy) (t5 : a.eval (.tmp 5) = .pointer (some ⟨b5, 0, none⟩)) (t11 : a.eval (.tmp 11) = .pointer (some ⟨b11, 0, none⟩)) (m0 : w.cell? ⟨b11, 0, none⟩ = some (.int .i64 src)) (m2 : w.cell? ⟨b11, 2, none⟩ = some (.int .i64 mn)) (m3 : w.cell? ⟨b11, 3, none⟩ = some (.int .i64 lo)) (m4 : w.cell? ⟨b11, 4, none⟩ = some (.int .i64 hi)) (q0 : w.cell? ⟨b5, 0, none⟩ = some (.int .i64 o)) (q1 : w.cell? ⟨b5, 1, none⟩ = some (.int .i64 t)) (q2 : w.cell? ⟨b5, 2, none⟩ = some (.slice A nl c)) (hh : CV w 40 #[.slice A1 n1 c1, .int .i64 sl] (.bool false)) (hi' : CV w 31 #[.int .i64 dy, .int .i64 lo, .int .i64 hi] (.bool true)) (hl' : la ≤ dy) (hs' : CV w 69 #[.agg #[.int .i64 o, .int .i64 t, .slice A nl c], .slice A1 n1 c1, .int .i64 src] (.int .i64 sk)) : OpOk Try.prog opsMy3 (wordsMy3 b5 b11 A A1 nl c n1 c1 o t la sl dy src mn lo hi sk) 46 a w 15 := by
  refine OpOk.gen rfl (fun a1 w1 H => ?_)
  have d14 : a1.eval (.tmp 31) = .bool true := H.dep 14 31 rfl (by kernel_rfl)
  have e4 : a1.eval (.tmp 4) = .int .i64 dy := (H.out 4 (by kernel_rfl)).trans t4
  refine gd_true rfl d14 ?_
  exact OpW.move e4 rfl
set_option maxRecDepth 10000 in
theorem okMy3_16 {b5 b11 : Nat} {A A1 : Option Addr} {nl c n1 c1 : Nat} {o t la sl dy src mn lo hi sk : Int} {a : Act} {w : World} (t1 : a.eval (.tmp 1) = .slice A1 n1 c1) (t2 : a.eval (.tmp 2) = .int .i64 la) (t3 : a.eval (.tmp 3) = .int .i64 sl) (t4 : a.eval (.tmp 4) = .int .i64 dy) (t5 : a.eval (.tmp 5) = .pointer (some ⟨b5, 0, none⟩)) (t11 : a.eval (.tmp 11) = .pointer (some ⟨b11, 0, none⟩)) (m0 : w.cell? ⟨b11, 0, none⟩ = some (.int .i64 src)) (m2 : w.cell? ⟨b11, 2, none⟩ = some (.int .i64 mn)) (m3 : w.cell? ⟨b11, 3, none⟩ = some (.int .i64 lo)) (m4 : w.cell? ⟨b11, 4, none⟩ = some (.int .i64 hi)) (q0 : w.cell? ⟨b5, 0, none⟩ = some (.int .i64 o)) (q1 : w.cell? ⟨b5, 1, none⟩ = some (.int .i64 t)) (q2 : w.cell? ⟨b5, 2, none⟩ = some (.slice A nl c)) (hh : CV w 40 #[.slice A1 n1 c1, .int .i64 sl] (.bool false)) (hi' : CV w 31 #[.int .i64 dy, .int .i64 lo, .int .i64 hi] (.bool true)) (hl' : la ≤ dy) (hs' : CV w 69 #[.agg #[.int .i64 o, .int .i64 t, .slice A nl c], .slice A1 n1 c1, .int .i64 src] (.int .i64 sk)) : OpOk Try.prog opsMy3 (wordsMy3 b5 b11 A A1 nl c n1 c1 o t la sl dy src mn lo hi sk) 46 a w 16 := by
  refine OpOk.gen rfl (fun a1 w1 H => ?_)
  have d14 : a1.eval (.tmp 31) = .bool true := H.dep 14 31 rfl (by kernel_rfl)
  have e2 : a1.eval (.tmp 2) = .int .i64 la := (H.out 2 (by kernel_rfl)).trans t2
  refine gd_true rfl d14 ?_
  exact OpW.move e2 rfl
set_option maxRecDepth 10000 in
theorem okMy3_17 {b5 b11 : Nat} {A A1 : Option Addr} {nl c n1 c1 : Nat} {o t la sl dy src mn lo hi sk : Int} {a : Act} {w : World} (t1 : a.eval (.tmp 1) = .slice A1 n1 c1) (t2 : a.eval (.tmp 2) = .int .i64 la) (t3 : a.eval (.tmp 3) = .int .i64 sl) (t4 : a.eval (.tmp 4) = .int .i64 dy) (t5 : a.eval (.tmp 5) = .pointer (some ⟨b5, 0, none⟩)) (t11 : a.eval (.tmp 11) = .pointer (some ⟨b11, 0, none⟩)) (m0 : w.cell? ⟨b11, 0, none⟩ = some (.int .i64 src)) (m2 : w.cell? ⟨b11, 2, none⟩ = some (.int .i64 mn)) (m3 : w.cell? ⟨b11, 3, none⟩ = some (.int .i64 lo)) (m4 : w.cell? ⟨b11, 4, none⟩ = some (.int .i64 hi)) (q0 : w.cell? ⟨b5, 0, none⟩ = some (.int .i64 o)) (q1 : w.cell? ⟨b5, 1, none⟩ = some (.int .i64 t)) (q2 : w.cell? ⟨b5, 2, none⟩ = some (.slice A nl c)) (hh : CV w 40 #[.slice A1 n1 c1, .int .i64 sl] (.bool false)) (hi' : CV w 31 #[.int .i64 dy, .int .i64 lo, .int .i64 hi] (.bool true)) (hl' : la ≤ dy) (hs' : CV w 69 #[.agg #[.int .i64 o, .int .i64 t, .slice A nl c], .slice A1 n1 c1, .int .i64 src] (.int .i64 sk)) : OpOk Try.prog opsMy3 (wordsMy3 b5 b11 A A1 nl c n1 c1 o t la sl dy src mn lo hi sk) 46 a w 17 := by
  refine OpOk.gen rfl (fun a1 w1 H => ?_)
  have d14 : a1.eval (.tmp 31) = .bool true := H.dep 14 31 rfl (by kernel_rfl)
  have d15 : a1.eval (.tmp 32) = .int .i64 dy := H.dep 15 32 rfl (by kernel_rfl)
  have d16 : a1.eval (.tmp 33) = .int .i64 la := H.dep 16 33 rfl (by kernel_rfl)
  refine gd_true rfl d14 ?_
  exact OpW.bin d15 d16 (geqT hl' _) rfl
set_option maxRecDepth 10000 in
theorem okMy3_18 {b5 b11 : Nat} {A A1 : Option Addr} {nl c n1 c1 : Nat} {o t la sl dy src mn lo hi sk : Int} {a : Act} {w : World} (t1 : a.eval (.tmp 1) = .slice A1 n1 c1) (t2 : a.eval (.tmp 2) = .int .i64 la) (t3 : a.eval (.tmp 3) = .int .i64 sl) (t4 : a.eval (.tmp 4) = .int .i64 dy) (t5 : a.eval (.tmp 5) = .pointer (some ⟨b5, 0, none⟩)) (t11 : a.eval (.tmp 11) = .pointer (some ⟨b11, 0, none⟩)) (m0 : w.cell? ⟨b11, 0, none⟩ = some (.int .i64 src)) (m2 : w.cell? ⟨b11, 2, none⟩ = some (.int .i64 mn)) (m3 : w.cell? ⟨b11, 3, none⟩ = some (.int .i64 lo)) (m4 : w.cell? ⟨b11, 4, none⟩ = some (.int .i64 hi)) (q0 : w.cell? ⟨b5, 0, none⟩ = some (.int .i64 o)) (q1 : w.cell? ⟨b5, 1, none⟩ = some (.int .i64 t)) (q2 : w.cell? ⟨b5, 2, none⟩ = some (.slice A nl c)) (hh : CV w 40 #[.slice A1 n1 c1, .int .i64 sl] (.bool false)) (hi' : CV w 31 #[.int .i64 dy, .int .i64 lo, .int .i64 hi] (.bool true)) (hl' : la ≤ dy) (hs' : CV w 69 #[.agg #[.int .i64 o, .int .i64 t, .slice A nl c], .slice A1 n1 c1, .int .i64 src] (.int .i64 sk)) : OpOk Try.prog opsMy3 (wordsMy3 b5 b11 A A1 nl c n1 c1 o t la sl dy src mn lo hi sk) 46 a w 18 := by
  refine OpOk.gen rfl (fun a1 w1 H => ?_)
  have d14 : a1.eval (.tmp 31) = .bool true := H.dep 14 31 rfl (by kernel_rfl)
  have d17 : a1.eval (.tmp 34) = .bool true := H.dep 17 34 rfl (by kernel_rfl)
  refine gd_none ?_
  exact OpW.pick (b := true) d14 d17
set_option maxRecDepth 10000 in
theorem okMy3_19 {b5 b11 : Nat} {A A1 : Option Addr} {nl c n1 c1 : Nat} {o t la sl dy src mn lo hi sk : Int} {a : Act} {w : World} (t1 : a.eval (.tmp 1) = .slice A1 n1 c1) (t2 : a.eval (.tmp 2) = .int .i64 la) (t3 : a.eval (.tmp 3) = .int .i64 sl) (t4 : a.eval (.tmp 4) = .int .i64 dy) (t5 : a.eval (.tmp 5) = .pointer (some ⟨b5, 0, none⟩)) (t11 : a.eval (.tmp 11) = .pointer (some ⟨b11, 0, none⟩)) (m0 : w.cell? ⟨b11, 0, none⟩ = some (.int .i64 src)) (m2 : w.cell? ⟨b11, 2, none⟩ = some (.int .i64 mn)) (m3 : w.cell? ⟨b11, 3, none⟩ = some (.int .i64 lo)) (m4 : w.cell? ⟨b11, 4, none⟩ = some (.int .i64 hi)) (q0 : w.cell? ⟨b5, 0, none⟩ = some (.int .i64 o)) (q1 : w.cell? ⟨b5, 1, none⟩ = some (.int .i64 t)) (q2 : w.cell? ⟨b5, 2, none⟩ = some (.slice A nl c)) (hh : CV w 40 #[.slice A1 n1 c1, .int .i64 sl] (.bool false)) (hi' : CV w 31 #[.int .i64 dy, .int .i64 lo, .int .i64 hi] (.bool true)) (hl' : la ≤ dy) (hs' : CV w 69 #[.agg #[.int .i64 o, .int .i64 t, .slice A nl c], .slice A1 n1 c1, .int .i64 src] (.int .i64 sk)) : OpOk Try.prog opsMy3 (wordsMy3 b5 b11 A A1 nl c n1 c1 o t la sl dy src mn lo hi sk) 46 a w 19 := by
  refine OpOk.gen rfl (fun a1 w1 H => ?_)
  have d18 : a1.eval (.tmp 35) = .bool true := H.dep 18 35 rfl (by kernel_rfl)
  refine gd_none ?_
  exact OpW.move d18 rfl
set_option maxRecDepth 10000 in
theorem okMy3_20 {b5 b11 : Nat} {A A1 : Option Addr} {nl c n1 c1 : Nat} {o t la sl dy src mn lo hi sk : Int} {a : Act} {w : World} (t1 : a.eval (.tmp 1) = .slice A1 n1 c1) (t2 : a.eval (.tmp 2) = .int .i64 la) (t3 : a.eval (.tmp 3) = .int .i64 sl) (t4 : a.eval (.tmp 4) = .int .i64 dy) (t5 : a.eval (.tmp 5) = .pointer (some ⟨b5, 0, none⟩)) (t11 : a.eval (.tmp 11) = .pointer (some ⟨b11, 0, none⟩)) (m0 : w.cell? ⟨b11, 0, none⟩ = some (.int .i64 src)) (m2 : w.cell? ⟨b11, 2, none⟩ = some (.int .i64 mn)) (m3 : w.cell? ⟨b11, 3, none⟩ = some (.int .i64 lo)) (m4 : w.cell? ⟨b11, 4, none⟩ = some (.int .i64 hi)) (q0 : w.cell? ⟨b5, 0, none⟩ = some (.int .i64 o)) (q1 : w.cell? ⟨b5, 1, none⟩ = some (.int .i64 t)) (q2 : w.cell? ⟨b5, 2, none⟩ = some (.slice A nl c)) (hh : CV w 40 #[.slice A1 n1 c1, .int .i64 sl] (.bool false)) (hi' : CV w 31 #[.int .i64 dy, .int .i64 lo, .int .i64 hi] (.bool true)) (hl' : la ≤ dy) (hs' : CV w 69 #[.agg #[.int .i64 o, .int .i64 t, .slice A nl c], .slice A1 n1 c1, .int .i64 src] (.int .i64 sk)) : OpOk Try.prog opsMy3 (wordsMy3 b5 b11 A A1 nl c n1 c1 o t la sl dy src mn lo hi sk) 46 a w 20 := by
  refine OpOk.gen rfl (fun a1 w1 H => ?_)
  have d19 : a1.eval (.tmp 36) = .bool true := H.dep 19 36 rfl (by kernel_rfl)
  have e5 : a1.eval (.tmp 5) = .pointer (some ⟨b5, 0, none⟩) := (H.out 5 (by kernel_rfl)).trans t5
  refine gd_true rfl d19 ?_
  exact OpW.load e5 (ld24 ⟨H.cell q0, H.cell q1, H.cell q2⟩) rfl
set_option maxRecDepth 10000 in
theorem okMy3_21 {b5 b11 : Nat} {A A1 : Option Addr} {nl c n1 c1 : Nat} {o t la sl dy src mn lo hi sk : Int} {a : Act} {w : World} (t1 : a.eval (.tmp 1) = .slice A1 n1 c1) (t2 : a.eval (.tmp 2) = .int .i64 la) (t3 : a.eval (.tmp 3) = .int .i64 sl) (t4 : a.eval (.tmp 4) = .int .i64 dy) (t5 : a.eval (.tmp 5) = .pointer (some ⟨b5, 0, none⟩)) (t11 : a.eval (.tmp 11) = .pointer (some ⟨b11, 0, none⟩)) (m0 : w.cell? ⟨b11, 0, none⟩ = some (.int .i64 src)) (m2 : w.cell? ⟨b11, 2, none⟩ = some (.int .i64 mn)) (m3 : w.cell? ⟨b11, 3, none⟩ = some (.int .i64 lo)) (m4 : w.cell? ⟨b11, 4, none⟩ = some (.int .i64 hi)) (q0 : w.cell? ⟨b5, 0, none⟩ = some (.int .i64 o)) (q1 : w.cell? ⟨b5, 1, none⟩ = some (.int .i64 t)) (q2 : w.cell? ⟨b5, 2, none⟩ = some (.slice A nl c)) (hh : CV w 40 #[.slice A1 n1 c1, .int .i64 sl] (.bool false)) (hi' : CV w 31 #[.int .i64 dy, .int .i64 lo, .int .i64 hi] (.bool true)) (hl' : la ≤ dy) (hs' : CV w 69 #[.agg #[.int .i64 o, .int .i64 t, .slice A nl c], .slice A1 n1 c1, .int .i64 src] (.int .i64 sk)) : OpOk Try.prog opsMy3 (wordsMy3 b5 b11 A A1 nl c n1 c1 o t la sl dy src mn lo hi sk) 46 a w 21 := by
  refine OpOk.gen rfl (fun a1 w1 H => ?_)
  have d19 : a1.eval (.tmp 36) = .bool true := H.dep 19 36 rfl (by kernel_rfl)
  have e1 : a1.eval (.tmp 1) = .slice A1 n1 c1 := (H.out 1 (by kernel_rfl)).trans t1
  refine gd_true rfl d19 ?_
  exact OpW.move e1 rfl
set_option maxRecDepth 10000 in
theorem okMy3_22 {b5 b11 : Nat} {A A1 : Option Addr} {nl c n1 c1 : Nat} {o t la sl dy src mn lo hi sk : Int} {a : Act} {w : World} (t1 : a.eval (.tmp 1) = .slice A1 n1 c1) (t2 : a.eval (.tmp 2) = .int .i64 la) (t3 : a.eval (.tmp 3) = .int .i64 sl) (t4 : a.eval (.tmp 4) = .int .i64 dy) (t5 : a.eval (.tmp 5) = .pointer (some ⟨b5, 0, none⟩)) (t11 : a.eval (.tmp 11) = .pointer (some ⟨b11, 0, none⟩)) (m0 : w.cell? ⟨b11, 0, none⟩ = some (.int .i64 src)) (m2 : w.cell? ⟨b11, 2, none⟩ = some (.int .i64 mn)) (m3 : w.cell? ⟨b11, 3, none⟩ = some (.int .i64 lo)) (m4 : w.cell? ⟨b11, 4, none⟩ = some (.int .i64 hi)) (q0 : w.cell? ⟨b5, 0, none⟩ = some (.int .i64 o)) (q1 : w.cell? ⟨b5, 1, none⟩ = some (.int .i64 t)) (q2 : w.cell? ⟨b5, 2, none⟩ = some (.slice A nl c)) (hh : CV w 40 #[.slice A1 n1 c1, .int .i64 sl] (.bool false)) (hi' : CV w 31 #[.int .i64 dy, .int .i64 lo, .int .i64 hi] (.bool true)) (hl' : la ≤ dy) (hs' : CV w 69 #[.agg #[.int .i64 o, .int .i64 t, .slice A nl c], .slice A1 n1 c1, .int .i64 src] (.int .i64 sk)) : OpOk Try.prog opsMy3 (wordsMy3 b5 b11 A A1 nl c n1 c1 o t la sl dy src mn lo hi sk) 46 a w 22 := by
  refine OpOk.gen rfl (fun a1 w1 H => ?_)
  have d19 : a1.eval (.tmp 36) = .bool true := H.dep 19 36 rfl (by kernel_rfl)
  have e11 : a1.eval (.tmp 11) = .pointer (some ⟨b11, 0, none⟩) := (H.out 11 (by kernel_rfl)).trans t11
  refine gd_true rfl d19 ?_
  exact OpW.field e11 (fa73_0 _) rfl
set_option maxRecDepth 10000 in
theorem okMy3_23 {b5 b11 : Nat} {A A1 : Option Addr} {nl c n1 c1 : Nat} {o t la sl dy src mn lo hi sk : Int} {a : Act} {w : World} (t1 : a.eval (.tmp 1) = .slice A1 n1 c1) (t2 : a.eval (.tmp 2) = .int .i64 la) (t3 : a.eval (.tmp 3) = .int .i64 sl) (t4 : a.eval (.tmp 4) = .int .i64 dy) (t5 : a.eval (.tmp 5) = .pointer (some ⟨b5, 0, none⟩)) (t11 : a.eval (.tmp 11) = .pointer (some ⟨b11, 0, none⟩)) (m0 : w.cell? ⟨b11, 0, none⟩ = some (.int .i64 src)) (m2 : w.cell? ⟨b11, 2, none⟩ = some (.int .i64 mn)) (m3 : w.cell? ⟨b11, 3, none⟩ = some (.int .i64 lo)) (m4 : w.cell? ⟨b11, 4, none⟩ = some (.int .i64 hi)) (q0 : w.cell? ⟨b5, 0, none⟩ = some (.int .i64 o)) (q1 : w.cell? ⟨b5, 1, none⟩ = some (.int .i64 t)) (q2 : w.cell? ⟨b5, 2, none⟩ = some (.slice A nl c)) (hh : CV w 40 #[.slice A1 n1 c1, .int .i64 sl] (.bool false)) (hi' : CV w 31 #[.int .i64 dy, .int .i64 lo, .int .i64 hi] (.bool true)) (hl' : la ≤ dy) (hs' : CV w 69 #[.agg #[.int .i64 o, .int .i64 t, .slice A nl c], .slice A1 n1 c1, .int .i64 src] (.int .i64 sk)) : OpOk Try.prog opsMy3 (wordsMy3 b5 b11 A A1 nl c n1 c1 o t la sl dy src mn lo hi sk) 46 a w 23 := by
  refine OpOk.gen rfl (fun a1 w1 H => ?_)
  have d19 : a1.eval (.tmp 36) = .bool true := H.dep 19 36 rfl (by kernel_rfl)
  have d22 : a1.eval (.tmp 39) = .pointer (some ⟨b11, 0, none⟩) := H.dep 22 39 rfl (by kernel_rfl)
  refine gd_true rfl d19 ?_
  exact OpW.load d22 (ld3 (H.cell m0)) rfl
set_option maxRecDepth 10000 in
theorem okMy3_24 {b5 b11 : Nat} {A A1 : Option Addr} {nl c n1 c1 : Nat} {o t la sl dy src mn lo hi sk : Int} {a : Act} {w : World} (t1 : a.eval (.tmp 1) = .slice A1 n1 c1) (t2 : a.eval (.tmp 2) = .int .i64 la) (t3 : a.eval (.tmp 3) = .int .i64 sl) (t4 : a.eval (.tmp 4) = .int .i64 dy) (t5 : a.eval (.tmp 5) = .pointer (some ⟨b5, 0, none⟩)) (t11 : a.eval (.tmp 11) = .pointer (some ⟨b11, 0, none⟩)) (m0 : w.cell? ⟨b11, 0, none⟩ = some (.int .i64 src)) (m2 : w.cell? ⟨b11, 2, none⟩ = some (.int .i64 mn)) (m3 : w.cell? ⟨b11, 3, none⟩ = some (.int .i64 lo)) (m4 : w.cell? ⟨b11, 4, none⟩ = some (.int .i64 hi)) (q0 : w.cell? ⟨b5, 0, none⟩ = some (.int .i64 o)) (q1 : w.cell? ⟨b5, 1, none⟩ = some (.int .i64 t)) (q2 : w.cell? ⟨b5, 2, none⟩ = some (.slice A nl c)) (hh : CV w 40 #[.slice A1 n1 c1, .int .i64 sl] (.bool false)) (hi' : CV w 31 #[.int .i64 dy, .int .i64 lo, .int .i64 hi] (.bool true)) (hl' : la ≤ dy) (hs' : CV w 69 #[.agg #[.int .i64 o, .int .i64 t, .slice A nl c], .slice A1 n1 c1, .int .i64 src] (.int .i64 sk)) : OpOk Try.prog opsMy3 (wordsMy3 b5 b11 A A1 nl c n1 c1 o t la sl dy src mn lo hi sk) 46 a w 24 := by
  refine OpOk.gen rfl (fun a1 w1 H => ?_)
  have d19 : a1.eval (.tmp 36) = .bool true := H.dep 19 36 rfl (by kernel_rfl)
  have d20 : a1.eval (.tmp 37) = .agg #[.int .i64 o, .int .i64 t, .slice A nl c] := H.dep 20 37 rfl (by kernel_rfl)
  have d21 : a1.eval (.tmp 38) = .slice A1 n1 c1 := H.dep 21 38 rfl (by kernel_rfl)
  have d23 : a1.eval (.tmp 40) = .int .i64 src := H.dep 23 40 rfl (by kernel_rfl)
  refine gd_true rfl d19 ?_
  exact OpW.call (vs := #[.agg #[.int .i64 o, .int .i64 t, .slice A nl c], .slice A1 n1 c1, .int .i64 src]) (enters_of Try.func69 (by kernel_rfl) rfl) (by simp [d20, d21, d23]) (hs' w1 H.low)
set_option maxRecDepth 10000 in
theorem okMy3_25 {b5 b11 : Nat} {A A1 : Option Addr} {nl c n1 c1 : Nat} {o t la sl dy src mn lo hi sk : Int} {a : Act} {w : World} (t1 : a.eval (.tmp 1) = .slice A1 n1 c1) (t2 : a.eval (.tmp 2) = .int .i64 la) (t3 : a.eval (.tmp 3) = .int .i64 sl) (t4 : a.eval (.tmp 4) = .int .i64 dy) (t5 : a.eval (.tmp 5) = .pointer (some ⟨b5, 0, none⟩)) (t11 : a.eval (.tmp 11) = .pointer (some ⟨b11, 0, none⟩)) (m0 : w.cell? ⟨b11, 0, none⟩ = some (.int .i64 src)) (m2 : w.cell? ⟨b11, 2, none⟩ = some (.int .i64 mn)) (m3 : w.cell? ⟨b11, 3, none⟩ = some (.int .i64 lo)) (m4 : w.cell? ⟨b11, 4, none⟩ = some (.int .i64 hi)) (q0 : w.cell? ⟨b5, 0, none⟩ = some (.int .i64 o)) (q1 : w.cell? ⟨b5, 1, none⟩ = some (.int .i64 t)) (q2 : w.cell? ⟨b5, 2, none⟩ = some (.slice A nl c)) (hh : CV w 40 #[.slice A1 n1 c1, .int .i64 sl] (.bool false)) (hi' : CV w 31 #[.int .i64 dy, .int .i64 lo, .int .i64 hi] (.bool true)) (hl' : la ≤ dy) (hs' : CV w 69 #[.agg #[.int .i64 o, .int .i64 t, .slice A nl c], .slice A1 n1 c1, .int .i64 src] (.int .i64 sk)) : OpOk Try.prog opsMy3 (wordsMy3 b5 b11 A A1 nl c n1 c1 o t la sl dy src mn lo hi sk) 46 a w 25 := by
  refine OpOk.gen rfl (fun a1 w1 H => ?_)
  have d19 : a1.eval (.tmp 36) = .bool true := H.dep 19 36 rfl (by kernel_rfl)
  have e11 : a1.eval (.tmp 11) = .pointer (some ⟨b11, 0, none⟩) := (H.out 11 (by kernel_rfl)).trans t11
  refine gd_true rfl d19 ?_
  exact OpW.field e11 (fa73_2 _) rfl
set_option maxRecDepth 10000 in
theorem okMy3_26 {b5 b11 : Nat} {A A1 : Option Addr} {nl c n1 c1 : Nat} {o t la sl dy src mn lo hi sk : Int} {a : Act} {w : World} (t1 : a.eval (.tmp 1) = .slice A1 n1 c1) (t2 : a.eval (.tmp 2) = .int .i64 la) (t3 : a.eval (.tmp 3) = .int .i64 sl) (t4 : a.eval (.tmp 4) = .int .i64 dy) (t5 : a.eval (.tmp 5) = .pointer (some ⟨b5, 0, none⟩)) (t11 : a.eval (.tmp 11) = .pointer (some ⟨b11, 0, none⟩)) (m0 : w.cell? ⟨b11, 0, none⟩ = some (.int .i64 src)) (m2 : w.cell? ⟨b11, 2, none⟩ = some (.int .i64 mn)) (m3 : w.cell? ⟨b11, 3, none⟩ = some (.int .i64 lo)) (m4 : w.cell? ⟨b11, 4, none⟩ = some (.int .i64 hi)) (q0 : w.cell? ⟨b5, 0, none⟩ = some (.int .i64 o)) (q1 : w.cell? ⟨b5, 1, none⟩ = some (.int .i64 t)) (q2 : w.cell? ⟨b5, 2, none⟩ = some (.slice A nl c)) (hh : CV w 40 #[.slice A1 n1 c1, .int .i64 sl] (.bool false)) (hi' : CV w 31 #[.int .i64 dy, .int .i64 lo, .int .i64 hi] (.bool true)) (hl' : la ≤ dy) (hs' : CV w 69 #[.agg #[.int .i64 o, .int .i64 t, .slice A nl c], .slice A1 n1 c1, .int .i64 src] (.int .i64 sk)) : OpOk Try.prog opsMy3 (wordsMy3 b5 b11 A A1 nl c n1 c1 o t la sl dy src mn lo hi sk) 46 a w 26 := by
  refine OpOk.gen rfl (fun a1 w1 H => ?_)
  have d19 : a1.eval (.tmp 36) = .bool true := H.dep 19 36 rfl (by kernel_rfl)
  have d25 : a1.eval (.tmp 42) = .pointer (some ⟨b11, 2, none⟩) := H.dep 25 42 rfl (by kernel_rfl)
  refine gd_true rfl d19 ?_
  exact OpW.load d25 (ld3 (H.cell m2)) rfl
set_option maxRecDepth 10000 in
theorem okMy3_27 {b5 b11 : Nat} {A A1 : Option Addr} {nl c n1 c1 : Nat} {o t la sl dy src mn lo hi sk : Int} {a : Act} {w : World} (t1 : a.eval (.tmp 1) = .slice A1 n1 c1) (t2 : a.eval (.tmp 2) = .int .i64 la) (t3 : a.eval (.tmp 3) = .int .i64 sl) (t4 : a.eval (.tmp 4) = .int .i64 dy) (t5 : a.eval (.tmp 5) = .pointer (some ⟨b5, 0, none⟩)) (t11 : a.eval (.tmp 11) = .pointer (some ⟨b11, 0, none⟩)) (m0 : w.cell? ⟨b11, 0, none⟩ = some (.int .i64 src)) (m2 : w.cell? ⟨b11, 2, none⟩ = some (.int .i64 mn)) (m3 : w.cell? ⟨b11, 3, none⟩ = some (.int .i64 lo)) (m4 : w.cell? ⟨b11, 4, none⟩ = some (.int .i64 hi)) (q0 : w.cell? ⟨b5, 0, none⟩ = some (.int .i64 o)) (q1 : w.cell? ⟨b5, 1, none⟩ = some (.int .i64 t)) (q2 : w.cell? ⟨b5, 2, none⟩ = some (.slice A nl c)) (hh : CV w 40 #[.slice A1 n1 c1, .int .i64 sl] (.bool false)) (hi' : CV w 31 #[.int .i64 dy, .int .i64 lo, .int .i64 hi] (.bool true)) (hl' : la ≤ dy) (hs' : CV w 69 #[.agg #[.int .i64 o, .int .i64 t, .slice A nl c], .slice A1 n1 c1, .int .i64 src] (.int .i64 sk)) : OpOk Try.prog opsMy3 (wordsMy3 b5 b11 A A1 nl c n1 c1 o t la sl dy src mn lo hi sk) 46 a w 27 := by
  refine OpOk.gen rfl (fun a1 w1 H => ?_)
  have d19 : a1.eval (.tmp 36) = .bool true := H.dep 19 36 rfl (by kernel_rfl)
  have d24 : a1.eval (.tmp 41) = .int .i64 sk := H.dep 24 41 rfl (by kernel_rfl)
  have d26 : a1.eval (.tmp 43) = .int .i64 mn := H.dep 26 43 rfl (by kernel_rfl)
  refine gd_true rfl d19 ?_
  exact OpW.bin d24 d26 (geq3 _) rfl
set_option maxRecDepth 10000 in
theorem okMy3_28 {b5 b11 : Nat} {A A1 : Option Addr} {nl c n1 c1 : Nat} {o t la sl dy src mn lo hi sk : Int} {a : Act} {w : World} (t1 : a.eval (.tmp 1) = .slice A1 n1 c1) (t2 : a.eval (.tmp 2) = .int .i64 la) (t3 : a.eval (.tmp 3) = .int .i64 sl) (t4 : a.eval (.tmp 4) = .int .i64 dy) (t5 : a.eval (.tmp 5) = .pointer (some ⟨b5, 0, none⟩)) (t11 : a.eval (.tmp 11) = .pointer (some ⟨b11, 0, none⟩)) (m0 : w.cell? ⟨b11, 0, none⟩ = some (.int .i64 src)) (m2 : w.cell? ⟨b11, 2, none⟩ = some (.int .i64 mn)) (m3 : w.cell? ⟨b11, 3, none⟩ = some (.int .i64 lo)) (m4 : w.cell? ⟨b11, 4, none⟩ = some (.int .i64 hi)) (q0 : w.cell? ⟨b5, 0, none⟩ = some (.int .i64 o)) (q1 : w.cell? ⟨b5, 1, none⟩ = some (.int .i64 t)) (q2 : w.cell? ⟨b5, 2, none⟩ = some (.slice A nl c)) (hh : CV w 40 #[.slice A1 n1 c1, .int .i64 sl] (.bool false)) (hi' : CV w 31 #[.int .i64 dy, .int .i64 lo, .int .i64 hi] (.bool true)) (hl' : la ≤ dy) (hs' : CV w 69 #[.agg #[.int .i64 o, .int .i64 t, .slice A nl c], .slice A1 n1 c1, .int .i64 src] (.int .i64 sk)) : OpOk Try.prog opsMy3 (wordsMy3 b5 b11 A A1 nl c n1 c1 o t la sl dy src mn lo hi sk) 46 a w 28 := by
  refine OpOk.gen rfl (fun a1 w1 H => ?_)
  have d19 : a1.eval (.tmp 36) = .bool true := H.dep 19 36 rfl (by kernel_rfl)
  have d27 : a1.eval (.tmp 44) = .bool (decide (mn ≤ sk)) := H.dep 27 44 rfl (by kernel_rfl)
  refine gd_none ?_
  exact OpW.pick (b := true) d19 d27
set_option maxRecDepth 10000 in
theorem okMy3_29 {b5 b11 : Nat} {A A1 : Option Addr} {nl c n1 c1 : Nat} {o t la sl dy src mn lo hi sk : Int} {a : Act} {w : World} (t1 : a.eval (.tmp 1) = .slice A1 n1 c1) (t2 : a.eval (.tmp 2) = .int .i64 la) (t3 : a.eval (.tmp 3) = .int .i64 sl) (t4 : a.eval (.tmp 4) = .int .i64 dy) (t5 : a.eval (.tmp 5) = .pointer (some ⟨b5, 0, none⟩)) (t11 : a.eval (.tmp 11) = .pointer (some ⟨b11, 0, none⟩)) (m0 : w.cell? ⟨b11, 0, none⟩ = some (.int .i64 src)) (m2 : w.cell? ⟨b11, 2, none⟩ = some (.int .i64 mn)) (m3 : w.cell? ⟨b11, 3, none⟩ = some (.int .i64 lo)) (m4 : w.cell? ⟨b11, 4, none⟩ = some (.int .i64 hi)) (q0 : w.cell? ⟨b5, 0, none⟩ = some (.int .i64 o)) (q1 : w.cell? ⟨b5, 1, none⟩ = some (.int .i64 t)) (q2 : w.cell? ⟨b5, 2, none⟩ = some (.slice A nl c)) (hh : CV w 40 #[.slice A1 n1 c1, .int .i64 sl] (.bool false)) (hi' : CV w 31 #[.int .i64 dy, .int .i64 lo, .int .i64 hi] (.bool true)) (hl' : la ≤ dy) (hs' : CV w 69 #[.agg #[.int .i64 o, .int .i64 t, .slice A nl c], .slice A1 n1 c1, .int .i64 src] (.int .i64 sk)) : OpOk Try.prog opsMy3 (wordsMy3 b5 b11 A A1 nl c n1 c1 o t la sl dy src mn lo hi sk) 46 a w 29 := by
  refine OpOk.gen rfl (fun a1 w1 H => ?_)
  have d28 : a1.eval (.tmp 45) = .bool (decide (mn ≤ sk)) := H.dep 28 45 rfl (by kernel_rfl)
  refine gd_none ?_
  exact OpW.assign d28 rfl
set_option maxRecDepth 10000 in
theorem regionMy3 {F : Fence} {n : Nat} (hF : WideF F Try.prog) {Q : Exit → Act → World → Prop} {b5 b11 : Nat} {A A1 : Option Addr} {nl c n1 c1 : Nat} {o t la sl dy src mn lo hi sk : Int} {a : Act} {w : World} (hsz : a.tmps.size = 46)
    (t1 : a.eval (.tmp 1) = .slice A1 n1 c1) (t2 : a.eval (.tmp 2) = .int .i64 la) (t3 : a.eval (.tmp 3) = .int .i64 sl) (t4 : a.eval (.tmp 4) = .int .i64 dy) (t5 : a.eval (.tmp 5) = .pointer (some ⟨b5, 0, none⟩)) (t11 : a.eval (.tmp 11) = .pointer (some ⟨b11, 0, none⟩)) (m0 : w.cell? ⟨b11, 0, none⟩ = some (.int .i64 src)) (m2 : w.cell? ⟨b11, 2, none⟩ = some (.int .i64 mn)) (m3 : w.cell? ⟨b11, 3, none⟩ = some (.int .i64 lo)) (m4 : w.cell? ⟨b11, 4, none⟩ = some (.int .i64 hi)) (q0 : w.cell? ⟨b5, 0, none⟩ = some (.int .i64 o)) (q1 : w.cell? ⟨b5, 1, none⟩ = some (.int .i64 t)) (q2 : w.cell? ⟨b5, 2, none⟩ = some (.slice A nl c)) (hh : CV w 40 #[.slice A1 n1 c1, .int .i64 sl] (.bool false)) (hi' : CV w 31 #[.int .i64 dy, .int .i64 lo, .int .i64 hi] (.bool true)) (hl' : la ≤ dy) (hs' : CV w 69 #[.agg #[.int .i64 o, .int .i64 t, .slice A nl c], .slice A1 n1 c1, .int .i64 src] (.int .i64 sk))
    (hK : ∀ (a' : Act) (w' : World), a'.tmps.size = 46 → a'.defers = a.defers → Below w.heap.size w w' → (∀ e, ndstB opsMy3 e = true → a'.eval (.tmp e) = a.eval (.tmp e)) → (∀ (j d : Nat), (opsMy3[j]?).bind (·.dst) = some d → (wordsMy3 b5 b11 A A1 nl c n1 c1 o t la sl dy src mn lo hi sk).at_ j (a'.eval (.tmp d)) w') → Q .normal a' w') :
    (Code.region 2 opsMy3 true).wpIn F n Try.prog Q a w := by
  refine region_S (wordsMy3 b5 b11 A A1 nl c n1 c1 o t la sl dy src mn lo hi sk) 46 hF (by kernel_rfl) Try.mixed (by kernel_rfl) (by kernel_rfl) ?_ hsz 30 (by kernel_rfl) ?_ hK
  · exact ⟨(fun _ _ _ h _ => h), (fun _ _ _ h _ => h), (fun _ _ _ h _ => h), (fun _ _ _ h _ => h), (fun _ _ _ h _ => h), (fun _ _ _ h _ => h), (fun _ _ _ h _ => h), (fun _ _ _ h _ => h), (fun _ _ _ h _ => h), (fun _ _ _ h _ => h), (fun _ _ _ h _ => h), (fun _ _ _ h _ => h), (fun _ _ _ h _ => h), (fun _ _ _ h _ => h), (fun _ _ _ h _ => h), (fun _ _ _ h _ => h), (fun _ _ _ h _ => h), (fun _ _ _ h _ => h), (fun _ _ _ h _ => h), (fun _ _ _ h _ => h), (fun _ _ _ h _ => h), (fun _ _ _ h _ => h), (fun _ _ _ h _ => h), (fun _ _ _ h _ => h), (fun _ _ _ h _ => h), (fun _ _ _ h _ => h), (fun _ _ _ h _ => h), (fun _ _ _ h _ => h), (fun _ _ _ h _ => h), (fun _ _ _ h _ => h), trivial⟩
  · exact ⟨⟨⟨⟨⟨⟨⟨⟨⟨⟨⟨⟨⟨⟨⟨⟨⟨⟨⟨⟨⟨⟨⟨⟨⟨⟨⟨⟨⟨⟨trivial, okMy3_0 t1 t2 t3 t4 t5 t11 m0 m2 m3 m4 q0 q1 q2 hh.drew hi'.drew hl' hs'.drew⟩, okMy3_1 t1 t2 t3 t4 t5 t11 m0 m2 m3 m4 q0 q1 q2 hh.drew hi'.drew hl' hs'.drew⟩, okMy3_2 t1 t2 t3 t4 t5 t11 m0 m2 m3 m4 q0 q1 q2 hh.drew hi'.drew hl' hs'.drew⟩, okMy3_3 t1 t2 t3 t4 t5 t11 m0 m2 m3 m4 q0 q1 q2 hh.drew hi'.drew hl' hs'.drew⟩, okMy3_4 t1 t2 t3 t4 t5 t11 m0 m2 m3 m4 q0 q1 q2 hh.drew hi'.drew hl' hs'.drew⟩, okMy3_5 t1 t2 t3 t4 t5 t11 m0 m2 m3 m4 q0 q1 q2 hh.drew hi'.drew hl' hs'.drew⟩, okMy3_6 t1 t2 t3 t4 t5 t11 m0 m2 m3 m4 q0 q1 q2 hh.drew hi'.drew hl' hs'.drew⟩, okMy3_7 t1 t2 t3 t4 t5 t11 m0 m2 m3 m4 q0 q1 q2 hh.drew hi'.drew hl' hs'.drew⟩, okMy3_8 t1 t2 t3 t4 t5 t11 m0 m2 m3 m4 q0 q1 q2 hh.drew hi'.drew hl' hs'.drew⟩, okMy3_9 t1 t2 t3 t4 t5 t11 m0 m2 m3 m4 q0 q1 q2 hh.drew hi'.drew hl' hs'.drew⟩, okMy3_10 t1 t2 t3 t4 t5 t11 m0 m2 m3 m4 q0 q1 q2 hh.drew hi'.drew hl' hs'.drew⟩, okMy3_11 t1 t2 t3 t4 t5 t11 m0 m2 m3 m4 q0 q1 q2 hh.drew hi'.drew hl' hs'.drew⟩, okMy3_12 t1 t2 t3 t4 t5 t11 m0 m2 m3 m4 q0 q1 q2 hh.drew hi'.drew hl' hs'.drew⟩, okMy3_13 t1 t2 t3 t4 t5 t11 m0 m2 m3 m4 q0 q1 q2 hh.drew hi'.drew hl' hs'.drew⟩, okMy3_14 t1 t2 t3 t4 t5 t11 m0 m2 m3 m4 q0 q1 q2 hh.drew hi'.drew hl' hs'.drew⟩, okMy3_15 t1 t2 t3 t4 t5 t11 m0 m2 m3 m4 q0 q1 q2 hh.drew hi'.drew hl' hs'.drew⟩, okMy3_16 t1 t2 t3 t4 t5 t11 m0 m2 m3 m4 q0 q1 q2 hh.drew hi'.drew hl' hs'.drew⟩, okMy3_17 t1 t2 t3 t4 t5 t11 m0 m2 m3 m4 q0 q1 q2 hh.drew hi'.drew hl' hs'.drew⟩, okMy3_18 t1 t2 t3 t4 t5 t11 m0 m2 m3 m4 q0 q1 q2 hh.drew hi'.drew hl' hs'.drew⟩, okMy3_19 t1 t2 t3 t4 t5 t11 m0 m2 m3 m4 q0 q1 q2 hh.drew hi'.drew hl' hs'.drew⟩, okMy3_20 t1 t2 t3 t4 t5 t11 m0 m2 m3 m4 q0 q1 q2 hh.drew hi'.drew hl' hs'.drew⟩, okMy3_21 t1 t2 t3 t4 t5 t11 m0 m2 m3 m4 q0 q1 q2 hh.drew hi'.drew hl' hs'.drew⟩, okMy3_22 t1 t2 t3 t4 t5 t11 m0 m2 m3 m4 q0 q1 q2 hh.drew hi'.drew hl' hs'.drew⟩, okMy3_23 t1 t2 t3 t4 t5 t11 m0 m2 m3 m4 q0 q1 q2 hh.drew hi'.drew hl' hs'.drew⟩, okMy3_24 t1 t2 t3 t4 t5 t11 m0 m2 m3 m4 q0 q1 q2 hh.drew hi'.drew hl' hs'.drew⟩, okMy3_25 t1 t2 t3 t4 t5 t11 m0 m2 m3 m4 q0 q1 q2 hh.drew hi'.drew hl' hs'.drew⟩, okMy3_26 t1 t2 t3 t4 t5 t11 m0 m2 m3 m4 q0 q1 q2 hh.drew hi'.drew hl' hs'.drew⟩, okMy3_27 t1 t2 t3 t4 t5 t11 m0 m2 m3 m4 q0 q1 q2 hh.drew hi'.drew hl' hs'.drew⟩, okMy3_28 t1 t2 t3 t4 t5 t11 m0 m2 m3 m4 q0 q1 q2 hh.drew hi'.drew hl' hs'.drew⟩, okMy3_29 t1 t2 t3 t4 t5 t11 m0 m2 m3 m4 q0 q1 q2 hh.drew hi'.drew hl' hs'.drew⟩
end Go.Proofs.Ytfcnombmphophaa

namespace Go.Proofs.Ytfcnombmphophaa
open Go.RowKit Go.Shelf
noncomputable def opsMyA0 : Array Oper := (Try.f52.body.bind (regionOf 0)).getD #[]
noncomputable def opsMyA1 : Array Oper := (Try.f52.body.bind (regionOf 1)).getD #[]
noncomputable def code52 : Code := .seq (.region 0 opsMyA0 false) (.seq (.region 1 opsMyA1 false) (.seq (.region 2 opsMy0 true) .ret))
theorem body52 : Try.f52.body = some code52 := by kernel_rfl
theorem cv_has {w : World} {A1 : Option Addr} {c1 : Nat} {done : List Int} {n : Int} {b : Bool} (hd : done.length ≤ 12) (h1 : IntsAt w w.heap.size A1 done) (hb : hasI done n = b) : CV w 40 #[.slice A1 done.length c1, .int .i64 n] (.bool b) := by
  intro W1 hw
  refine (hasI_any A1 c1 done n W1 (by omega) ((h1.below hw (Nat.le_refl _)).more hw.size)).mono ?_
  rintro e w' ⟨rfl, rfl⟩
  exact ⟨_, rfl, by rw [hb], Below.refl _ _⟩
theorem cv_in {w : World} {n lo hi : Int} {b : Bool} (hb : inR n lo hi = b) : CV w 31 #[.int .i64 n, .int .i64 lo, .int .i64 hi] (.bool b) := by
  intro W1 hw
  refine (in_any n lo hi W1).mono ?_
  rintro e w' ⟨rfl, rfl⟩
  exact ⟨_, rfl, by rw [hb], Below.refl _ _⟩
theorem cv_stock {w : World} {o t ow : Int} {A A1 : Option Addr} {l : List Sale} {done : List Int} {c c1 : Nat} (hl : l.length ≤ 12) (hd : done.length ≤ 12) (ht0 : 0 ≤ t) (ht : t ≤ 1000) (hm : ∀ s, s ∈ l → 0 ≤ s.many ∧ s.many ≤ 1000)
    (hdn : ∀ d, d ∈ done → 0 ≤ d ∧ d < l.length) (hs : SalesAt w w.heap.size A l) (h1 : IntsAt w w.heap.size A1 done) :
    CV w 69 #[.agg #[.int .i64 o, .int .i64 t, .slice A l.length c], .slice A1 done.length c1, .int .i64 ow] (.int .i64 (stockR t l done ow)) := by
  intro W1 hw
  refine (stockR_any o t ow A A1 l done c c1 W1 hl hd ht0 ht hm hdn ((hs.below hw (Nat.le_refl _)).more hw.size) ((h1.below hw (Nat.le_refl _)).more hw.size)).mono ?_
  rintro e w' ⟨rfl, hb⟩
  exact ⟨_, rfl, rfl, hb⟩
set_option maxRecDepth 10000 in
set_option maxHeartbeats 1000000 in
theorem may_any (o t : Int) (A A1 : Option Addr) (l : List Sale) (done : List Int) (c c1 k : Nat) (la dy : Int) (W : World) (hl : l.length ≤ 12) (hd : done.length ≤ 12) (ht0 : 0 ≤ t) (ht : t ≤ 1000) (hm : ∀ s, s ∈ l → 0 ≤ s.many ∧ s.many ≤ 1000)
    (hdn : ∀ d, d ∈ done → 0 ≤ d ∧ d < l.length) (hk : k < l.length) (hs : SalesAt W W.heap.size A l) (h1 : IntsAt W W.heap.size A1 done) :
    Calls Try.prog 52 #[.agg #[.int .i64 o, .int .i64 t, .slice A l.length c], .slice A1 done.length c1, .int .i64 la, .int .i64 k, .int .i64 dy] W (TP W (mayR t l done la k dy)) := by
  refine (callsIn_wide (n := 5)).1 (callsIn_of_wp Try.func52 body52 trivial ?_ rfl)
  obtain ⟨a, ha⟩ : ∃ a : Act, a = { tmps := #[.agg #[.int .i64 o, .int .i64 t, .slice A l.length c], .slice A1 done.length c1, .int .i64 la, .int .i64 k, .int .i64 dy] ++ Array.replicate (Try.f52.ntmps - (#[.agg #[.int .i64 o, .int .i64 t, .slice A l.length c], .slice A1 done.length c1, .int .i64 la, .int .i64 k, .int .i64 dy] : Array Value).size) undef, defers := [] } := ⟨_, rfl⟩
  have hsz : a.tmps.size = 46 := by rw [ha]; simp [Try.ntmps52]
  have t0 : a.eval (.tmp 0) = .agg #[.int .i64 o, .int .i64 t, .slice A l.length c] := by rw [ha]; simp [Act.eval]
  have t1 : a.eval (.tmp 1) = .slice A1 done.length c1 := by rw [ha]; simp [Act.eval]
  have t2 : a.eval (.tmp 2) = .int .i64 la := by rw [ha]; simp [Act.eval]
  have t3 : a.eval (.tmp 3) = .int .i64 k := by rw [ha]; simp [Act.eval]
  have t4 : a.eval (.tmp 4) = .int .i64 dy := by rw [ha]; simp [Act.eval]
  have hdf : a.defers = [] := by rw [ha]
  rw [← ha]
  clear ha
  have hret : ∀ (a' : Act) (W' : World) (v : Bool), a'.defers = [] → a'.eval (.tmp 10) = .bool v → Below W.heap.size W W' → v = mayR t l done la k dy → bodyPost Try.prog Try.f52 (TP W (mayR t l done la k dy)) .ret a' W' := fun a' W' v hd h4 hb he =>
    bodyPost_ret (v := .bool v) (res1 Try.results52 h4) hd ⟨by rw [he], hb⟩
  unfold code52
  refine wpIn_seq (region_p 2 ?_)
  intro K hK
  refine ListK.box (i := 0) (u := .agg #[.int .i64 o, .int .i64 t, .slice A l.length c]) rfl (by simp [t0]) (bx24 W _ _ _ _ _) ?_
  refine ListK.assign (i := 1) (v := .bool false) rfl (by simp) ?_
  refine ListK.done (hK _ _ ?_)
  clear hK K
  have wb := Whole.new W 24 #[.int .i64 o, .int .i64 t, .slice A l.length c]
  have hB1 : Below W.heap.size W (W.alloc (.cells #[.int .i64 o, .int .i64 t, .slice A l.length c] 24)) := (Below.refl _ W).alloc (Nat.le_refl _) _
  have hS1 := hB1.size
  have hlt : W.heap.size < (W.alloc (.cells #[.int .i64 o, .int .i64 t, .slice A l.length c] 24)).heap.size := by simp
  generalize hb5 : W.heap.size = b5 at *
  generalize W.alloc (.cells #[.int .i64 o, .int .i64 t, .slice A l.length c] 24) = W1 at *
  have hs1 : SalesAt W1 W1.heap.size A l := (hs.below hB1 (Nat.le_refl _)).more hS1
  have h11 : IntsAt W1 W1.heap.size A1 done := (h1.below hB1 (Nat.le_refl _)).more hS1
  have h2 := wb.cell 2
  have hgl : l[k]? = some l[k] := List.getElem?_eq_getElem hk
  have hsl := saleOf_eq hgl
  obtain ⟨b, off, hA, hbB, s0, s1, s2, s3, s4⟩ := hs1 k _ hgl
  subst hA
  refine wpIn_seq (region_p 7 ?_)
  intro K hK
  refine ListK.field (i := 0) (u := .pointer (some ⟨b5, 0, none⟩)) (v := .pointer (some ⟨b5, 2, none⟩)) rfl (by simp [hsz]) (fa24_2 _) ?_
  refine ListK.load (i := 1) (p := ⟨b5, 2, none⟩) (v := .slice (some ⟨b, off, none⟩) l.length c) rfl (by simp [hsz]) (ld22 (h2)) ?_
  refine ListK.move (i := 2) (v := .int .i64 k) rfl (by simp [t3]) ?_
  refine ListK.index (i := 3) (u := .slice (some ⟨b, off, none⟩) l.length c) (u' := .int .i64 k) (v := .pointer (some ⟨b, off + k * 5, none⟩)) rfl (by simp [hsz]) (by simp [hsz]) (ix22 hk _) ?_
  refine ListK.load (i := 4) (p := ⟨b, off + k * 5, none⟩) (v := saleV l[k]) rfl (by simp [hsz]) (ld73 s0 s1 s2 s3 s4) ?_
  refine ListK.alloc (i := 5) rfl (al73 W1) ?_
  refine ListK.store (i := 6) (u := .pointer (some ⟨W1.heap.size, 0, none⟩)) (u' := saleV l[k]) rfl (by simp [hsz]) (by simp [hsz]) (sa73 W1 _) ?_
  refine ListK.done (hK _ _ ?_)
  clear hK K
  have hx := Whole.new W1 73 (saleC l[k])
  have hB2 : Below W1.heap.size W1 (W1.alloc (.cells (saleC l[k]) 73)) := (Below.refl _ W1).alloc (Nat.le_refl _) _
  have wb2 := wb.alloc (.cells (saleC l[k]) 73)
  have hs2 := (hs1.below hB2 (Nat.le_refl _)).more hB2.size
  have h12 := (h11.below hB2 (Nat.le_refl _)).more hB2.size
  have hB3 : Below b5 W (W1.alloc (.cells (saleC l[k]) 73)) := hB1.trans (hB2.mono hS1)
  generalize hb11 : W1.heap.size = b11 at *
  generalize W1.alloc (.cells (saleC l[k]) 73) = W2 at *
  generalize hA : Act.put _ _ _ = a1
  have hz_a1 : a1.tmps.size = 46 := by rw [← hA]; simp only [size_put, hsz]
  have u1 : a1.eval (.tmp 1) = .slice A1 done.length c1 := by rw [← hA]; exact (by simp [t1])
  have u2 : a1.eval (.tmp 2) = .int .i64 la := by rw [← hA]; exact (by simp [t2])
  have u3 : a1.eval (.tmp 3) = .int .i64 k := by rw [← hA]; exact (by simp [t3])
  have u4 : a1.eval (.tmp 4) = .int .i64 dy := by rw [← hA]; exact (by simp [t4])
  have u5 : a1.eval (.tmp 5) = .pointer (some ⟨b5, 0, none⟩) := by rw [← hA]; exact (by simp [hsz])
  have u11 : a1.eval (.tmp 11) = .pointer (some ⟨b11, 0, none⟩) := by rw [← hA]; exact (by simp [hsz])
  have hd_a1 : a1.defers = [] := by rw [← hA]; simp only [defers_put, hdf]
  clear hA
  have hfin : ∀ (a' : Act) (W' : World) (v : Bool), a'.defers = a1.defers → a'.eval (.tmp 10) = .bool v → Below W2.heap.size W2 W' → v = mayR t l done la k dy → bodyPost Try.prog Try.f52 (TP W (mayR t l done la k dy)) .ret a' W' := fun a' W' v hd h4 hb he =>
    hret a' W' v (hd.trans hd_a1) h4 (hB3.trans (hb.mono (by have := hB3.size; omega))) he
  have m0 : W2.cell? ⟨b11, 0, none⟩ = some (.int .i64 l[k].src) := hx.cell 0
  have m2 : W2.cell? ⟨b11, 2, none⟩ = some (.int .i64 l[k].many) := hx.cell 2
  have m3 : W2.cell? ⟨b11, 3, none⟩ = some (.int .i64 l[k].lo) := hx.cell 3
  have m4 : W2.cell? ⟨b11, 4, none⟩ = some (.int .i64 l[k].hi) := hx.cell 4
  have q0 : W2.cell? ⟨b5, 0, none⟩ = some (.int .i64 o) := wb2.cell 0
  have q1 : W2.cell? ⟨b5, 1, none⟩ = some (.int .i64 t) := wb2.cell 1
  have q2 : W2.cell? ⟨b5, 2, none⟩ = some (.slice (some ⟨b, off, none⟩) l.length c) := wb2.cell 2
  have hmd : mayR t l done la k dy = (!hasI done k && (inR dy l[k].lo l[k].hi && (decide (la ≤ dy) && decide (l[k].many ≤ stockR t l done l[k].src)))) := by
    unfold mayR
    rw [Int.toNat_natCast, hsl]
  have hst := cv_stock (o := o) (t := t) (ow := l[k].src) (c := c) (c1 := c1) hl hd ht0 ht hm hdn hs2 h12
  generalize stockR t l done l[k].src = sk at *
  cases hH : hasI done (k : Int) with
  | true =>
    refine wpIn_seq (regionMy0 (sk := sk) (wideF_plain _) hz_a1 u1 u2 u3 u4 u5 u11 m0 m2 m3 m4 q0 q1 q2 (cv_has hd h12 hH) ?_)
    intro a2 W3 hz2 hd2 hb3 hr hw
    have v10 : a2.eval (.tmp 10) = .bool false := hw 29 10 (by kernel_rfl)
    exact wpIn_ret (hfin a2 W3 false hd2 v10 hb3 (by rw [hmd, hH]; rfl))
  | false =>
    cases hI : inR dy l[k].lo l[k].hi with
    | false =>
      refine wpIn_seq (regionMy1 (sk := sk) (wideF_plain _) hz_a1 u1 u2 u3 u4 u5 u11 m0 m2 m3 m4 q0 q1 q2 (cv_has hd h12 hH) (cv_in hI) ?_)
      intro a2 W3 hz2 hd2 hb3 hr hw
      have v10 : a2.eval (.tmp 10) = .bool false := hw 29 10 (by kernel_rfl)
      exact wpIn_ret (hfin a2 W3 false hd2 v10 hb3 (by rw [hmd, hH, hI]; rfl))
    | true =>
      by_cases hL : la ≤ dy
      · refine wpIn_seq (regionMy3 (sk := sk) (wideF_plain _) hz_a1 u1 u2 u3 u4 u5 u11 m0 m2 m3 m4 q0 q1 q2 (cv_has hd h12 hH) (cv_in hI) hL hst ?_)
        intro a2 W3 hz2 hd2 hb3 hr hw
        have v10 : a2.eval (.tmp 10) = .bool (decide (l[k].many ≤ sk)) := hw 29 10 (by kernel_rfl)
        exact wpIn_ret (hfin a2 W3 _ hd2 v10 hb3 (by rw [hmd, hH, hI]; simp [hL]))
      · refine wpIn_seq (regionMy2 (sk := sk) (wideF_plain _) hz_a1 u1 u2 u3 u4 u5 u11 m0 m2 m3 m4 q0 q1 q2 (cv_has hd h12 hH) (cv_in hI) hL ?_)
        intro a2 W3 hz2 hd2 hb3 hr hw
        have v10 : a2.eval (.tmp 10) = .bool false := hw 29 10 (by kernel_rfl)
        exact wpIn_ret (hfin a2 W3 false hd2 v10 hb3 (by rw [hmd, hH, hI]; simp [hL]))
end Go.Proofs.Ytfcnombmphophaa

namespace Go.Proofs.Ytfcnombmphophaa
open Go.RowKit Go.Shelf
theorem sl25 {b o n c k : Nat} (h : k ≤ c) (w : World) : (Instr.sliceAt 25 (.slice (some ⟨b, o, none⟩) n c) none (some (.int .i64 k)) none).run Try.prog w = .ok (.slice (some ⟨b, o, none⟩) k c) w := by
  go_simp
theorem OpW.sliceH {P : Program} {p : Value → World → Prop} {d : Nat} {a : Act} {w : World} {ty : TypeId} {pos : String} {aft : Array Edge} {gd : Option (Nat × Bool)} {t : TypeId} {x y : Operand} {u u' v : Value} (hx : a.eval x = u) (hy : a.eval y = u') (hv : (Instr.sliceAt t u none (some u') none).run P w = .ok v w) (hp : p v w) :
    OpW P p ⟨some d, .slice t x none (some y) none, ty, pos, aft, gd⟩ d a w := OpW.val rfl (by simp [execOp, hx, hy, hv]) hp (Below.refl _ _)
/-- Is an order, from some place on, one of a truth? -/
def isGo (t : Int) (l : List Sale) (dys : List Int) : List Int → List Int → Int → Bool
  | _, [], _ => true
  | pre, n :: ns, la => inR n 0 ((l.length : Int) - 1) && (mayR t l pre la n ((dys[n.toNat]?).getD 0) && isGo t l dys (pre ++ [n]) ns ((dys[n.toNat]?).getD 0))
def truthB (t : Int) (l : List Sale) (ord dys : List Int) : Bool := decide (ord.length = l.length) && (decide (dys.length = l.length) && isGo t l dys [] ord 0)
theorem isGo_step {t : Int} {l : List Sale} {dys ord : List Int} {la : Int} {k : Nat} (hk : k < ord.length) :
    isGo t l dys (ord.take k) (ord.drop k) la = (inR ord[k] 0 ((l.length : Int) - 1) && (mayR t l (ord.take k) la ord[k] ((dys[(ord[k]).toNat]?).getD 0) && isGo t l dys (ord.take (k + 1)) (ord.drop (k + 1)) ((dys[(ord[k]).toNat]?).getD 0))) := by
  rw [List.drop_eq_getElem_cons hk, isGo, List.take_succ_eq_append_getElem hk]
theorem IntsAt.take {w : World} {B : Nat} {A : Option Addr} {l : List Int} (h : IntsAt w B A l) (k : Nat) : IntsAt w B A (l.take k) := by
  intro j x hj
  rw [List.getElem?_take] at hj
  split at hj
  · exact h j x hj
  · cases hj
noncomputable def opsTr_0 : Array Oper := (Try.f22.body.bind (regionOf 0)).getD #[]
noncomputable def opsTr_1 : Array Oper := (Try.f22.body.bind (regionOf 1)).getD #[]
noncomputable def opsTr_2 : Array Oper := (Try.f22.body.bind (regionOf 2)).getD #[]
noncomputable def opsTr_3 : Array Oper := (Try.f22.body.bind (regionOf 3)).getD #[]
noncomputable def opsTr_4 : Array Oper := (Try.f22.body.bind (regionOf 4)).getD #[]
noncomputable def opsTr_5 : Array Oper := (Try.f22.body.bind (regionOf 5)).getD #[]
noncomputable def opsTr_6 : Array Oper := (Try.f22.body.bind (regionOf 6)).getD #[]
noncomputable def opsTr_8 : Array Oper := (Try.f22.body.bind (regionOf 8)).getD #[]
noncomputable def opsTr_9 : Array Oper := (Try.f22.body.bind (regionOf 9)).getD #[]
noncomputable def opsTr_10 : Array Oper := (Try.f22.body.bind (regionOf 10)).getD #[]
noncomputable def opsTr0 : Array Oper := (Try.f22.body.bind (regionOf 7)).getD #[]
def wordsTr0 (b1 o1 b3 k : Nat) (A A2 : Option Addr) (nl c n1 c1 n2 c2 : Nat) (o t la nn : Int) : Words := [fun v _ => v = .slice (some ⟨b1, o1, none⟩) n1 c1, fun v _ => v = .int .i64 k, fun v _ => v = .pointer (some ⟨b1, o1 + k, none⟩), fun v _ => v = .int .i64 nn, fun v _ => v = .pointer (some ⟨b3, 2, none⟩), fun v _ => v = .slice A nl c, fun v _ => v = .int .i64 nl, fun v _ => v = .int .i64 (nl - 1), fun v _ => v = .bool false, fun v _ => v = .bool true, fun v _ => v = .bool true, fun _ _ => True, fun _ _ => True, fun _ _ => True, fun _ _ => True, fun _ _ => True, fun _ _ => True, fun _ _ => True, fun _ _ => True, fun _ _ => True, fun _ _ => True, fun _ _ => True, fun _ _ => True, fun _ _ => True, fun _ _ => True, fun _ _ => True, fun _ _ => True, fun _ _ => True, fun _ _ => True, fun v _ => v = .bool true]
set_option maxRecDepth 10000 in
theorem okTr0_0 {b1 o1 b3 k : Nat} {A A2 : Option Addr} {nl c n1 c1 n2 c2 : Nat} {o t la nn : Int} {a : Act} {w : World} (t1 : a.eval (.tmp 1) = .slice (some ⟨b1, o1, none⟩) n1 c1) (t2 : a.eval (.tmp 2) = .slice A2 n2 c2) (t3 : a.eval (.tmp 3) = .pointer (some ⟨b3, 0, none⟩)) (t7 : a.eval (.tmp 7) = .int .i64 la) (t8 : a.eval (.tmp 8) = .int .i64 k) (q0 : w.cell? ⟨b3, 0, none⟩ = some (.int .i64 o)) (q1 : w.cell? ⟨b3, 1, none⟩ = some (.int .i64 t)) (q2 : w.cell? ⟨b3, 2, none⟩ = some (.slice A nl c)) (hnl : nl ≤ 12) (hk : k < n1) (m0 : w.cell? ⟨b1, o1 + k, none⟩ = some (.int .i64 nn)) (hi' : CV w 31 #[.int .i64 nn, .int .i64 0, .int .i64 (nl - 1)] (.bool false)) : OpOk Try.prog opsTr0 (wordsTr0 b1 o1 b3 k A A2 nl c n1 c1 n2 c2 o t la nn) 66 a w 0 := by
  refine OpOk.gen rfl (fun a1 w1 H => ?_)
  have e1 : a1.eval (.tmp 1) = .slice (some ⟨b1, o1, none⟩) n1 c1 := (H.out 1 (by kernel_rfl)).trans t1
  refine gd_none ?_
  exact OpW.move e1 rfl
set_option maxRecDepth 10000 in
theorem okTr0_1 {b1 o1 b3 k : Nat} {A A2 : Option Addr} {nl c n1 c1 n2 c2 : Nat} {o t la nn : Int} {a : Act} {w : World} (t1 : a.eval (.tmp 1) = .slice (some ⟨b1, o1, none⟩) n1 c1) (t2 : a.eval (.tmp 2) = .slice A2 n2 c2) (t3 : a.eval (.tmp 3) = .pointer (some ⟨b3, 0, none⟩)) (t7 : a.eval (.tmp 7) = .int .i64 la) (t8 : a.eval (.tmp 8) = .int .i64 k) (q0 : w.cell? ⟨b3, 0, none⟩ = some (.int .i64 o)) (q1 : w.cell? ⟨b3, 1, none⟩ = some (.int .i64 t)) (q2 : w.cell? ⟨b3, 2, none⟩ = some (.slice A nl c)) (hnl : nl ≤ 12) (hk : k < n1) (m0 : w.cell? ⟨b1, o1 + k, none⟩ = some (.int .i64 nn)) (hi' : CV w 31 #[.int .i64 nn, .int .i64 0, .int .i64 (nl - 1)] (.bool false)) : OpOk Try.prog opsTr0 (wordsTr0 b1 o1 b3 k A A2 nl c n1 c1 n2 c2 o t la nn) 66 a w 1 := by
  refine OpOk.gen rfl (fun a1 w1 H => ?_)
  have e8 : a1.eval (.tmp 8) = .int .i64 k := (H.out 8 (by kernel_rfl)).trans t8
  refine gd_none ?_
  exact OpW.move e8 rfl
set_option maxRecDepth 10000 in
theorem okTr0_2 {b1 o1 b3 k : Nat} {A A2 : Option Addr} {nl c n1 c1 n2 c2 : Nat} {o t la nn : Int} {a : Act} {w : World} (t1 : a.eval (.tmp 1) = .slice (some ⟨b1, o1, none⟩) n1 c1) (t2 : a.eval (.tmp 2) = .slice A2 n2 c2) (t3 : a.eval (.tmp 3) = .pointer (some ⟨b3, 0, none⟩)) (t7 : a.eval (.tmp 7) = .int .i64 la) (t8 : a.eval (.tmp 8) = .int .i64 k) (q0 : w.cell? ⟨b3, 0, none⟩ = some (.int .i64 o)) (q1 : w.cell? ⟨b3, 1, none⟩ = some (.int .i64 t)) (q2 : w.cell? ⟨b3, 2, none⟩ = some (.slice A nl c)) (hnl : nl ≤ 12) (hk : k < n1) (m0 : w.cell? ⟨b1, o1 + k, none⟩ = some (.int .i64 nn)) (hi' : CV w 31 #[.int .i64 nn, .int .i64 0, .int .i64 (nl - 1)] (.bool false)) : OpOk Try.prog opsTr0 (wordsTr0 b1 o1 b3 k A A2 nl c n1 c1 n2 c2 o t la nn) 66 a w 2 := by
  refine OpOk.gen rfl (fun a1 w1 H => ?_)
  have d0 : a1.eval (.tmp 29) = .slice (some ⟨b1, o1, none⟩) n1 c1 := H.dep 0 29 rfl (by kernel_rfl)
  have d1 : a1.eval (.tmp 30) = .int .i64 k := H.dep 1 30 rfl (by kernel_rfl)
  refine gd_none ?_
  exact OpW.index d0 d1 (ix25o hk _) rfl
set_option maxRecDepth 10000 in
theorem okTr0_3 {b1 o1 b3 k : Nat} {A A2 : Option Addr} {nl c n1 c1 n2 c2 : Nat} {o t la nn : Int} {a : Act} {w : World} (t1 : a.eval (.tmp 1) = .slice (some ⟨b1, o1, none⟩) n1 c1) (t2 : a.eval (.tmp 2) = .slice A2 n2 c2) (t3 : a.eval (.tmp 3) = .pointer (some ⟨b3, 0, none⟩)) (t7 : a.eval (.tmp 7) = .int .i64 la) (t8 : a.eval (.tmp 8) = .int .i64 k) (q0 : w.cell? ⟨b3, 0, none⟩ = some (.int .i64 o)) (q1 : w.cell? ⟨b3, 1, none⟩ = some (.int .i64 t)) (q2 : w.cell? ⟨b3, 2, none⟩ = some (.slice A nl c)) (hnl : nl ≤ 12) (hk : k < n1) (m0 : w.cell? ⟨b1, o1 + k, none⟩ = some (.int .i64 nn)) (hi' : CV w 31 #[.int .i64 nn, .int .i64 0, .int .i64 (nl - 1)] (.bool false)) : OpOk Try.prog opsTr0 (wordsTr0 b1 o1 b3 k A A2 nl c n1 c1 n2 c2 o t la nn) 66 a w 3 := by
  refine OpOk.gen rfl (fun a1 w1 H => ?_)
  have d2 : a1.eval (.tmp 31) = .pointer (some ⟨b1, o1 + k, none⟩) := H.dep 2 31 rfl (by kernel_rfl)
  refine gd_none ?_
  exact OpW.load d2 (ld3 (H.cell m0)) rfl
set_option maxRecDepth 10000 in
theorem okTr0_4 {b1 o1 b3 k : Nat} {A A2 : Option Addr} {nl c n1 c1 n2 c2 : Nat} {o t la nn : Int} {a : Act} {w : World} (t1 : a.eval (.tmp 1) = .slice (some ⟨b1, o1, none⟩) n1 c1) (t2 : a.eval (.tmp 2) = .slice A2 n2 c2) (t3 : a.eval (.tmp 3) = .pointer (some ⟨b3, 0, none⟩)) (t7 : a.eval (.tmp 7) = .int .i64 la) (t8 : a.eval (.tmp 8) = .int .i64 k) (q0 : w.cell? ⟨b3, 0, none⟩ = some (.int .i64 o)) (q1 : w.cell? ⟨b3, 1, none⟩ = some (.int .i64 t)) (q2 : w.cell? ⟨b3, 2, none⟩ = some (.slice A nl c)) (hnl : nl ≤ 12) (hk : k < n1) (m0 : w.cell? ⟨b1, o1 + k, none⟩ = some (.int .i64 nn)) (hi' : CV w 31 #[.int .i64 nn, .int .i64 0, .int .i64 (nl - 1)] (.bool false)) : OpOk Try.prog opsTr0 (wordsTr0 b1 o1 b3 k A A2 nl c n1 c1 n2 c2 o t la nn) 66 a w 4 := by
  refine OpOk.gen rfl (fun a1 w1 H => ?_)
  have e3 : a1.eval (.tmp 3) = .pointer (some ⟨b3, 0, none⟩) := (H.out 3 (by kernel_rfl)).trans t3
  refine gd_none ?_
  exact OpW.field e3 (fa24_2 _) rfl
set_option maxRecDepth 10000 in
theorem okTr0_5 {b1 o1 b3 k : Nat} {A A2 : Option Addr} {nl c n1 c1 n2 c2 : Nat} {o t la nn : Int} {a : Act} {w : World} (t1 : a.eval (.tmp 1) = .slice (some ⟨b1, o1, none⟩) n1 c1) (t2 : a.eval (.tmp 2) = .slice A2 n2 c2) (t3 : a.eval (.tmp 3) = .pointer (some ⟨b3, 0, none⟩)) (t7 : a.eval (.tmp 7) = .int .i64 la) (t8 : a.eval (.tmp 8) = .int .i64 k) (q0 : w.cell? ⟨b3, 0, none⟩ = some (.int .i64 o)) (q1 : w.cell? ⟨b3, 1, none⟩ = some (.int .i64 t)) (q2 : w.cell? ⟨b3, 2, none⟩ = some (.slice A nl c)) (hnl : nl ≤ 12) (hk : k < n1) (m0 : w.cell? ⟨b1, o1 + k, none⟩ = some (.int .i64 nn)) (hi' : CV w 31 #[.int .i64 nn, .int .i64 0, .int .i64 (nl - 1)] (.bool false)) : OpOk Try.prog opsTr0 (wordsTr0 b1 o1 b3 k A A2 nl c n1 c1 n2 c2 o t la nn) 66 a w 5 := by
  refine OpOk.gen rfl (fun a1 w1 H => ?_)
  have d4 : a1.eval (.tmp 33) = .pointer (some ⟨b3, 2, none⟩) := H.dep 4 33 rfl (by kernel_rfl)
  refine gd_none ?_
  exact OpW.load d4 (ld22 (H.cell q2)) rfl
set_option maxRecDepth 10000 in
theorem okTr0_6 {b1 o1 b3 k : Nat} {A A2 : Option Addr} {nl c n1 c1 n2 c2 : Nat} {o t la nn : Int} {a : Act} {w : World} (t1 : a.eval (.tmp 1) = .slice (some ⟨b1, o1, none⟩) n1 c1) (t2 : a.eval (.tmp 2) = .slice A2 n2 c2) (t3 : a.eval (.tmp 3) = .pointer (some ⟨b3, 0, none⟩)) (t7 : a.eval (.tmp 7) = .int .i64 la) (t8 : a.eval (.tmp 8) = .int .i64 k) (q0 : w.cell? ⟨b3, 0, none⟩ = some (.int .i64 o)) (q1 : w.cell? ⟨b3, 1, none⟩ = some (.int .i64 t)) (q2 : w.cell? ⟨b3, 2, none⟩ = some (.slice A nl c)) (hnl : nl ≤ 12) (hk : k < n1) (m0 : w.cell? ⟨b1, o1 + k, none⟩ = some (.int .i64 nn)) (hi' : CV w 31 #[.int .i64 nn, .int .i64 0, .int .i64 (nl - 1)] (.bool false)) : OpOk Try.prog opsTr0 (wordsTr0 b1 o1 b3 k A A2 nl c n1 c1 n2 c2 o t la nn) 66 a w 6 := by
  refine OpOk.gen rfl (fun a1 w1 H => ?_)
  have d5 : a1.eval (.tmp 34) = .slice A nl c := H.dep 5 34 rfl (by kernel_rfl)
  refine gd_none ?_
  exact OpW.len d5 (ln22 _ _ _ _ _) rfl rfl
set_option maxRecDepth 10000 in
theorem okTr0_7 {b1 o1 b3 k : Nat} {A A2 : Option Addr} {nl c n1 c1 n2 c2 : Nat} {o t la nn : Int} {a : Act} {w : World} (t1 : a.eval (.tmp 1) = .slice (some ⟨b1, o1, none⟩) n1 c1) (t2 : a.eval (.tmp 2) = .slice A2 n2 c2) (t3 : a.eval (.tmp 3) = .pointer (some ⟨b3, 0, none⟩)) (t7 : a.eval (.tmp 7) = .int .i64 la) (t8 : a.eval (.tmp 8) = .int .i64 k) (q0 : w.cell? ⟨b3, 0, none⟩ = some (.int .i64 o)) (q1 : w.cell? ⟨b3, 1, none⟩ = some (.int .i64 t)) (q2 : w.cell? ⟨b3, 2, none⟩ = some (.slice A nl c)) (hnl : nl ≤ 12) (hk : k < n1) (m0 : w.cell? ⟨b1, o1 + k, none⟩ = some (.int .i64 nn)) (hi' : CV w 31 #[.int .i64 nn, .int .i64 0, .int .i64 (nl - 1)] (.bool false)) : OpOk Try.prog opsTr0 (wordsTr0 b1 o1 b3 k A A2 nl c n1 c1 n2 c2 o t la nn) 66 a w 7 := by
  refine OpOk.gen rfl (fun a1 w1 H => ?_)
  have d6 : a1.eval (.tmp 35) = .int .i64 nl := H.dep 6 35 rfl (by kernel_rfl)
  refine gd_none ?_
  exact OpW.bin d6 rfl (sub3 (by omega) (by omega) _) rfl
set_option maxRecDepth 10000 in
theorem okTr0_8 {b1 o1 b3 k : Nat} {A A2 : Option Addr} {nl c n1 c1 n2 c2 : Nat} {o t la nn : Int} {a : Act} {w : World} (t1 : a.eval (.tmp 1) = .slice (some ⟨b1, o1, none⟩) n1 c1) (t2 : a.eval (.tmp 2) = .slice A2 n2 c2) (t3 : a.eval (.tmp 3) = .pointer (some ⟨b3, 0, none⟩)) (t7 : a.eval (.tmp 7) = .int .i64 la) (t8 : a.eval (.tmp 8) = .int .i64 k) (q0 : w.cell? ⟨b3, 0, none⟩ = some (.int .i64 o)) (q1 : w.cell? ⟨b3, 1, none⟩ = some (.int .i64 t)) (q2 : w.cell? ⟨b3, 2, none⟩ = some (.slice A nl c)) (hnl : nl ≤ 12) (hk : k < n1) (m0 : w.cell? ⟨b1, o1 + k, none⟩ = some (.int .i64 nn)) (hi' : CV w 31 #[.int .i64 nn, .int .i64 0, .int .i64 (nl - 1)] (.bool false)) : OpOk Try.prog opsTr0 (wordsTr0 b1 o1 b3 k A A2 nl c n1 c1 n2 c2 o t la nn) 66 a w 8 := by
  refine OpOk.gen rfl (fun a1 w1 H => ?_)
  have d3 : a1.eval (.tmp 32) = .int .i64 nn := H.dep 3 32 rfl (by kernel_rfl)
  have d7 : a1.eval (.tmp 36) = .int .i64 (nl - 1) := H.dep 7 36 rfl (by kernel_rfl)
  refine gd_none ?_
  exact OpW.call (vs := #[.int .i64 nn, .int .i64 0, .int .i64 (nl - 1)]) (enters_of Try.func31 (by kernel_rfl) rfl) (by simp [d3, d7]) (hi' w1 H.low)
set_option maxRecDepth 10000 in
theorem okTr0_9 {b1 o1 b3 k : Nat} {A A2 : Option Addr} {nl c n1 c1 n2 c2 : Nat} {o t la nn : Int} {a : Act} {w : World} (t1 : a.eval (.tmp 1) = .slice (some ⟨b1, o1, none⟩) n1 c1) (t2 : a.eval (.tmp 2) = .slice A2 n2 c2) (t3 : a.eval (.tmp 3) = .pointer (some ⟨b3, 0, none⟩)) (t7 : a.eval (.tmp 7) = .int .i64 la) (t8 : a.eval (.tmp 8) = .int .i64 k) (q0 : w.cell? ⟨b3, 0, none⟩ = some (.int .i64 o)) (q1 : w.cell? ⟨b3, 1, none⟩ = some (.int .i64 t)) (q2 : w.cell? ⟨b3, 2, none⟩ = some (.slice A nl c)) (hnl : nl ≤ 12) (hk : k < n1) (m0 : w.cell? ⟨b1, o1 + k, none⟩ = some (.int .i64 nn)) (hi' : CV w 31 #[.int .i64 nn, .int .i64 0, .int .i64 (nl - 1)] (.bool false)) : OpOk Try.prog opsTr0 (wordsTr0 b1 o1 b3 k A A2 nl c n1 c1 n2 c2 o t la nn) 66 a w 9 := by
  refine OpOk.gen rfl (fun a1 w1 H => ?_)
  have d8 : a1.eval (.tmp 37) = .bool false := H.dep 8 37 rfl (by kernel_rfl)
  refine gd_none ?_
  exact OpW.un d8 (not4 _ _) rfl
set_option maxRecDepth 10000 in
theorem okTr0_10 {b1 o1 b3 k : Nat} {A A2 : Option Addr} {nl c n1 c1 n2 c2 : Nat} {o t la nn : Int} {a : Act} {w : World} (t1 : a.eval (.tmp 1) = .slice (some ⟨b1, o1, none⟩) n1 c1) (t2 : a.eval (.tmp 2) = .slice A2 n2 c2) (t3 : a.eval (.tmp 3) = .pointer (some ⟨b3, 0, none⟩)) (t7 : a.eval (.tmp 7) = .int .i64 la) (t8 : a.eval (.tmp 8) = .int .i64 k) (q0 : w.cell? ⟨b3, 0, none⟩ = some (.int .i64 o)) (q1 : w.cell? ⟨b3, 1, none⟩ = some (.int .i64 t)) (q2 : w.cell? ⟨b3, 2, none⟩ = some (.slice A nl c)) (hnl : nl ≤ 12) (hk : k < n1) (m0 : w.cell? ⟨b1, o1 + k, none⟩ = some (.int .i64 nn)) (hi' : CV w 31 #[.int .i64 nn, .int .i64 0, .int .i64 (nl - 1)] (.bool false)) : OpOk Try.prog opsTr0 (wordsTr0 b1 o1 b3 k A A2 nl c n1 c1 n2 c2 o t la nn) 66 a w 10 := by
  refine OpOk.gen rfl (fun a1 w1 H => ?_)
  have d9 : a1.eval (.tmp 38) = .bool true := H.dep 9 38 rfl (by kernel_rfl)
  refine gd_none ?_
  exact OpW.move d9 rfl
set_option maxRecDepth 10000 in
theorem okTr0_11 {b1 o1 b3 k : Nat} {A A2 : Option Addr} {nl c n1 c1 n2 c2 : Nat} {o t la nn : Int} {a : Act} {w : World} (t1 : a.eval (.tmp 1) = .slice (some ⟨b1, o1, none⟩) n1 c1) (t2 : a.eval (.tmp 2) = .slice A2 n2 c2) (t3 : a.eval (.tmp 3) = .pointer (some ⟨b3, 0, none⟩)) (t7 : a.eval (.tmp 7) = .int .i64 la) (t8 : a.eval (.tmp 8) = .int .i64 k) (q0 : w.cell? ⟨b3, 0, none⟩ = some (.int .i64 o)) (q1 : w.cell? ⟨b3, 1, none⟩ = some (.int .i64 t)) (q2 : w.cell? ⟨b3, 2, none⟩ = some (.slice A nl c)) (hnl : nl ≤ 12) (hk : k < n1) (m0 : w.cell? ⟨b1, o1 + k, none⟩ = some (.int .i64 nn)) (hi' : CV w 31 #[.int .i64 nn, .int .i64 0, .int .i64 (nl - 1)] (.bool false)) : OpOk Try.prog opsTr0 (wordsTr0 b1 o1 b3 k A A2 nl c n1 c1 n2 c2 o t la nn) 66 a w 11 := by
  refine OpOk.gen rfl (fun a1 w1 H => ?_)
  have d10 : a1.eval (.tmp 39) = .bool true := H.dep 10 39 rfl (by kernel_rfl)
  refine gd_false rfl d10 (by decide) ?_
  trivial
set_option maxRecDepth 10000 in
theorem okTr0_12 {b1 o1 b3 k : Nat} {A A2 : Option Addr} {nl c n1 c1 n2 c2 : Nat} {o t la nn : Int} {a : Act} {w : World} (t1 : a.eval (.tmp 1) = .slice (some ⟨b1, o1, none⟩) n1 c1) (t2 : a.eval (.tmp 2) = .slice A2 n2 c2) (t3 : a.eval (.tmp 3) = .pointer (some ⟨b3, 0, none⟩)) (t7 : a.eval (.tmp 7) = .int .i64 la) (t8 : a.eval (.tmp 8) = .int .i64 k) (q0 : w.cell? ⟨b3, 0, none⟩ = some (.int .i64 o)) (q1 : w.cell? ⟨b3, 1, none⟩ = some (.int .i64 t)) (q2 : w.cell? ⟨b3, 2, none⟩ = some (.slice A nl c)) (hnl : nl ≤ 12) (hk : k < n1) (m0 : w.cell? ⟨b1, o1 + k, none⟩ = some (.int .i64 nn)) (hi' : CV w 31 #[.int .i64 nn, .int .i64 0, .int .i64 (nl - 1)] (.bool false)) : OpOk Try.prog opsTr0 (wordsTr0 b1 o1 b3 k A A2 nl c n1 c1 n2 c2 o t la nn) 66 a w 12 := by
  refine OpOk.gen rfl (fun a1 w1 H => ?_)
  have d10 : a1.eval (.tmp 39) = .bool true := H.dep 10 39 rfl (by kernel_rfl)
  refine gd_false rfl d10 (by decide) ?_
  trivial
set_option maxRecDepth 10000 in
theorem okTr0_13 {b1 o1 b3 k : Nat} {A A2 : Option Addr} {nl c n1 c1 n2 c2 : Nat} {o t la nn : Int} {a : Act} {w : World} (t1 : a.eval (.tmp 1) = .slice (some ⟨b1, o1, none⟩) n1 c1) (t2 : a.eval (.tmp 2) = .slice A2 n2 c2) (t3 : a.eval (.tmp 3) = .pointer (some ⟨b3, 0, none⟩)) (t7 : a.eval (.tmp 7) = .int .i64 la) (t8 : a.eval (.tmp 8) = .int .i64 k) (q0 : w.cell? ⟨b3, 0, none⟩ = some (.int .i64 o)) (q1 : w.cell? ⟨b3, 1, none⟩ = some (.int .i64 t)) (q2 : w.cell? ⟨b3, 2, none⟩ = some (.slice A nl c)) (hnl : nl ≤ 12) (hk : k < n1) (m0 : w.cell? ⟨b1, o1 + k, none⟩ = some (.int .i64 nn)) (hi' : CV w 31 #[.int .i64 nn, .int .i64 0, .int .i64 (nl - 1)] (.bool false)) : OpOk Try.prog opsTr0 (wordsTr0 b1 o1 b3 k A A2 nl c n1 c1 n2 c2 o t la nn) 66 a w 13 := by
  refine OpOk.gen rfl (fun a1 w1 H => ?_)
  have d10 : a1.eval (.tmp 39) = .bool true := H.dep 10 39 rfl (by kernel_rfl)
  refine gd_false rfl d10 (by decide) ?_
  trivial
set_option maxRecDepth 10000 in
theorem okTr0_14 {b1 o1 b3 k : Nat} {A A2 : Option Addr} {nl c n1 c1 n2 c2 : Nat} {o t la nn : Int} {a : Act} {w : World} (t1 : a.eval (.tmp 1) = .slice (some ⟨b1, o1, none⟩) n1 c1) (t2 : a.eval (.tmp 2) = .slice A2 n2 c2) (t3 : a.eval (.tmp 3) = .pointer (some ⟨b3, 0, none⟩)) (t7 : a.eval (.tmp 7) = .int .i64 la) (t8 : a.eval (.tmp 8) = .int .i64 k) (q0 : w.cell? ⟨b3, 0, none⟩ = some (.int .i64 o)) (q1 : w.cell? ⟨b3, 1, none⟩ = some (.int .i64 t)) (q2 : w.cell? ⟨b3, 2, none⟩ = some (.slice A nl c)) (hnl : nl ≤ 12) (hk : k < n1) (m0 : w.cell? ⟨b1, o1 + k, none⟩ = some (.int .i64 nn)) (hi' : CV w 31 #[.int .i64 nn, .int .i64 0, .int .i64 (nl - 1)] (.bool false)) : OpOk Try.prog opsTr0 (wordsTr0 b1 o1 b3 k A A2 nl c n1 c1 n2 c2 o t la nn) 66 a w 14 := by
  refine OpOk.gen rfl (fun a1 w1 H => ?_)
  have d10 : a1.eval (.tmp 39) = .bool true := H.dep 10 39 rfl (by kernel_rfl)
  refine gd_false rfl d10 (by decide) ?_
  trivial
set_option maxRecDepth 10000 in
theorem okTr0_15 {b1 o1 b3 k : Nat} {A A2 : Option Addr} {nl c n1 c1 n2 c2 : Nat} {o t la nn : Int} {a : Act} {w : World} (t1 : a.eval (.tmp 1) = .slice (some ⟨b1, o1, none⟩) n1 c1) (t2 : a.eval (.tmp 2) = .slice A2 n2 c2) (t3 : a.eval (.tmp 3) = .pointer (some ⟨b3, 0, none⟩)) (t7 : a.eval (.tmp 7) = .int .i64 la) (t8 : a.eval (.tmp 8) = .int .i64 k) (q0 : w.cell? ⟨b3, 0, none⟩ = some (.int .i64 o)) (q1 : w.cell? ⟨b3, 1, none⟩ = some (.int .i64 t)) (q2 : w.cell? ⟨b3, 2, none⟩ = some (.slice A nl c)) (hnl : nl ≤ 12) (hk : k < n1) (m0 : w.cell? ⟨b1, o1 + k, none⟩ = some (.int .i64 nn)) (hi' : CV w 31 #[.int .i64 nn, .int .i64 0, .int .i64 (nl - 1)] (.bool false)) : OpOk Try.prog opsTr0 (wordsTr0 b1 o1 b3 k A A2 nl c n1 c1 n2 c2 o t la nn) 66 a w 15 := by
  refine OpOk.gen rfl (fun a1 w1 H => ?_)
  have d10 : a1.eval (.tmp 39) = .bool true := H.dep 10 39 rfl (by kernel_rfl)
  refine gd_false rfl d10 (by decide) ?_
  trivial
set_option maxRecDepth 10000 in
theorem okTr0_16 {b1 o1 b3 k : Nat} {A A2 : Option Addr} {nl c n1 c1 n2 c2 : Nat} {o t la nn : Int} {a : Act} {w : World} (t1 : a.eval (.tmp 1) = .slice (some ⟨b1, o1, none⟩) n1 c1) (t2 : a.eval (.tmp 2) = .slice A2 n2 c2) (t3 : a.eval (.tmp 3) = .pointer (some ⟨b3, 0, none⟩)) (t7 : a.eval (.tmp 7) = .int .i64 la) (t8 : a.eval (.tmp 8) = .int .i64 k) (q0 : w.cell? ⟨b3, 0, none⟩ = some (.int .i64 o)) (q1 : w.cell? ⟨b3, 1, none⟩ = some (.int .i64 t)) (q2 : w.cell? ⟨b3, 2, none⟩ = some (.slice A nl c)) (hnl : nl ≤ 12) (hk : k < n1) (m0 : w.cell? ⟨b1, o1 + k, none⟩ = some (.int .i64 nn)) (hi' : CV w 31 #[.int .i64 nn, .int .i64 0, .int .i64 (nl - 1)] (.bool false)) : OpOk Try.prog opsTr0 (wordsTr0 b1 o1 b3 k A A2 nl c n1 c1 n2 c2 o t la nn) 66 a w 16 := by
  refine OpOk.gen rfl (fun a1 w1 H => ?_)
  have d10 : a1.eval (.tmp 39) = .bool true := H.dep 10 39 rfl (by kernel_rfl)
  refine gd_false rfl d10 (by decide) ?_
  trivial
set_option maxRecDepth 10000 in
theorem okTr0_17 {b1 o1 b3 k : Nat} {A A2 : Option Addr} {nl c n1 c1 n2 c2 : Nat} {o t la nn : Int} {a : Act} {w : World} (t1 : a.eval (.tmp 1) = .slice (some ⟨b1, o1, none⟩) n1 c1) (t2 : a.eval (.tmp 2) = .slice A2 n2 c2) (t3 : a.eval (.tmp 3) = .pointer (some ⟨b3, 0, none⟩)) (t7 : a.eval (.tmp 7) = .int .i64 la) (t8 : a.eval (.tmp 8) = .int .i64 k) (q0 : w.cell? ⟨b3, 0, none⟩ = some (.int .i64 o)) (q1 : w.cell? ⟨b3, 1, none⟩ = some (.int .i64 t)) (q2 : w.cell? ⟨b3, 2, none⟩ = some (.slice A nl c)) (hnl : nl ≤ 12) (hk : k < n1) (m0 : w.cell? ⟨b1, o1 + k, none⟩ = some (.int .i64 nn)) (hi' : CV w 31 #[.int .i64 nn, .int .i64 0, .int .i64 (nl - 1)] (.bool false)) : OpOk Try.prog opsTr0 (wordsTr0 b1 o1 b3 k A A2 nl c n1 c1 n2 c2 o t la nn) 66 a w 17 := by
  refine OpOk.gen rfl (fun a1 w1 H => ?_)
  have d10 : a1.eval (.tmp 39) = .bool true := H.dep 10 39 rfl (by kernel_rfl)
  refine gd_false rfl d10 (by decide) ?_
  trivial
set_option maxRecDepth 10000 in
theorem okTr0_18 {b1 o1 b3 k : Nat} {A A2 : Option Addr} {nl c n1 c1 n2 c2 : Nat} {o t la nn : Int} {a : Act} {w : World} (t1 : a.eval (.tmp 1) = .slice (some ⟨b1, o1, none⟩) n1 c1) (t2 : a.eval (.tmp 2) = .slice A2 n2 c2) (t3 : a.eval (.tmp 3) = .pointer (some ⟨b3, 0, none⟩)) (t7 : a.eval (.tmp 7) = .int .i64 la) (t8 : a.eval (.tmp 8) = .int .i64 k) (q0 : w.cell? ⟨b3, 0, none⟩ = some (.int .i64 o)) (q1 : w.cell? ⟨b3, 1, none⟩ = some (.int .i64 t)) (q2 : w.cell? ⟨b3, 2, none⟩ = some (.slice A nl c)) (hnl : nl ≤ 12) (hk : k < n1) (m0 : w.cell? ⟨b1, o1 + k, none⟩ = some (.int .i64 nn)) (hi' : CV w 31 #[.int .i64 nn, .int .i64 0, .int .i64 (nl - 1)] (.bool false)) : OpOk Try.prog opsTr0 (wordsTr0 b1 o1 b3 k A A2 nl c n1 c1 n2 c2 o t la nn) 66 a w 18 := by
  refine OpOk.gen rfl (fun a1 w1 H => ?_)
  have d10 : a1.eval (.tmp 39) = .bool true := H.dep 10 39 rfl (by kernel_rfl)
  refine gd_false rfl d10 (by decide) ?_
  trivial
set_option maxRecDepth 10000 in
theorem okTr0_19 {b1 o1 b3 k : Nat} {A A2 : Option Addr} {nl c n1 c1 n2 c2 : Nat} {o t la nn : Int} {a : Act} {w : World} (t1 : a.eval (.tmp 1) = .slice (some ⟨b1, o1, none⟩) n1 c1) (t2 : a.eval (.tmp 2) = .slice A2 n2 c2) (t3 : a.eval (.tmp 3) = .pointer (some ⟨b3, 0, none⟩)) (t7 : a.eval (.tmp 7) = .int .i64 la) (t8 : a.eval (.tmp 8) = .int .i64 k) (q0 : w.cell? ⟨b3, 0, none⟩ = some (.int .i64 o)) (q1 : w.cell? ⟨b3, 1, none⟩ = some (.int .i64 t)) (q2 : w.cell? ⟨b3, 2, none⟩ = some (.slice A nl c)) (hnl : nl ≤ 12) (hk : k < n1) (m0 : w.cell? ⟨b1, o1 + k, none⟩ = some (.int .i64 nn)) (hi' : CV w 31 #[.int .i64 nn, .int .i64 0, .int .i64 (nl - 1)] (.bool false)) : OpOk Try.prog opsTr0 (wordsTr0 b1 o1 b3 k A A2 nl c n1 c1 n2 c2 o t la nn) 66 a w 19 := by
  refine OpOk.gen rfl (fun a1 w1 H => ?_)
  have d10 : a1.eval (.tmp 39) = .bool true := H.dep 10 39 rfl (by kernel_rfl)
  refine gd_false rfl d10 (by decide) ?_
  trivial
set_option maxRecDepth 10000 in
theorem okTr0_20 {b1 o1 b3 k : Nat} {A A2 : Option Addr} {nl c n1 c1 n2 c2 : Nat} {o t la nn : Int} {a : Act} {w : World} (t1 : a.eval (.tmp 1) = .slice (some ⟨b1, o1, none⟩) n1 c1) (t2 : a.eval (.tmp 2) = .slice A2 n2 c2) (t3 : a.eval (.tmp 3) = .pointer (some ⟨b3, 0, none⟩)) (t7 : a.eval (.tmp 7) = .int .i64 la) (t8 : a.eval (.tmp 8) = .int .i64 k) (q0 : w.cell? ⟨b3, 0, none⟩ = some (.int .i64 o)) (q1 : w.cell? ⟨b3, 1, none⟩ = some (.int .i64 t)) (q2 : w.cell? ⟨b3, 2, none⟩ = some (.slice A nl c)) (hnl : nl ≤ 12) (hk : k < n1) (m0 : w.cell? ⟨b1, o1 + k, none⟩ = some (.int .i64 nn)) (hi' : CV w 31 #[.int .i64 nn, .int .i64 0, .int .i64 (nl - 1)] (.bool false)) : OpOk Try.prog opsTr0 (wordsTr0 b1 o1 b3 k A A2 nl c n1 c1 n2 c2 o t la nn) 66 a w 20 := by
  refine OpOk.gen rfl (fun a1 w1 H => ?_)
  have d10 : a1.eval (.tmp 39) = .bool true := H.dep 10 39 rfl (by kernel_rfl)
  refine gd_false rfl d10 (by decide) ?_
  trivial
set_option maxRecDepth 10000 in
theorem okTr0_21 {b1 o1 b3 k : Nat} {A A2 : Option Addr} {nl c n1 c1 n2 c2 : Nat} {o t la nn : Int} {a : Act} {w : World} (t1 : a.eval (.tmp 1) = .slice (some ⟨b1, o1, none⟩) n1 c1) (t2 : a.eval (.tmp 2) = .slice A2 n2 c2) (t3 : a.eval (.tmp 3) = .pointer (some ⟨b3, 0, none⟩)) (t7 : a.eval (.tmp 7) = .int .i64 la) (t8 : a.eval (.tmp 8) = .int .i64 k) (q0 : w.cell? ⟨b3, 0, none⟩ = some (.int .i64 o)) (q1 : w.cell? ⟨b3, 1, none⟩ = some (.int .i64 t)) (q2 : w.cell? ⟨b3, 2, none⟩ = some (.slice A nl c)) (hnl : nl ≤ 12) (hk : k < n1) (m0 : w.cell? ⟨b1, o1 + k, none⟩ = some (.int .i64 nn)) (hi' : CV w 31 #[.int .i64 nn, .int .i64 0, .int .i64 (nl - 1)] (.bool false)) : OpOk Try.prog opsTr0 (wordsTr0 b1 o1 b3 k A A2 nl c n1 c1 n2 c2 o t la nn) 66 a w 21 := by
  refine OpOk.gen rfl (fun a1 w1 H => ?_)
  have d10 : a1.eval (.tmp 39) = .bool true := H.dep 10 39 rfl (by kernel_rfl)
  refine gd_false rfl d10 (by decide) ?_
  trivial
set_option maxRecDepth 10000 in
theorem okTr0_22 {b1 o1 b3 k : Nat} {A A2 : Option Addr} {nl c n1 c1 n2 c2 : Nat} {o t la nn : Int} {a : Act} {w : World} (t1 : a.eval (.tmp 1) = .slice (some ⟨b1, o1, none⟩) n1 c1) (t2 : a.eval (.tmp 2) = .slice A2 n2 c2) (t3 : a.eval (.tmp 3) = .pointer (some ⟨b3, 0, none⟩)) (t7 : a.eval (.tmp 7) = .int .i64 la) (t8 : a.eval (.tmp 8) = .int .i64 k) (q0 : w.cell? ⟨b3, 0, none⟩ = some (.int .i64 o)) (q1 : w.cell? ⟨b3, 1, none⟩ = some (.int .i64 t)) (q2 : w.cell? ⟨b3, 2, none⟩ = some (.slice A nl c)) (hnl : nl ≤ 12) (hk : k < n1) (m0 : w.cell? ⟨b1, o1 + k, none⟩ = some (.int .i64 nn)) (hi' : CV w 31 #[.int .i64 nn, .int .i64 0, .int .i64 (nl - 1)] (.bool false)) : OpOk Try.prog opsTr0 (wordsTr0 b1 o1 b3 k A A2 nl c n1 c1 n2 c2 o t la nn) 66 a w 22 := by
  refine OpOk.gen rfl (fun a1 w1 H => ?_)
  have d10 : a1.eval (.tmp 39) = .bool true := H.dep 10 39 rfl (by kernel_rfl)
  refine gd_false rfl d10 (by decide) ?_
  trivial
set_option maxRecDepth 10000 in
theorem okTr0_23 {b1 o1 b3 k : Nat} {A A2 : Option Addr} {nl c n1 c1 n2 c2 : Nat} {o t la nn : Int} {a : Act} {w : World} (t1 : a.eval (.tmp 1) = .slice (some ⟨b1, o1, none⟩) n1 c1) (t2 : a.eval (.tmp 2) = .slice A2 n2 c2) (t3 : a.eval (.tmp 3) = .pointer (some ⟨b3, 0, none⟩)) (t7 : a.eval (.tmp 7) = .int .i64 la) (t8 : a.eval (.tmp 8) = .int .i64 k) (q0 : w.cell? ⟨b3, 0, none⟩ = some (.int .i64 o)) (q1 : w.cell? ⟨b3, 1, none⟩ = some (.int .i64 t)) (q2 : w.cell? ⟨b3, 2, none⟩ = some (.slice A nl c)) (hnl : nl ≤ 12) (hk : k < n1) (m0 : w.cell? ⟨b1, o1 + k, none⟩ = some (.int .i64 nn)) (hi' : CV w 31 #[.int .i64 nn, .int .i64 0, .int .i64 (nl - 1)] (.bool false)) : OpOk Try.prog opsTr0 (wordsTr0 b1 o1 b3 k A A2 nl c n1 c1 n2 c2 o t la nn) 66 a w 23 := by
  refine OpOk.gen rfl (fun a1 w1 H => ?_)
  have d10 : a1.eval (.tmp 39) = .bool true := H.dep 10 39 rfl (by kernel_rfl)
  refine gd_false rfl d10 (by decide) ?_
  trivial
set_option maxRecDepth 10000 in
theorem okTr0_24 {b1 o1 b3 k : Nat} {A A2 : Option Addr} {nl c n1 c1 n2 c2 : Nat} {o t la nn : Int} {a : Act} {w : World} (t1 : a.eval (.tmp 1) = .slice (some ⟨b1, o1, none⟩) n1 c1) (t2 : a.eval (.tmp 2) = .slice A2 n2 c2) (t3 : a.eval (.tmp 3) = .pointer (some ⟨b3, 0, none⟩)) (t7 : a.eval (.tmp 7) = .int .i64 la) (t8 : a.eval (.tmp 8) = .int .i64 k) (q0 : w.cell? ⟨b3, 0, none⟩ = some (.int .i64 o)) (q1 : w.cell? ⟨b3, 1, none⟩ = some (.int .i64 t)) (q2 : w.cell? ⟨b3, 2, none⟩ = some (.slice A nl c)) (hnl : nl ≤ 12) (hk : k < n1) (m0 : w.cell? ⟨b1, o1 + k, none⟩ = some (.int .i64 nn)) (hi' : CV w 31 #[.int .i64 nn, .int .i64 0, .int .i64 (nl - 1)] (.bool false)) : OpOk Try.prog opsTr0 (wordsTr0 b1 o1 b3 k A A2 nl c n1 c1 n2 c2 o t la nn) 66 a w 24 := by
  refine OpOk.gen rfl (fun a1 w1 H => ?_)
  have d10 : a1.eval (.tmp 39) = .bool true := H.dep 10 39 rfl (by kernel_rfl)
  refine gd_false rfl d10 (by decide) ?_
  trivial
set_option maxRecDepth 10000 in
theorem okTr0_25 {b1 o1 b3 k : Nat} {A A2 : Option Addr} {nl c n1 c1 n2 c2 : Nat} {o t la nn : Int} {a : Act} {w : World} (t1 : a.eval (.tmp 1) = .slice (some ⟨b1, o1, none⟩) n1 c1) (t2 : a.eval (.tmp 2) = .slice A2 n2 c2) (t3 : a.eval (.tmp 3) = .pointer (some ⟨b3, 0, none⟩)) (t7 : a.eval (.tmp 7) = .int .i64 la) (t8 : a.eval (.tmp 8) = .int .i64 k) (q0 : w.cell? ⟨b3, 0, none⟩ = some (.int .i64 o)) (q1 : w.cell? ⟨b3, 1, none⟩ = some (.int .i64 t)) (q2 : w.cell? ⟨b3, 2, none⟩ = some (.slice A nl c)) (hnl : nl ≤ 12) (hk : k < n1) (m0 : w.cell? ⟨b1, o1 + k, none⟩ = some (.int .i64 nn)) (hi' : CV w 31 #[.int .i64 nn, .int .i64 0, .int .i64 (nl - 1)] (.bool false)) : OpOk Try.prog opsTr0 (wordsTr0 b1 o1 b3 k A A2 nl c n1 c1 n2 c2 o t la nn) 66 a w 25 := by
  refine OpOk.gen rfl (fun a1 w1 H => ?_)
  have d10 : a1.eval (.tmp 39) = .bool true := H.dep 10 39 rfl (by kernel_rfl)
  refine gd_false rfl d10 (by decide) ?_
  trivial
set_option maxRecDepth 10000 in
theorem okTr0_26 {b1 o1 b3 k : Nat} {A A2 : Option Addr} {nl c n1 c1 n2 c2 : Nat} {o t la nn : Int} {a : Act} {w : World} (t1 : a.eval (.tmp 1) = .slice (some ⟨b1, o1, none⟩) n1 c1) (t2 : a.eval (.tmp 2) = .slice A2 n2 c2) (t3 : a.eval (.tmp 3) = .pointer (some ⟨b3, 0, none⟩)) (t7 : a.eval (.tmp 7) = .int .i64 la) (t8 : a.eval (.tmp 8) = .int .i64 k) (q0 : w.cell? ⟨b3, 0, none⟩ = some (.int .i64 o)) (q1 : w.cell? ⟨b3, 1, none⟩ = some (.int .i64 t)) (q2 : w.cell? ⟨b3, 2, none⟩ = some (.slice A nl c)) (hnl : nl ≤ 12) (hk : k < n1) (m0 : w.cell? ⟨b1, o1 + k, none⟩ = some (.int .i64 nn)) (hi' : CV w 31 #[.int .i64 nn, .int .i64 0, .int .i64 (nl - 1)] (.bool false)) : OpOk Try.prog opsTr0 (wordsTr0 b1 o1 b3 k A A2 nl c n1 c1 n2 c2 o t la nn) 66 a w 26 := by
  refine OpOk.gen rfl (fun a1 w1 H => ?_)
  have d10 : a1.eval (.tmp 39) = .bool true := H.dep 10 39 rfl (by kernel_rfl)
  refine gd_false rfl d10 (by decide) ?_
  trivial
set_option maxRecDepth 10000 in
theorem okTr0_27 {b1 o1 b3 k : Nat} {A A2 : Option Addr} {nl c n1 c1 n2 c2 : Nat} {o t la nn : Int} {a : Act} {w : World} (t1 : a.eval (.tmp 1) = .slice (some ⟨b1, o1, none⟩) n1 c1) (t2 : a.eval (.tmp 2) = .slice A2 n2 c2) (t3 : a.eval (.tmp 3) = .pointer (some ⟨b3, 0, none⟩)) (t7 : a.eval (.tmp 7) = .int .i64 la) (t8 : a.eval (.tmp 8) = .int .i64 k) (q0 : w.cell? ⟨b3, 0, none⟩ = some (.int .i64 o)) (q1 : w.cell? ⟨b3, 1, none⟩ = some (.int .i64 t)) (q2 : w.cell? ⟨b3, 2, none⟩ = some (.slice A nl c)) (hnl : nl ≤ 12) (hk : k < n1) (m0 : w.cell? ⟨b1, o1 + k, none⟩ = some (.int .i64 nn)) (hi' : CV w 31 #[.int .i64 nn, .int .i64 0, .int .i64 (nl - 1)] (.bool false)) : OpOk Try.prog opsTr0 (wordsTr0 b1 o1 b3 k A A2 nl c n1 c1 n2 c2 o t la nn) 66 a w 27 := by
  refine OpOk.gen rfl (fun a1 w1 H => ?_)
  have d10 : a1.eval (.tmp 39) = .bool true := H.dep 10 39 rfl (by kernel_rfl)
  refine gd_false rfl d10 (by decide) ?_
  trivial
set_option maxRecDepth 10000 in
theorem okTr0_28 {b1 o1 b3 k : Nat} {A A2 : Option Addr} {nl c n1 c1 n2 c2 : Nat} {o t la nn : Int} {a : Act} {w : World} (t1 : a.eval (.tmp 1) = .slice (some ⟨b1, o1, none⟩) n1 c1) (t2 : a.eval (.tmp 2) = .slice A2 n2 c2) (t3 : a.eval (.tmp 3) = .pointer (some ⟨b3, 0, none⟩)) (t7 : a.eval (.tmp 7) = .int .i64 la) (t8 : a.eval (.tmp 8) = .int .i64 k) (q0 : w.cell? ⟨b3, 0, none⟩ = some (.int .i64 o)) (q1 : w.cell? ⟨b3, 1, none⟩ = some (.int .i64 t)) (q2 : w.cell? ⟨b3, 2, none⟩ = some (.slice A nl c)) (hnl : nl ≤ 12) (hk : k < n1) (m0 : w.cell? ⟨b1, o1 + k, none⟩ = some (.int .i64 nn)) (hi' : CV w 31 #[.int .i64 nn, .int .i64 0, .int .i64 (nl - 1)] (.bool false)) : OpOk Try.prog opsTr0 (wordsTr0 b1 o1 b3 k A A2 nl c n1 c1 n2 c2 o t la nn) 66 a w 28 := by
  refine OpOk.gen rfl (fun a1 w1 H => ?_)
  have d10 : a1.eval (.tmp 39) = .bool true := H.dep 10 39 rfl (by kernel_rfl)
  refine gd_false rfl d10 (by decide) ?_
  trivial
set_option maxRecDepth 10000 in
theorem okTr0_29 {b1 o1 b3 k : Nat} {A A2 : Option Addr} {nl c n1 c1 n2 c2 : Nat} {o t la nn : Int} {a : Act} {w : World} (t1 : a.eval (.tmp 1) = .slice (some ⟨b1, o1, none⟩) n1 c1) (t2 : a.eval (.tmp 2) = .slice A2 n2 c2) (t3 : a.eval (.tmp 3) = .pointer (some ⟨b3, 0, none⟩)) (t7 : a.eval (.tmp 7) = .int .i64 la) (t8 : a.eval (.tmp 8) = .int .i64 k) (q0 : w.cell? ⟨b3, 0, none⟩ = some (.int .i64 o)) (q1 : w.cell? ⟨b3, 1, none⟩ = some (.int .i64 t)) (q2 : w.cell? ⟨b3, 2, none⟩ = some (.slice A nl c)) (hnl : nl ≤ 12) (hk : k < n1) (m0 : w.cell? ⟨b1, o1 + k, none⟩ = some (.int .i64 nn)) (hi' : CV w 31 #[.int .i64 nn, .int .i64 0, .int .i64 (nl - 1)] (.bool false)) : OpOk Try.prog opsTr0 (wordsTr0 b1 o1 b3 k A A2 nl c n1 c1 n2 c2 o t la nn) 66 a w 29 := by
  refine OpOk.gen rfl (fun a1 w1 H => ?_)
  have d10 : a1.eval (.tmp 39) = .bool true := H.dep 10 39 rfl (by kernel_rfl)
  refine gd_none ?_
  exact OpW.pick (b := true) d10 rfl
set_option maxRecDepth 10000 in
theorem regionTr0 {F : Fence} {n : Nat} (hF : WideF F Try.prog) {Q : Exit → Act → World → Prop} {b1 o1 b3 k : Nat} {A A2 : Option Addr} {nl c n1 c1 n2 c2 : Nat} {o t la nn : Int} {a : Act} {w : World} (hsz : a.tmps.size = 66)
    (t1 : a.eval (.tmp 1) = .slice (some ⟨b1, o1, none⟩) n1 c1) (t2 : a.eval (.tmp 2) = .slice A2 n2 c2) (t3 : a.eval (.tmp 3) = .pointer (some ⟨b3, 0, none⟩)) (t7 : a.eval (.tmp 7) = .int .i64 la) (t8 : a.eval (.tmp 8) = .int .i64 k) (q0 : w.cell? ⟨b3, 0, none⟩ = some (.int .i64 o)) (q1 : w.cell? ⟨b3, 1, none⟩ = some (.int .i64 t)) (q2 : w.cell? ⟨b3, 2, none⟩ = some (.slice A nl c)) (hnl : nl ≤ 12) (hk : k < n1) (m0 : w.cell? ⟨b1, o1 + k, none⟩ = some (.int .i64 nn)) (hi' : CV w 31 #[.int .i64 nn, .int .i64 0, .int .i64 (nl - 1)] (.bool false))
    (hK : ∀ (a' : Act) (w' : World), a'.tmps.size = 66 → a'.defers = a.defers → Below w.heap.size w w' → (∀ e, ndstB opsTr0 e = true → a'.eval (.tmp e) = a.eval (.tmp e)) → (∀ (j d : Nat), (opsTr0[j]?).bind (·.dst) = some d → (wordsTr0 b1 o1 b3 k A A2 nl c n1 c1 n2 c2 o t la nn).at_ j (a'.eval (.tmp d)) w') → Q .normal a' w') :
    (Code.region 7 opsTr0 true).wpIn F n Try.prog Q a w := by
  refine region_S (wordsTr0 b1 o1 b3 k A A2 nl c n1 c1 n2 c2 o t la nn) 66 hF (by kernel_rfl) Try.mixed (by kernel_rfl) (by kernel_rfl) ?_ hsz 30 (by kernel_rfl) ?_ hK
  · exact ⟨(fun _ _ _ h _ => h), (fun _ _ _ h _ => h), (fun _ _ _ h _ => h), (fun _ _ _ h _ => h), (fun _ _ _ h _ => h), (fun _ _ _ h _ => h), (fun _ _ _ h _ => h), (fun _ _ _ h _ => h), (fun _ _ _ h _ => h), (fun _ _ _ h _ => h), (fun _ _ _ h _ => h), (fun _ _ _ _ _ => trivial), (fun _ _ _ _ _ => trivial), (fun _ _ _ _ _ => trivial), (fun _ _ _ _ _ => trivial), (fun _ _ _ _ _ => trivial), (fun _ _ _ _ _ => trivial), (fun _ _ _ _ _ => trivial), (fun _ _ _ _ _ => trivial), (fun _ _ _ _ _ => trivial), (fun _ _ _ _ _ => trivial), (fun _ _ _ _ _ => trivial), (fun _ _ _ _ _ => trivial), (fun _ _ _ _ _ => trivial), (fun _ _ _ _ _ => trivial), (fun _ _ _ _ _ => trivial), (fun _ _ _ _ _ => trivial), (fun _ _ _ _ _ => trivial), (fun _ _ _ _ _ => trivial), (fun _ _ _ h _ => h), trivial⟩
  · exact ⟨⟨⟨⟨⟨⟨⟨⟨⟨⟨⟨⟨⟨⟨⟨⟨⟨⟨⟨⟨⟨⟨⟨⟨⟨⟨⟨⟨⟨⟨trivial, okTr0_0 t1 t2 t3 t7 t8 q0 q1 q2 hnl hk m0 hi'.drew⟩, okTr0_1 t1 t2 t3 t7 t8 q0 q1 q2 hnl hk m0 hi'.drew⟩, okTr0_2 t1 t2 t3 t7 t8 q0 q1 q2 hnl hk m0 hi'.drew⟩, okTr0_3 t1 t2 t3 t7 t8 q0 q1 q2 hnl hk m0 hi'.drew⟩, okTr0_4 t1 t2 t3 t7 t8 q0 q1 q2 hnl hk m0 hi'.drew⟩, okTr0_5 t1 t2 t3 t7 t8 q0 q1 q2 hnl hk m0 hi'.drew⟩, okTr0_6 t1 t2 t3 t7 t8 q0 q1 q2 hnl hk m0 hi'.drew⟩, okTr0_7 t1 t2 t3 t7 t8 q0 q1 q2 hnl hk m0 hi'.drew⟩, okTr0_8 t1 t2 t3 t7 t8 q0 q1 q2 hnl hk m0 hi'.drew⟩, okTr0_9 t1 t2 t3 t7 t8 q0 q1 q2 hnl hk m0 hi'.drew⟩, okTr0_10 t1 t2 t3 t7 t8 q0 q1 q2 hnl hk m0 hi'.drew⟩, okTr0_11 t1 t2 t3 t7 t8 q0 q1 q2 hnl hk m0 hi'.drew⟩, okTr0_12 t1 t2 t3 t7 t8 q0 q1 q2 hnl hk m0 hi'.drew⟩, okTr0_13 t1 t2 t3 t7 t8 q0 q1 q2 hnl hk m0 hi'.drew⟩, okTr0_14 t1 t2 t3 t7 t8 q0 q1 q2 hnl hk m0 hi'.drew⟩, okTr0_15 t1 t2 t3 t7 t8 q0 q1 q2 hnl hk m0 hi'.drew⟩, okTr0_16 t1 t2 t3 t7 t8 q0 q1 q2 hnl hk m0 hi'.drew⟩, okTr0_17 t1 t2 t3 t7 t8 q0 q1 q2 hnl hk m0 hi'.drew⟩, okTr0_18 t1 t2 t3 t7 t8 q0 q1 q2 hnl hk m0 hi'.drew⟩, okTr0_19 t1 t2 t3 t7 t8 q0 q1 q2 hnl hk m0 hi'.drew⟩, okTr0_20 t1 t2 t3 t7 t8 q0 q1 q2 hnl hk m0 hi'.drew⟩, okTr0_21 t1 t2 t3 t7 t8 q0 q1 q2 hnl hk m0 hi'.drew⟩, okTr0_22 t1 t2 t3 t7 t8 q0 q1 q2 hnl hk m0 hi'.drew⟩, okTr0_23 t1 t2 t3 t7 t8 q0 q1 q2 hnl hk m0 hi'.drew⟩, okTr0_24 t1 t2 t3 t7 t8 q0 q1 q2 hnl hk m0 hi'.drew⟩, okTr0_25 t1 t2 t3 t7 t8 q0 q1 q2 hnl hk m0 hi'.drew⟩, okTr0_26 t1 t2 t3 t7 t8 q0 q1 q2 hnl hk m0 hi'.drew⟩, okTr0_27 t1 t2 t3 t7 t8 q0 q1 q2 hnl hk m0 hi'.drew⟩, okTr0_28 t1 t2 t3 t7 t8 q0 q1 q2 hnl hk m0 hi'.drew⟩, okTr0_29 t1 t2 t3 t7 t8 q0 q1 q2 hnl hk m0 hi'.drew⟩
noncomputable def opsTr1 : Array Oper := (Try.f22.body.bind (regionOf 7)).getD #[]
def wordsTr1 (b1 o1 b2 o2 b3 k jn : Nat) (A : Option Addr) (nl c n1 c1 n2 c2 : Nat) (o t la dy : Int) (mv : Bool) : Words := [fun v _ => v = .slice (some ⟨b1, o1, none⟩) n1 c1, fun v _ => v = .int .i64 k, fun v _ => v = .pointer (some ⟨b1, o1 + k, none⟩), fun v _ => v = .int .i64 jn, fun v _ => v = .pointer (some ⟨b3, 2, none⟩), fun v _ => v = .slice A nl c, fun v _ => v = .int .i64 nl, fun v _ => v = .int .i64 (nl - 1), fun v _ => v = .bool true, fun v _ => v = .bool false, fun v _ => v = .bool false, fun v _ => v = .agg #[.int .i64 o, .int .i64 t, .slice A nl c], fun v _ => v = .slice (some ⟨b1, o1, none⟩) n1 c1, fun v _ => v = .int .i64 k, fun v _ => v = .slice (some ⟨b1, o1, none⟩) k c1, fun v _ => v = .int .i64 la, fun v _ => v = .slice (some ⟨b1, o1, none⟩) n1 c1, fun v _ => v = .int .i64 k, fun v _ => v = .pointer (some ⟨b1, o1 + k, none⟩), fun v _ => v = .int .i64 jn, fun v _ => v = .slice (some ⟨b2, o2, none⟩) n2 c2, fun v _ => v = .slice (some ⟨b1, o1, none⟩) n1 c1, fun v _ => v = .int .i64 k, fun v _ => v = .pointer (some ⟨b1, o1 + k, none⟩), fun v _ => v = .int .i64 jn, fun v _ => v = .pointer (some ⟨b2, o2 + jn, none⟩), fun v _ => v = .int .i64 dy, fun v _ => v = .bool mv, fun v _ => v = .bool (!mv), fun v _ => v = .bool (!mv)]
set_option maxRecDepth 10000 in
theorem okTr1_0 {b1 o1 b2 o2 b3 k jn : Nat} {A : Option Addr} {nl c n1 c1 n2 c2 : Nat} {o t la dy : Int} {mv : Bool} {a : Act} {w : World} (t1 : a.eval (.tmp 1) = .slice (some ⟨b1, o1, none⟩) n1 c1) (t2 : a.eval (.tmp 2) = .slice (some ⟨b2, o2, none⟩) n2 c2) (t3 : a.eval (.tmp 3) = .pointer (some ⟨b3, 0, none⟩)) (t7 : a.eval (.tmp 7) = .int .i64 la) (t8 : a.eval (.tmp 8) = .int .i64 k) (q0 : w.cell? ⟨b3, 0, none⟩ = some (.int .i64 o)) (q1 : w.cell? ⟨b3, 1, none⟩ = some (.int .i64 t)) (q2 : w.cell? ⟨b3, 2, none⟩ = some (.slice A nl c)) (hnl : nl ≤ 12) (hk : k < n1) (m0 : w.cell? ⟨b1, o1 + k, none⟩ = some (.int .i64 jn)) (hi' : CV w 31 #[.int .i64 jn, .int .i64 0, .int .i64 (nl - 1)] (.bool true)) (m1 : w.cell? ⟨b2, o2 + jn, none⟩ = some (.int .i64 dy)) (hj : jn < n2) (hkc : k ≤ c1) (hm' : CV w 52 #[.agg #[.int .i64 o, .int .i64 t, .slice A nl c], .slice (some ⟨b1, o1, none⟩) k c1, .int .i64 la, .int .i64 jn, .int .i64 dy] (.bool mv)) : OpOk Try.prog opsTr1 (wordsTr1 b1 o1 b2 o2 b3 k jn A nl c n1 c1 n2 c2 o t la dy mv) 66 a w 0 := by
  refine OpOk.gen rfl (fun a1 w1 H => ?_)
  have e1 : a1.eval (.tmp 1) = .slice (some ⟨b1, o1, none⟩) n1 c1 := (H.out 1 (by kernel_rfl)).trans t1
  refine gd_none ?_
  exact OpW.move e1 rfl
set_option maxRecDepth 10000 in
theorem okTr1_1 {b1 o1 b2 o2 b3 k jn : Nat} {A : Option Addr} {nl c n1 c1 n2 c2 : Nat} {o t la dy : Int} {mv : Bool} {a : Act} {w : World} (t1 : a.eval (.tmp 1) = .slice (some ⟨b1, o1, none⟩) n1 c1) (t2 : a.eval (.tmp 2) = .slice (some ⟨b2, o2, none⟩) n2 c2) (t3 : a.eval (.tmp 3) = .pointer (some ⟨b3, 0, none⟩)) (t7 : a.eval (.tmp 7) = .int .i64 la) (t8 : a.eval (.tmp 8) = .int .i64 k) (q0 : w.cell? ⟨b3, 0, none⟩ = some (.int .i64 o)) (q1 : w.cell? ⟨b3, 1, none⟩ = some (.int .i64 t)) (q2 : w.cell? ⟨b3, 2, none⟩ = some (.slice A nl c)) (hnl : nl ≤ 12) (hk : k < n1) (m0 : w.cell? ⟨b1, o1 + k, none⟩ = some (.int .i64 jn)) (hi' : CV w 31 #[.int .i64 jn, .int .i64 0, .int .i64 (nl - 1)] (.bool true)) (m1 : w.cell? ⟨b2, o2 + jn, none⟩ = some (.int .i64 dy)) (hj : jn < n2) (hkc : k ≤ c1) (hm' : CV w 52 #[.agg #[.int .i64 o, .int .i64 t, .slice A nl c], .slice (some ⟨b1, o1, none⟩) k c1, .int .i64 la, .int .i64 jn, .int .i64 dy] (.bool mv)) : OpOk Try.prog opsTr1 (wordsTr1 b1 o1 b2 o2 b3 k jn A nl c n1 c1 n2 c2 o t la dy mv) 66 a w 1 := by
  refine OpOk.gen rfl (fun a1 w1 H => ?_)
  have e8 : a1.eval (.tmp 8) = .int .i64 k := (H.out 8 (by kernel_rfl)).trans t8
  refine gd_none ?_
  exact OpW.move e8 rfl
set_option maxRecDepth 10000 in
theorem okTr1_2 {b1 o1 b2 o2 b3 k jn : Nat} {A : Option Addr} {nl c n1 c1 n2 c2 : Nat} {o t la dy : Int} {mv : Bool} {a : Act} {w : World} (t1 : a.eval (.tmp 1) = .slice (some ⟨b1, o1, none⟩) n1 c1) (t2 : a.eval (.tmp 2) = .slice (some ⟨b2, o2, none⟩) n2 c2) (t3 : a.eval (.tmp 3) = .pointer (some ⟨b3, 0, none⟩)) (t7 : a.eval (.tmp 7) = .int .i64 la) (t8 : a.eval (.tmp 8) = .int .i64 k) (q0 : w.cell? ⟨b3, 0, none⟩ = some (.int .i64 o)) (q1 : w.cell? ⟨b3, 1, none⟩ = some (.int .i64 t)) (q2 : w.cell? ⟨b3, 2, none⟩ = some (.slice A nl c)) (hnl : nl ≤ 12) (hk : k < n1) (m0 : w.cell? ⟨b1, o1 + k, none⟩ = some (.int .i64 jn)) (hi' : CV w 31 #[.int .i64 jn, .int .i64 0, .int .i64 (nl - 1)] (.bool true)) (m1 : w.cell? ⟨b2, o2 + jn, none⟩ = some (.int .i64 dy)) (hj : jn < n2) (hkc : k ≤ c1) (hm' : CV w 52 #[.agg #[.int .i64 o, .int .i64 t, .slice A nl c], .slice (some ⟨b1, o1, none⟩) k c1, .int .i64 la, .int .i64 jn, .int .i64 dy] (.bool mv)) : OpOk Try.prog opsTr1 (wordsTr1 b1 o1 b2 o2 b3 k jn A nl c n1 c1 n2 c2 o t la dy mv) 66 a w 2 := by
  refine OpOk.gen rfl (fun a1 w1 H => ?_)
  have d0 : a1.eval (.tmp 29) = .slice (some ⟨b1, o1, none⟩) n1 c1 := H.dep 0 29 rfl (by kernel_rfl)
  have d1 : a1.eval (.tmp 30) = .int .i64 k := H.dep 1 30 rfl (by kernel_rfl)
  refine gd_none ?_
  exact OpW.index d0 d1 (ix25o hk _) rfl
set_option maxRecDepth 10000 in
theorem okTr1_3 {b1 o1 b2 o2 b3 k jn : Nat} {A : Option Addr} {nl c n1 c1 n2 c2 : Nat} {o t la dy : Int} {mv : Bool} {a : Act} {w : World} (t1 : a.eval (.tmp 1) = .slice (some ⟨b1, o1, none⟩) n1 c1) (t2 : a.eval (.tmp 2) = .slice (some ⟨b2, o2, none⟩) n2 c2) (t3 : a.eval (.tmp 3) = .pointer (some ⟨b3, 0, none⟩)) (t7 : a.eval (.tmp 7) = .int .i64 la) (t8 : a.eval (.tmp 8) = .int .i64 k) (q0 : w.cell? ⟨b3, 0, none⟩ = some (.int .i64 o)) (q1 : w.cell? ⟨b3, 1, none⟩ = some (.int .i64 t)) (q2 : w.cell? ⟨b3, 2, none⟩ = some (.slice A nl c)) (hnl : nl ≤ 12) (hk : k < n1) (m0 : w.cell? ⟨b1, o1 + k, none⟩ = some (.int .i64 jn)) (hi' : CV w 31 #[.int .i64 jn, .int .i64 0, .int .i64 (nl - 1)] (.bool true)) (m1 : w.cell? ⟨b2, o2 + jn, none⟩ = some (.int .i64 dy)) (hj : jn < n2) (hkc : k ≤ c1) (hm' : CV w 52 #[.agg #[.int .i64 o, .int .i64 t, .slice A nl c], .slice (some ⟨b1, o1, none⟩) k c1, .int .i64 la, .int .i64 jn, .int .i64 dy] (.bool mv)) : OpOk Try.prog opsTr1 (wordsTr1 b1 o1 b2 o2 b3 k jn A nl c n1 c1 n2 c2 o t la dy mv) 66 a w 3 := by
  refine OpOk.gen rfl (fun a1 w1 H => ?_)
  have d2 : a1.eval (.tmp 31) = .pointer (some ⟨b1, o1 + k, none⟩) := H.dep 2 31 rfl (by kernel_rfl)
  refine gd_none ?_
  exact OpW.load d2 (ld3 (H.cell m0)) rfl
set_option maxRecDepth 10000 in
theorem okTr1_4 {b1 o1 b2 o2 b3 k jn : Nat} {A : Option Addr} {nl c n1 c1 n2 c2 : Nat} {o t la dy : Int} {mv : Bool} {a : Act} {w : World} (t1 : a.eval (.tmp 1) = .slice (some ⟨b1, o1, none⟩) n1 c1) (t2 : a.eval (.tmp 2) = .slice (some ⟨b2, o2, none⟩) n2 c2) (t3 : a.eval (.tmp 3) = .pointer (some ⟨b3, 0, none⟩)) (t7 : a.eval (.tmp 7) = .int .i64 la) (t8 : a.eval (.tmp 8) = .int .i64 k) (q0 : w.cell? ⟨b3, 0, none⟩ = some (.int .i64 o)) (q1 : w.cell? ⟨b3, 1, none⟩ = some (.int .i64 t)) (q2 : w.cell? ⟨b3, 2, none⟩ = some (.slice A nl c)) (hnl : nl ≤ 12) (hk : k < n1) (m0 : w.cell? ⟨b1, o1 + k, none⟩ = some (.int .i64 jn)) (hi' : CV w 31 #[.int .i64 jn, .int .i64 0, .int .i64 (nl - 1)] (.bool true)) (m1 : w.cell? ⟨b2, o2 + jn, none⟩ = some (.int .i64 dy)) (hj : jn < n2) (hkc : k ≤ c1) (hm' : CV w 52 #[.agg #[.int .i64 o, .int .i64 t, .slice A nl c], .slice (some ⟨b1, o1, none⟩) k c1, .int .i64 la, .int .i64 jn, .int .i64 dy] (.bool mv)) : OpOk Try.prog opsTr1 (wordsTr1 b1 o1 b2 o2 b3 k jn A nl c n1 c1 n2 c2 o t la dy mv) 66 a w 4 := by
  refine OpOk.gen rfl (fun a1 w1 H => ?_)
  have e3 : a1.eval (.tmp 3) = .pointer (some ⟨b3, 0, none⟩) := (H.out 3 (by kernel_rfl)).trans t3
  refine gd_none ?_
  exact OpW.field e3 (fa24_2 _) rfl
set_option maxRecDepth 10000 in
theorem okTr1_5 {b1 o1 b2 o2 b3 k jn : Nat} {A : Option Addr} {nl c n1 c1 n2 c2 : Nat} {o t la dy : Int} {mv : Bool} {a : Act} {w : World} (t1 : a.eval (.tmp 1) = .slice (some ⟨b1, o1, none⟩) n1 c1) (t2 : a.eval (.tmp 2) = .slice (some ⟨b2, o2, none⟩) n2 c2) (t3 : a.eval (.tmp 3) = .pointer (some ⟨b3, 0, none⟩)) (t7 : a.eval (.tmp 7) = .int .i64 la) (t8 : a.eval (.tmp 8) = .int .i64 k) (q0 : w.cell? ⟨b3, 0, none⟩ = some (.int .i64 o)) (q1 : w.cell? ⟨b3, 1, none⟩ = some (.int .i64 t)) (q2 : w.cell? ⟨b3, 2, none⟩ = some (.slice A nl c)) (hnl : nl ≤ 12) (hk : k < n1) (m0 : w.cell? ⟨b1, o1 + k, none⟩ = some (.int .i64 jn)) (hi' : CV w 31 #[.int .i64 jn, .int .i64 0, .int .i64 (nl - 1)] (.bool true)) (m1 : w.cell? ⟨b2, o2 + jn, none⟩ = some (.int .i64 dy)) (hj : jn < n2) (hkc : k ≤ c1) (hm' : CV w 52 #[.agg #[.int .i64 o, .int .i64 t, .slice A nl c], .slice (some ⟨b1, o1, none⟩) k c1, .int .i64 la, .int .i64 jn, .int .i64 dy] (.bool mv)) : OpOk Try.prog opsTr1 (wordsTr1 b1 o1 b2 o2 b3 k jn A nl c n1 c1 n2 c2 o t la dy mv) 66 a w 5 := by
  refine OpOk.gen rfl (fun a1 w1 H => ?_)
  have d4 : a1.eval (.tmp 33) = .pointer (some ⟨b3, 2, none⟩) := H.dep 4 33 rfl (by kernel_rfl)
  refine gd_none ?_
  exact OpW.load d4 (ld22 (H.cell q2)) rfl
set_option maxRecDepth 10000 in
theorem okTr1_6 {b1 o1 b2 o2 b3 k jn : Nat} {A : Option Addr} {nl c n1 c1 n2 c2 : Nat} {o t la dy : Int} {mv : Bool} {a : Act} {w : World} (t1 : a.eval (.tmp 1) = .slice (some ⟨b1, o1, none⟩) n1 c1) (t2 : a.eval (.tmp 2) = .slice (some ⟨b2, o2, none⟩) n2 c2) (t3 : a.eval (.tmp 3) = .pointer (some ⟨b3, 0, none⟩)) (t7 : a.eval (.tmp 7) = .int .i64 la) (t8 : a.eval (.tmp 8) = .int .i64 k) (q0 : w.cell? ⟨b3, 0, none⟩ = some (.int .i64 o)) (q1 : w.cell? ⟨b3, 1, none⟩ = some (.int .i64 t)) (q2 : w.cell? ⟨b3, 2, none⟩ = some (.slice A nl c)) (hnl : nl ≤ 12) (hk : k < n1) (m0 : w.cell? ⟨b1, o1 + k, none⟩ = some (.int .i64 jn)) (hi' : CV w 31 #[.int .i64 jn, .int .i64 0, .int .i64 (nl - 1)] (.bool true)) (m1 : w.cell? ⟨b2, o2 + jn, none⟩ = some (.int .i64 dy)) (hj : jn < n2) (hkc : k ≤ c1) (hm' : CV w 52 #[.agg #[.int .i64 o, .int .i64 t, .slice A nl c], .slice (some ⟨b1, o1, none⟩) k c1, .int .i64 la, .int .i64 jn, .int .i64 dy] (.bool mv)) : OpOk Try.prog opsTr1 (wordsTr1 b1 o1 b2 o2 b3 k jn A nl c n1 c1 n2 c2 o t la dy mv) 66 a w 6 := by
  refine OpOk.gen rfl (fun a1 w1 H => ?_)
  have d5 : a1.eval (.tmp 34) = .slice A nl c := H.dep 5 34 rfl (by kernel_rfl)
  refine gd_none ?_
  exact OpW.len d5 (ln22 _ _ _ _ _) rfl rfl
set_option maxRecDepth 10000 in
theorem okTr1_7 {b1 o1 b2 o2 b3 k jn : Nat} {A : Option Addr} {nl c n1 c1 n2 c2 : Nat} {o t la dy : Int} {mv : Bool} {a : Act} {w : World} (t1 : a.eval (.tmp 1) = .slice (some ⟨b1, o1, none⟩) n1 c1) (t2 : a.eval (.tmp 2) = .slice (some ⟨b2, o2, none⟩) n2 c2) (t3 : a.eval (.tmp 3) = .pointer (some ⟨b3, 0, none⟩)) (t7 : a.eval (.tmp 7) = .int .i64 la) (t8 : a.eval (.tmp 8) = .int .i64 k) (q0 : w.cell? ⟨b3, 0, none⟩ = some (.int .i64 o)) (q1 : w.cell? ⟨b3, 1, none⟩ = some (.int .i64 t)) (q2 : w.cell? ⟨b3, 2, none⟩ = some (.slice A nl c)) (hnl : nl ≤ 12) (hk : k < n1) (m0 : w.cell? ⟨b1, o1 + k, none⟩ = some (.int .i64 jn)) (hi' : CV w 31 #[.int .i64 jn, .int .i64 0, .int .i64 (nl - 1)] (.bool true)) (m1 : w.cell? ⟨b2, o2 + jn, none⟩ = some (.int .i64 dy)) (hj : jn < n2) (hkc : k ≤ c1) (hm' : CV w 52 #[.agg #[.int .i64 o, .int .i64 t, .slice A nl c], .slice (some ⟨b1, o1, none⟩) k c1, .int .i64 la, .int .i64 jn, .int .i64 dy] (.bool mv)) : OpOk Try.prog opsTr1 (wordsTr1 b1 o1 b2 o2 b3 k jn A nl c n1 c1 n2 c2 o t la dy mv) 66 a w 7 := by
  refine OpOk.gen rfl (fun a1 w1 H => ?_)
  have d6 : a1.eval (.tmp 35) = .int .i64 nl := H.dep 6 35 rfl (by kernel_rfl)
  refine gd_none ?_
  exact OpW.bin d6 rfl (sub3 (by omega) (by omega) _) rfl
set_option maxRecDepth 10000 in
theorem okTr1_8 {b1 o1 b2 o2 b3 k jn : Nat} {A : Option Addr} {nl c n1 c1 n2 c2 : Nat} {o t la dy : Int} {mv : Bool} {a : Act} {w : World} (t1 : a.eval (.tmp 1) = .slice (some ⟨b1, o1, none⟩) n1 c1) (t2 : a.eval (.tmp 2) = .slice (some ⟨b2, o2, none⟩) n2 c2) (t3 : a.eval (.tmp 3) = .pointer (some ⟨b3, 0, none⟩)) (t7 : a.eval (.tmp 7) = .int .i64 la) (t8 : a.eval (.tmp 8) = .int .i64 k) (q0 : w.cell? ⟨b3, 0, none⟩ = some (.int .i64 o)) (q1 : w.cell? ⟨b3, 1, none⟩ = some (.int .i64 t)) (q2 : w.cell? ⟨b3, 2, none⟩ = some (.slice A nl c)) (hnl : nl ≤ 12) (hk : k < n1) (m0 : w.cell? ⟨b1, o1 + k, none⟩ = some (.int .i64 jn)) (hi' : CV w 31 #[.int .i64 jn, .int .i64 0, .int .i64 (nl - 1)] (.bool true)) (m1 : w.cell? ⟨b2, o2 + jn, none⟩ = some (.int .i64 dy)) (hj : jn < n2) (hkc : k ≤ c1) (hm' : CV w 52 #[.agg #[.int .i64 o, .int .i64 t, .slice A nl c], .slice (some ⟨b1, o1, none⟩) k c1, .int .i64 la, .int .i64 jn, .int .i64 dy] (.bool mv)) : OpOk Try.prog opsTr1 (wordsTr1 b1 o1 b2 o2 b3 k jn A nl c n1 c1 n2 c2 o t la dy mv) 66 a w 8 := by
  refine OpOk.gen rfl (fun a1 w1 H => ?_)
  have d3 : a1.eval (.tmp 32) = .int .i64 jn := H.dep 3 32 rfl (by kernel_rfl)
  have d7 : a1.eval (.tmp 36) = .int .i64 (nl - 1) := H.dep 7 36 rfl (by kernel_rfl)
  refine gd_none ?_
  exact OpW.call (vs := #[.int .i64 jn, .int .i64 0, .int .i64 (nl - 1)]) (enters_of Try.func31 (by kernel_rfl) rfl) (by simp [d3, d7]) (hi' w1 H.low)
set_option maxRecDepth 10000 in
theorem okTr1_9 {b1 o1 b2 o2 b3 k jn : Nat} {A : Option Addr} {nl c n1 c1 n2 c2 : Nat} {o t la dy : Int} {mv : Bool} {a : Act} {w : World} (t1 : a.eval (.tmp 1) = .slice (some ⟨b1, o1, none⟩) n1 c1) (t2 : a.eval (.tmp 2) = .slice (some ⟨b2, o2, none⟩) n2 c2) (t3 : a.eval (.tmp 3) = .pointer (some ⟨b3, 0, none⟩)) (t7 : a.eval (.tmp 7) = .int .i64 la) (t8 : a.eval (.tmp 8) = .int .i64 k) (q0 : w.cell? ⟨b3, 0, none⟩ = some (.int .i64 o)) (q1 : w.cell? ⟨b3, 1, none⟩ = some (.int .i64 t)) (q2 : w.cell? ⟨b3, 2, none⟩ = some (.slice A nl c)) (hnl : nl ≤ 12) (hk : k < n1) (m0 : w.cell? ⟨b1, o1 + k, none⟩ = some (.int .i64 jn)) (hi' : CV w 31 #[.int .i64 jn, .int .i64 0, .int .i64 (nl - 1)] (.bool true)) (m1 : w.cell? ⟨b2, o2 + jn, none⟩ = some (.int .i64 dy)) (hj : jn < n2) (hkc : k ≤ c1) (hm' : CV w 52 #[.agg #[.int .i64 o, .int .i64 t, .slice A nl c], .slice (some ⟨b1, o1, none⟩) k c1, .int .i64 la, .int .i64 jn, .int .i64 dy] (.bool mv)) : OpOk Try.prog opsTr1 (wordsTr1 b1 o1 b2 o2 b3 k jn A nl c n1 c1 n2 c2 o t la dy mv) 66 a w 9 := by
  refine OpOk.gen rfl (fun a1 w1 H => ?_)
  have d8 : a1.eval (.tmp 37) = .bool true := H.dep 8 37 rfl (by kernel_rfl)
  refine gd_none ?_
  exact OpW.un d8 (not4 _ _) rfl
set_option maxRecDepth 10000 in
theorem okTr1_10 {b1 o1 b2 o2 b3 k jn : Nat} {A : Option Addr} {nl c n1 c1 n2 c2 : Nat} {o t la dy : Int} {mv : Bool} {a : Act} {w : World} (t1 : a.eval (.tmp 1) = .slice (some ⟨b1, o1, none⟩) n1 c1) (t2 : a.eval (.tmp 2) = .slice (some ⟨b2, o2, none⟩) n2 c2) (t3 : a.eval (.tmp 3) = .pointer (some ⟨b3, 0, none⟩)) (t7 : a.eval (.tmp 7) = .int .i64 la) (t8 : a.eval (.tmp 8) = .int .i64 k) (q0 : w.cell? ⟨b3, 0, none⟩ = some (.int .i64 o)) (q1 : w.cell? ⟨b3, 1, none⟩ = some (.int .i64 t)) (q2 : w.cell? ⟨b3, 2, none⟩ = some (.slice A nl c)) (hnl : nl ≤ 12) (hk : k < n1) (m0 : w.cell? ⟨b1, o1 + k, none⟩ = some (.int .i64 jn)) (hi' : CV w 31 #[.int .i64 jn, .int .i64 0, .int .i64 (nl - 1)] (.bool true)) (m1 : w.cell? ⟨b2, o2 + jn, none⟩ = some (.int .i64 dy)) (hj : jn < n2) (hkc : k ≤ c1) (hm' : CV w 52 #[.agg #[.int .i64 o, .int .i64 t, .slice A nl c], .slice (some ⟨b1, o1, none⟩) k c1, .int .i64 la, .int .i64 jn, .int .i64 dy] (.bool mv)) : OpOk Try.prog opsTr1 (wordsTr1 b1 o1 b2 o2 b3 k jn A nl c n1 c1 n2 c2 o t la dy mv) 66 a w 10 := by
  refine OpOk.gen rfl (fun a1 w1 H => ?_)
  have d9 : a1.eval (.tmp 38) = .bool false := H.dep 9 38 rfl (by kernel_rfl)
  refine gd_none ?_
  exact OpW.move d9 rfl
set_option maxRecDepth 10000 in
theorem okTr1_11 {b1 o1 b2 o2 b3 k jn : Nat} {A : Option Addr} {nl c n1 c1 n2 c2 : Nat} {o t la dy : Int} {mv : Bool} {a : Act} {w : World} (t1 : a.eval (.tmp 1) = .slice (some ⟨b1, o1, none⟩) n1 c1) (t2 : a.eval (.tmp 2) = .slice (some ⟨b2, o2, none⟩) n2 c2) (t3 : a.eval (.tmp 3) = .pointer (some ⟨b3, 0, none⟩)) (t7 : a.eval (.tmp 7) = .int .i64 la) (t8 : a.eval (.tmp 8) = .int .i64 k) (q0 : w.cell? ⟨b3, 0, none⟩ = some (.int .i64 o)) (q1 : w.cell? ⟨b3, 1, none⟩ = some (.int .i64 t)) (q2 : w.cell? ⟨b3, 2, none⟩ = some (.slice A nl c)) (hnl : nl ≤ 12) (hk : k < n1) (m0 : w.cell? ⟨b1, o1 + k, none⟩ = some (.int .i64 jn)) (hi' : CV w 31 #[.int .i64 jn, .int .i64 0, .int .i64 (nl - 1)] (.bool true)) (m1 : w.cell? ⟨b2, o2 + jn, none⟩ = some (.int .i64 dy)) (hj : jn < n2) (hkc : k ≤ c1) (hm' : CV w 52 #[.agg #[.int .i64 o, .int .i64 t, .slice A nl c], .slice (some ⟨b1, o1, none⟩) k c1, .int .i64 la, .int .i64 jn, .int .i64 dy] (.bool mv)) : OpOk Try.prog opsTr1 (wordsTr1 b1 o1 b2 o2 b3 k jn A nl c n1 c1 n2 c2 o t la dy mv) 66 a w 11 := by
  refine OpOk.gen rfl (fun a1 w1 H => ?_)
  have d10 : a1.eval (.tmp 39) = .bool false := H.dep 10 39 rfl (by kernel_rfl)
  have e3 : a1.eval (.tmp 3) = .pointer (some ⟨b3, 0, none⟩) := (H.out 3 (by kernel_rfl)).trans t3
  refine gd_true rfl d10 ?_
  exact OpW.load e3 (ld24 ⟨H.cell q0, H.cell q1, H.cell q2⟩) rfl
set_option maxRecDepth 10000 in
theorem okTr1_12 {b1 o1 b2 o2 b3 k jn : Nat} {A : Option Addr} {nl c n1 c1 n2 c2 : Nat} {o t la dy : Int} {mv : Bool} {a : Act} {w : World} (t1 : a.eval (.tmp 1) = .slice (some ⟨b1, o1, none⟩) n1 c1) (t2 : a.eval (.tmp 2) = .slice (some ⟨b2, o2, none⟩) n2 c2) (t3 : a.eval (.tmp 3) = .pointer (some ⟨b3, 0, none⟩)) (t7 : a.eval (.tmp 7) = .int .i64 la) (t8 : a.eval (.tmp 8) = .int .i64 k) (q0 : w.cell? ⟨b3, 0, none⟩ = some (.int .i64 o)) (q1 : w.cell? ⟨b3, 1, none⟩ = some (.int .i64 t)) (q2 : w.cell? ⟨b3, 2, none⟩ = some (.slice A nl c)) (hnl : nl ≤ 12) (hk : k < n1) (m0 : w.cell? ⟨b1, o1 + k, none⟩ = some (.int .i64 jn)) (hi' : CV w 31 #[.int .i64 jn, .int .i64 0, .int .i64 (nl - 1)] (.bool true)) (m1 : w.cell? ⟨b2, o2 + jn, none⟩ = some (.int .i64 dy)) (hj : jn < n2) (hkc : k ≤ c1) (hm' : CV w 52 #[.agg #[.int .i64 o, .int .i64 t, .slice A nl c], .slice (some ⟨b1, o1, none⟩) k c1, .int .i64 la, .int .i64 jn, .int .i64 dy] (.bool mv)) : OpOk Try.prog opsTr1 (wordsTr1 b1 o1 b2 o2 b3 k jn A nl c n1 c1 n2 c2 o t la dy mv) 66 a w 12 := by
  refine OpOk.gen rfl (fun a1 w1 H => ?_)
  have d10 : a1.eval (.tmp 39) = .bool false := H.dep 10 39 rfl (by kernel_rfl)
  have e1 : a1.eval (.tmp 1) = .slice (some ⟨b1, o1, none⟩) n1 c1 := (H.out 1 (by kernel_rfl)).trans t1
  refine gd_true rfl d10 ?_
  exact OpW.move e1 rfl
set_option maxRecDepth 10000 in
theorem okTr1_13 {b1 o1 b2 o2 b3 k jn : Nat} {A : Option Addr} {nl c n1 c1 n2 c2 : Nat} {o t la dy : Int} {mv : Bool} {a : Act} {w : World} (t1 : a.eval (.tmp 1) = .slice (some ⟨b1, o1, none⟩) n1 c1) (t2 : a.eval (.tmp 2) = .slice (some ⟨b2, o2, none⟩) n2 c2) (t3 : a.eval (.tmp 3) = .pointer (some ⟨b3, 0, none⟩)) (t7 : a.eval (.tmp 7) = .int .i64 la) (t8 : a.eval (.tmp 8) = .int .i64 k) (q0 : w.cell? ⟨b3, 0, none⟩ = some (.int .i64 o)) (q1 : w.cell? ⟨b3, 1, none⟩ = some (.int .i64 t)) (q2 : w.cell? ⟨b3, 2, none⟩ = some (.slice A nl c)) (hnl : nl ≤ 12) (hk : k < n1) (m0 : w.cell? ⟨b1, o1 + k, none⟩ = some (.int .i64 jn)) (hi' : CV w 31 #[.int .i64 jn, .int .i64 0, .int .i64 (nl - 1)] (.bool true)) (m1 : w.cell? ⟨b2, o2 + jn, none⟩ = some (.int .i64 dy)) (hj : jn < n2) (hkc : k ≤ c1) (hm' : CV w 52 #[.agg #[.int .i64 o, .int .i64 t, .slice A nl c], .slice (some ⟨b1, o1, none⟩) k c1, .int .i64 la, .int .i64 jn, .int .i64 dy] (.bool mv)) : OpOk Try.prog opsTr1 (wordsTr1 b1 o1 b2 o2 b3 k jn A nl c n1 c1 n2 c2 o t la dy mv) 66 a w 13 := by
  refine OpOk.gen rfl (fun a1 w1 H => ?_)
  have d10 : a1.eval (.tmp 39) = .bool false := H.dep 10 39 rfl (by kernel_rfl)
  have e8 : a1.eval (.tmp 8) = .int .i64 k := (H.out 8 (by kernel_rfl)).trans t8
  refine gd_true rfl d10 ?_
  exact OpW.move e8 rfl
set_option maxRecDepth 10000 in
theorem okTr1_14 {b1 o1 b2 o2 b3 k jn : Nat} {A : Option Addr} {nl c n1 c1 n2 c2 : Nat} {o t la dy : Int} {mv : Bool} {a : Act} {w : World} (t1 : a.eval (.tmp 1) = .slice (some ⟨b1, o1, none⟩) n1 c1) (t2 : a.eval (.tmp 2) = .slice (some ⟨b2, o2, none⟩) n2 c2) (t3 : a.eval (.tmp 3) = .pointer (some ⟨b3, 0, none⟩)) (t7 : a.eval (.tmp 7) = .int .i64 la) (t8 : a.eval (.tmp 8) = .int .i64 k) (q0 : w.cell? ⟨b3, 0, none⟩ = some (.int .i64 o)) (q1 : w.cell? ⟨b3, 1, none⟩ = some (.int .i64 t)) (q2 : w.cell? ⟨b3, 2, none⟩ = some (.slice A nl c)) (hnl : nl ≤ 12) (hk : k < n1) (m0 : w.cell? ⟨b1, o1 + k, none⟩ = some (.int .i64 jn)) (hi' : CV w 31 #[.int .i64 jn, .int .i64 0, .int .i64 (nl - 1)] (.bool true)) (m1 : w.cell? ⟨b2, o2 + jn, none⟩ = some (.int .i64 dy)) (hj : jn < n2) (hkc : k ≤ c1) (hm' : CV w 52 #[.agg #[.int .i64 o, .int .i64 t, .slice A nl c], .slice (some ⟨b1, o1, none⟩) k c1, .int .i64 la, .int .i64 jn, .int .i64 dy] (.bool mv)) : OpOk Try.prog opsTr1 (wordsTr1 b1 o1 b2 o2 b3 k jn A nl c n1 c1 n2 c2 o t la dy mv) 66 a w 14 := by
  refine OpOk.gen rfl (fun a1 w1 H => ?_)
  have d10 : a1.eval (.tmp 39) = .bool false := H.dep 10 39 rfl (by kernel_rfl)
  have d12 : a1.eval (.tmp 41) = .slice (some ⟨b1, o1, none⟩) n1 c1 := H.dep 12 41 rfl (by kernel_rfl)
  have d13 : a1.eval (.tmp 42) = .int .i64 k := H.dep 13 42 rfl (by kernel_rfl)
  refine gd_true rfl d10 ?_
  exact OpW.sliceH d12 d13 (sl25 hkc _) rfl
set_option maxRecDepth 10000 in
theorem okTr1_15 {b1 o1 b2 o2 b3 k jn : Nat} {A : Option Addr} {nl c n1 c1 n2 c2 : Nat} {o t la dy : Int} {mv : Bool} {a : Act} {w : World} (t1 : a.eval (.tmp 1) = .slice (some ⟨b1, o1, none⟩) n1 c1) (t2 : a.eval (.tmp 2) = .slice (some ⟨b2, o2, none⟩) n2 c2) (t3 : a.eval (.tmp 3) = .pointer (some ⟨b3, 0, none⟩)) (t7 : a.eval (.tmp 7) = .int .i64 la) (t8 : a.eval (.tmp 8) = .int .i64 k) (q0 : w.cell? ⟨b3, 0, none⟩ = some (.int .i64 o)) (q1 : w.cell? ⟨b3, 1, none⟩ = some (.int .i64 t)) (q2 : w.cell? ⟨b3, 2, none⟩ = some (.slice A nl c)) (hnl : nl ≤ 12) (hk : k < n1) (m0 : w.cell? ⟨b1, o1 + k, none⟩ = some (.int .i64 jn)) (hi' : CV w 31 #[.int .i64 jn, .int .i64 0, .int .i64 (nl - 1)] (.bool true)) (m1 : w.cell? ⟨b2, o2 + jn, none⟩ = some (.int .i64 dy)) (hj : jn < n2) (hkc : k ≤ c1) (hm' : CV w 52 #[.agg #[.int .i64 o, .int .i64 t, .slice A nl c], .slice (some ⟨b1, o1, none⟩) k c1, .int .i64 la, .int .i64 jn, .int .i64 dy] (.bool mv)) : OpOk Try.prog opsTr1 (wordsTr1 b1 o1 b2 o2 b3 k jn A nl c n1 c1 n2 c2 o t la dy mv) 66 a w 15 := by
  refine OpOk.gen rfl (fun a1 w1 H => ?_)
  have d10 : a1.eval (.tmp 39) = .bool false := H.dep 10 39 rfl (by kernel_rfl)
  have e7 : a1.eval (.tmp 7) = .int .i64 la := (H.out 7 (by kernel_rfl)).trans t7
  refine gd_true rfl d10 ?_
  exact OpW.move e7 rfl
set_option maxRecDepth 10000 in
theorem okTr1_16 {b1 o1 b2 o2 b3 k jn : Nat} {A : Option Addr} {nl c n1 c1 n2 c2 : Nat} {o t la dy : Int} {mv : Bool} {a : Act} {w : World} (t1 : a.eval (.tmp 1) = .slice (some ⟨b1, o1, none⟩) n1 c1) (t2 : a.eval (.tmp 2) = .slice (some ⟨b2, o2, none⟩) n2 c2) (t3 : a.eval (.tmp 3) = .pointer (some ⟨b3, 0, none⟩)) (t7 : a.eval (.tmp 7) = .int .i64 la) (t8 : a.eval (.tmp 8) = .int .i64 k) (q0 : w.cell? ⟨b3, 0, none⟩ = some (.int .i64 o)) (q1 : w.cell? ⟨b3, 1, none⟩ = some (.int .i64 t)) (q2 : w.cell? ⟨b3, 2, none⟩ = some (.slice A nl c)) (hnl : nl ≤ 12) (hk : k < n1) (m0 : w.cell? ⟨b1, o1 + k, none⟩ = some (.int .i64 jn)) (hi' : CV w 31 #[.int .i64 jn, .int .i64 0, .int .i64 (nl - 1)] (.bool true)) (m1 : w.cell? ⟨b2, o2 + jn, none⟩ = some (.int .i64 dy)) (hj : jn < n2) (hkc : k ≤ c1) (hm' : CV w 52 #[.agg #[.int .i64 o, .int .i64 t, .slice A nl c], .slice (some ⟨b1, o1, none⟩) k c1, .int .i64 la, .int .i64 jn, .int .i64 dy] (.bool mv)) : OpOk Try.prog opsTr1 (wordsTr1 b1 o1 b2 o2 b3 k jn A nl c n1 c1 n2 c2 o t la dy mv) 66 a w 16 := by
  refine OpOk.gen rfl (fun a1 w1 H => ?_)
  have d10 : a1.eval (.tmp 39) = .bool false := H.dep 10 39 rfl (by kernel_rfl)
  have e1 : a1.eval (.tmp 1) = .slice (some ⟨b1, o1, none⟩) n1 c1 := (H.out 1 (by kernel_rfl)).trans t1
  refine gd_true rfl d10 ?_
  exact OpW.move e1 rfl
set_option maxRecDepth 10000 in
theorem okTr1_17 {b1 o1 b2 o2 b3 k jn : Nat} {A : Option Addr} {nl c n1 c1 n2 c2 : Nat} {o t la dy : Int} {mv : Bool} {a : Act} {w : World} (t1 : a.eval (.tmp 1) = .slice (some ⟨b1, o1, none⟩) n1 c1) (t2 : a.eval (.tmp 2) = .slice (some ⟨b2, o2, none⟩) n2 c2) (t3 : a.eval (.tmp 3) = .pointer (some ⟨b3, 0, none⟩)) (t7 : a.eval (.tmp 7) = .int .i64 la) (t8 : a.eval (.tmp 8) = .int .i64 k) (q0 : w.cell? ⟨b3, 0, none⟩ = some (.int .i64 o)) (q1 : w.cell? ⟨b3, 1, none⟩ = some (.int .i64 t)) (q2 : w.cell? ⟨b3, 2, none⟩ = some (.slice A nl c)) (hnl : nl ≤ 12) (hk : k < n1) (m0 : w.cell? ⟨b1, o1 + k, none⟩ = some (.int .i64 jn)) (hi' : CV w 31 #[.int .i64 jn, .int .i64 0, .int .i64 (nl - 1)] (.bool true)) (m1 : w.cell? ⟨b2, o2 + jn, none⟩ = some (.int .i64 dy)) (hj : jn < n2) (hkc : k ≤ c1) (hm' : CV w 52 #[.agg #[.int .i64 o, .int .i64 t, .slice A nl c], .slice (some ⟨b1, o1, none⟩) k c1, .int .i64 la, .int .i64 jn, .int .i64 dy] (.bool mv)) : OpOk Try.prog opsTr1 (wordsTr1 b1 o1 b2 o2 b3 k jn A nl c n1 c1 n2 c2 o t la dy mv) 66 a w 17 := by
  refine OpOk.gen rfl (fun a1 w1 H => ?_)
  have d10 : a1.eval (.tmp 39) = .bool false := H.dep 10 39 rfl (by kernel_rfl)
  have e8 : a1.eval (.tmp 8) = .int .i64 k := (H.out 8 (by kernel_rfl)).trans t8
  refine gd_true rfl d10 ?_
  exact OpW.move e8 rfl
set_option maxRecDepth 10000 in
theorem okTr1_18 {b1 o1 b2 o2 b3 k jn : Nat} {A : Option Addr} {nl c n1 c1 n2 c2 : Nat} {o t la dy : Int} {mv : Bool} {a : Act} {w : World} (t1 : a.eval (.tmp 1) = .slice (some ⟨b1, o1, none⟩) n1 c1) (t2 : a.eval (.tmp 2) = .slice (some ⟨b2, o2, none⟩) n2 c2) (t3 : a.eval (.tmp 3) = .pointer (some ⟨b3, 0, none⟩)) (t7 : a.eval (.tmp 7) = .int .i64 la) (t8 : a.eval (.tmp 8) = .int .i64 k) (q0 : w.cell? ⟨b3, 0, none⟩ = some (.int .i64 o)) (q1 : w.cell? ⟨b3, 1, none⟩ = some (.int .i64 t)) (q2 : w.cell? ⟨b3, 2, none⟩ = some (.slice A nl c)) (hnl : nl ≤ 12) (hk : k < n1) (m0 : w.cell? ⟨b1, o1 + k, none⟩ = some (.int .i64 jn)) (hi' : CV w 31 #[.int .i64 jn, .int .i64 0, .int .i64 (nl - 1)] (.bool true)) (m1 : w.cell? ⟨b2, o2 + jn, none⟩ = some (.int .i64 dy)) (hj : jn < n2) (hkc : k ≤ c1) (hm' : CV w 52 #[.agg #[.int .i64 o, .int .i64 t, .slice A nl c], .slice (some ⟨b1, o1, none⟩) k c1, .int .i64 la, .int .i64 jn, .int .i64 dy] (.bool mv)) : OpOk Try.prog opsTr1 (wordsTr1 b1 o1 b2 o2 b3 k jn A nl c n1 c1 n2 c2 o t la dy mv) 66 a w 18 := by
  refine OpOk.gen rfl (fun a1 w1 H => ?_)
  have d10 : a1.eval (.tmp 39) = .bool false := H.dep 10 39 rfl (by kernel_rfl)
  have d16 : a1.eval (.tmp 45) = .slice (some ⟨b1, o1, none⟩) n1 c1 := H.dep 16 45 rfl (by kernel_rfl)
  have d17 : a1.eval (.tmp 46) = .int .i64 k := H.dep 17 46 rfl (by kernel_rfl)
  refine gd_true rfl d10 ?_
  exact OpW.index d16 d17 (ix25o hk _) rfl
set_option maxRecDepth 10000 in
theorem okTr1_19 {b1 o1 b2 o2 b3 k jn : Nat} {A : Option Addr} {nl c n1 c1 n2 c2 : Nat} {o t la dy : Int} {mv : Bool} {a : Act} {w : World} (t1 : a.eval (.tmp 1) = .slice (some ⟨b1, o1, none⟩) n1 c1) (t2 : a.eval (.tmp 2) = .slice (some ⟨b2, o2, none⟩) n2 c2) (t3 : a.eval (.tmp 3) = .pointer (some ⟨b3, 0, none⟩)) (t7 : a.eval (.tmp 7) = .int .i64 la) (t8 : a.eval (.tmp 8) = .int .i64 k) (q0 : w.cell? ⟨b3, 0, none⟩ = some (.int .i64 o)) (q1 : w.cell? ⟨b3, 1, none⟩ = some (.int .i64 t)) (q2 : w.cell? ⟨b3, 2, none⟩ = some (.slice A nl c)) (hnl : nl ≤ 12) (hk : k < n1) (m0 : w.cell? ⟨b1, o1 + k, none⟩ = some (.int .i64 jn)) (hi' : CV w 31 #[.int .i64 jn, .int .i64 0, .int .i64 (nl - 1)] (.bool true)) (m1 : w.cell? ⟨b2, o2 + jn, none⟩ = some (.int .i64 dy)) (hj : jn < n2) (hkc : k ≤ c1) (hm' : CV w 52 #[.agg #[.int .i64 o, .int .i64 t, .slice A nl c], .slice (some ⟨b1, o1, none⟩) k c1, .int .i64 la, .int .i64 jn, .int .i64 dy] (.bool mv)) : OpOk Try.prog opsTr1 (wordsTr1 b1 o1 b2 o2 b3 k jn A nl c n1 c1 n2 c2 o t la dy mv) 66 a w 19 := by
  refine OpOk.gen rfl (fun a1 w1 H => ?_)
  have d10 : a1.eval (.tmp 39) = .bool false := H.dep 10 39 rfl (by kernel_rfl)
  have d18 : a1.eval (.tmp 47) = .pointer (some ⟨b1, o1 + k, none⟩) := H.dep 18 47 rfl (by kernel_rfl)
  refine gd_true rfl d10 ?_
  exact OpW.load d18 (ld3 (H.cell m0)) rfl
set_option maxRecDepth 10000 in
theorem okTr1_20 {b1 o1 b2 o2 b3 k jn : Nat} {A : Option Addr} {nl c n1 c1 n2 c2 : Nat} {o t la dy : Int} {mv : Bool} {a : Act} {w : World} (t1 : a.eval (.tmp 1) = .slice (some ⟨b1, o1, none⟩) n1 c1) (t2 : a.eval (.tmp 2) = .slice (some ⟨b2, o2, none⟩) n2 c2) (t3 : a.eval (.tmp 3) = .pointer (some ⟨b3, 0, none⟩)) (t7 : a.eval (.tmp 7) = .int .i64 la) (t8 : a.eval (.tmp 8) = .int .i64 k) (q0 : w.cell? ⟨b3, 0, none⟩ = some (.int .i64 o)) (q1 : w.cell? ⟨b3, 1, none⟩ = some (.int .i64 t)) (q2 : w.cell? ⟨b3, 2, none⟩ = some (.slice A nl c)) (hnl : nl ≤ 12) (hk : k < n1) (m0 : w.cell? ⟨b1, o1 + k, none⟩ = some (.int .i64 jn)) (hi' : CV w 31 #[.int .i64 jn, .int .i64 0, .int .i64 (nl - 1)] (.bool true)) (m1 : w.cell? ⟨b2, o2 + jn, none⟩ = some (.int .i64 dy)) (hj : jn < n2) (hkc : k ≤ c1) (hm' : CV w 52 #[.agg #[.int .i64 o, .int .i64 t, .slice A nl c], .slice (some ⟨b1, o1, none⟩) k c1, .int .i64 la, .int .i64 jn, .int .i64 dy] (.bool mv)) : OpOk Try.prog opsTr1 (wordsTr1 b1 o1 b2 o2 b3 k jn A nl c n1 c1 n2 c2 o t la dy mv) 66 a w 20 := by
  refine OpOk.gen rfl (fun a1 w1 H => ?_)
  have d10 : a1.eval (.tmp 39) = .bool false := H.dep 10 39 rfl (by kernel_rfl)
  have e2 : a1.eval (.tmp 2) = .slice (some ⟨b2, o2, none⟩) n2 c2 := (H.out 2 (by kernel_rfl)).trans t2
  refine gd_true rfl d10 ?_
  exact OpW.move e2 rfl
set_option maxRecDepth 10000 in
theorem okTr1_21 {b1 o1 b2 o2 b3 k jn : Nat} {A : Option Addr} {nl c n1 c1 n2 c2 : Nat} {o t la dy : Int} {mv : Bool} {a : Act} {w : World} (t1 : a.eval (.tmp 1) = .slice (some ⟨b1, o1, none⟩) n1 c1) (t2 : a.eval (.tmp 2) = .slice (some ⟨b2, o2, none⟩) n2 c2) (t3 : a.eval (.tmp 3) = .pointer (some ⟨b3, 0, none⟩)) (t7 : a.eval (.tmp 7) = .int .i64 la) (t8 : a.eval (.tmp 8) = .int .i64 k) (q0 : w.cell? ⟨b3, 0, none⟩ = some (.int .i64 o)) (q1 : w.cell? ⟨b3, 1, none⟩ = some (.int .i64 t)) (q2 : w.cell? ⟨b3, 2, none⟩ = some (.slice A nl c)) (hnl : nl ≤ 12) (hk : k < n1) (m0 : w.cell? ⟨b1, o1 + k, none⟩ = some (.int .i64 jn)) (hi' : CV w 31 #[.int .i64 jn, .int .i64 0, .int .i64 (nl - 1)] (.bool true)) (m1 : w.cell? ⟨b2, o2 + jn, none⟩ = some (.int .i64 dy)) (hj : jn < n2) (hkc : k ≤ c1) (hm' : CV w 52 #[.agg #[.int .i64 o, .int .i64 t, .slice A nl c], .slice (some ⟨b1, o1, none⟩) k c1, .int .i64 la, .int .i64 jn, .int .i64 dy] (.bool mv)) : OpOk Try.prog opsTr1 (wordsTr1 b1 o1 b2 o2 b3 k jn A nl c n1 c1 n2 c2 o t la dy mv) 66 a w 21 := by
  refine OpOk.gen rfl (fun a1 w1 H => ?_)
  have d10 : a1.eval (.tmp 39) = .bool false := H.dep 10 39 rfl (by kernel_rfl)
  have e1 : a1.eval (.tmp 1) = .slice (some ⟨b1, o1, none⟩) n1 c1 := (H.out 1 (by kernel_rfl)).trans t1
  refine gd_true rfl d10 ?_
  exact OpW.move e1 rfl
set_option maxRecDepth 10000 in
theorem okTr1_22 {b1 o1 b2 o2 b3 k jn : Nat} {A : Option Addr} {nl c n1 c1 n2 c2 : Nat} {o t la dy : Int} {mv : Bool} {a : Act} {w : World} (t1 : a.eval (.tmp 1) = .slice (some ⟨b1, o1, none⟩) n1 c1) (t2 : a.eval (.tmp 2) = .slice (some ⟨b2, o2, none⟩) n2 c2) (t3 : a.eval (.tmp 3) = .pointer (some ⟨b3, 0, none⟩)) (t7 : a.eval (.tmp 7) = .int .i64 la) (t8 : a.eval (.tmp 8) = .int .i64 k) (q0 : w.cell? ⟨b3, 0, none⟩ = some (.int .i64 o)) (q1 : w.cell? ⟨b3, 1, none⟩ = some (.int .i64 t)) (q2 : w.cell? ⟨b3, 2, none⟩ = some (.slice A nl c)) (hnl : nl ≤ 12) (hk : k < n1) (m0 : w.cell? ⟨b1, o1 + k, none⟩ = some (.int .i64 jn)) (hi' : CV w 31 #[.int .i64 jn, .int .i64 0, .int .i64 (nl - 1)] (.bool true)) (m1 : w.cell? ⟨b2, o2 + jn, none⟩ = some (.int .i64 dy)) (hj : jn < n2) (hkc : k ≤ c1) (hm' : CV w 52 #[.agg #[.int .i64 o, .int .i64 t, .slice A nl c], .slice (some ⟨b1, o1, none⟩) k c1, .int .i64 la, .int .i64 jn, .int .i64 dy] (.bool mv)) : OpOk Try.prog opsTr1 (wordsTr1 b1 o1 b2 o2 b3 k jn A nl c n1 c1 n2 c2 o t la dy mv) 66 a w 22 := by
  refine OpOk.gen rfl (fun a1 w1 H => ?_)
  have d10 : a1.eval (.tmp 39) = .bool false := H.dep 10 39 rfl (by kernel_rfl)
  have e8 : a1.eval (.tmp 8) = .int .i64 k := (H.out 8 (by kernel_rfl)).trans t8
  refine gd_true rfl d10 ?_
  exact OpW.move e8 rfl
set_option maxRecDepth 10000 in
theorem okTr1_23 {b1 o1 b2 o2 b3 k jn : Nat} {A : Option Addr} {nl c n1 c1 n2 c2 : Nat} {o t la dy : Int} {mv : Bool} {a : Act} {w : World} (t1 : a.eval (.tmp 1) = .slice (some ⟨b1, o1, none⟩) n1 c1) (t2 : a.eval (.tmp 2) = .slice (some ⟨b2, o2, none⟩) n2 c2) (t3 : a.eval (.tmp 3) = .pointer (some ⟨b3, 0, none⟩)) (t7 : a.eval (.tmp 7) = .int .i64 la) (t8 : a.eval (.tmp 8) = .int .i64 k) (q0 : w.cell? ⟨b3, 0, none⟩ = some (.int .i64 o)) (q1 : w.cell? ⟨b3, 1, none⟩ = some (.int .i64 t)) (q2 : w.cell? ⟨b3, 2, none⟩ = some (.slice A nl c)) (hnl : nl ≤ 12) (hk : k < n1) (m0 : w.cell? ⟨b1, o1 + k, none⟩ = some (.int .i64 jn)) (hi' : CV w 31 #[.int .i64 jn, .int .i64 0, .int .i64 (nl - 1)] (.bool true)) (m1 : w.cell? ⟨b2, o2 + jn, none⟩ = some (.int .i64 dy)) (hj : jn < n2) (hkc : k ≤ c1) (hm' : CV w 52 #[.agg #[.int .i64 o, .int .i64 t, .slice A nl c], .slice (some ⟨b1, o1, none⟩) k c1, .int .i64 la, .int .i64 jn, .int .i64 dy] (.bool mv)) : OpOk Try.prog opsTr1 (wordsTr1 b1 o1 b2 o2 b3 k jn A nl c n1 c1 n2 c2 o t la dy mv) 66 a w 23 := by
  refine OpOk.gen rfl (fun a1 w1 H => ?_)
  have d10 : a1.eval (.tmp 39) = .bool false := H.dep 10 39 rfl (by kernel_rfl)
  have d21 : a1.eval (.tmp 50) = .slice (some ⟨b1, o1, none⟩) n1 c1 := H.dep 21 50 rfl (by kernel_rfl)
  have d22 : a1.eval (.tmp 51) = .int .i64 k := H.dep 22 51 rfl (by kernel_rfl)
  refine gd_true rfl d10 ?_
  exact OpW.index d21 d22 (ix25o hk _) rfl
set_option maxRecDepth 10000 in
theorem okTr1_24 {b1 o1 b2 o2 b3 k jn : Nat} {A : Option Addr} {nl c n1 c1 n2 c2 : Nat} {o t la dy : Int} {mv : Bool} {a : Act} {w : World} (t1 : a.eval (.tmp 1) = .slice (some ⟨b1, o1, none⟩) n1 c1) (t2 : a.eval (.tmp 2) = .slice (some ⟨b2, o2, none⟩) n2 c2) (t3 : a.eval (.tmp 3) = .pointer (some ⟨b3, 0, none⟩)) (t7 : a.eval (.tmp 7) = .int .i64 la) (t8 : a.eval (.tmp 8) = .int .i64 k) (q0 : w.cell? ⟨b3, 0, none⟩ = some (.int .i64 o)) (q1 : w.cell? ⟨b3, 1, none⟩ = some (.int .i64 t)) (q2 : w.cell? ⟨b3, 2, none⟩ = some (.slice A nl c)) (hnl : nl ≤ 12) (hk : k < n1) (m0 : w.cell? ⟨b1, o1 + k, none⟩ = some (.int .i64 jn)) (hi' : CV w 31 #[.int .i64 jn, .int .i64 0, .int .i64 (nl - 1)] (.bool true)) (m1 : w.cell? ⟨b2, o2 + jn, none⟩ = some (.int .i64 dy)) (hj : jn < n2) (hkc : k ≤ c1) (hm' : CV w 52 #[.agg #[.int .i64 o, .int .i64 t, .slice A nl c], .slice (some ⟨b1, o1, none⟩) k c1, .int .i64 la, .int .i64 jn, .int .i64 dy] (.bool mv)) : OpOk Try.prog opsTr1 (wordsTr1 b1 o1 b2 o2 b3 k jn A nl c n1 c1 n2 c2 o t la dy mv) 66 a w 24 := by
  refine OpOk.gen rfl (fun a1 w1 H => ?_)
  have d10 : a1.eval (.tmp 39) = .bool false := H.dep 10 39 rfl (by kernel_rfl)
  have d23 : a1.eval (.tmp 52) = .pointer (some ⟨b1, o1 + k, none⟩) := H.dep 23 52 rfl (by kernel_rfl)
  refine gd_true rfl d10 ?_
  exact OpW.load d23 (ld3 (H.cell m0)) rfl
set_option maxRecDepth 10000 in
theorem okTr1_25 {b1 o1 b2 o2 b3 k jn : Nat} {A : Option Addr} {nl c n1 c1 n2 c2 : Nat} {o t la dy : Int} {mv : Bool} {a : Act} {w : World} (t1 : a.eval (.tmp 1) = .slice (some ⟨b1, o1, none⟩) n1 c1) (t2 : a.eval (.tmp 2) = .slice (some ⟨b2, o2, none⟩) n2 c2) (t3 : a.eval (.tmp 3) = .pointer (some ⟨b3, 0, none⟩)) (t7 : a.eval (.tmp 7) = .int .i64 la) (t8 : a.eval (.tmp 8) = .int .i64 k) (q0 : w.cell? ⟨b3, 0, none⟩ = some (.int .i64 o)) (q1 : w.cell? ⟨b3, 1, none⟩ = some (.int .i64 t)) (q2 : w.cell? ⟨b3, 2, none⟩ = some (.slice A nl c)) (hnl : nl ≤ 12) (hk : k < n1) (m0 : w.cell? ⟨b1, o1 + k, none⟩ = some (.int .i64 jn)) (hi' : CV w 31 #[.int .i64 jn, .int .i64 0, .int .i64 (nl - 1)] (.bool true)) (m1 : w.cell? ⟨b2, o2 + jn, none⟩ = some (.int .i64 dy)) (hj : jn < n2) (hkc : k ≤ c1) (hm' : CV w 52 #[.agg #[.int .i64 o, .int .i64 t, .slice A nl c], .slice (some ⟨b1, o1, none⟩) k c1, .int .i64 la, .int .i64 jn, .int .i64 dy] (.bool mv)) : OpOk Try.prog opsTr1 (wordsTr1 b1 o1 b2 o2 b3 k jn A nl c n1 c1 n2 c2 o t la dy mv) 66 a w 25 := by
  refine OpOk.gen rfl (fun a1 w1 H => ?_)
  have d10 : a1.eval (.tmp 39) = .bool false := H.dep 10 39 rfl (by kernel_rfl)
  have d20 : a1.eval (.tmp 49) = .slice (some ⟨b2, o2, none⟩) n2 c2 := H.dep 20 49 rfl (by kernel_rfl)
  have d24 : a1.eval (.tmp 53) = .int .i64 jn := H.dep 24 53 rfl (by kernel_rfl)
  refine gd_true rfl d10 ?_
  exact OpW.index d20 d24 (ix25o hj _) rfl
set_option maxRecDepth 10000 in
theorem okTr1_26 {b1 o1 b2 o2 b3 k jn : Nat} {A : Option Addr} {nl c n1 c1 n2 c2 : Nat} {o t la dy : Int} {mv : Bool} {a : Act} {w : World} (t1 : a.eval (.tmp 1) = .slice (some ⟨b1, o1, none⟩) n1 c1) (t2 : a.eval (.tmp 2) = .slice (some ⟨b2, o2, none⟩) n2 c2) (t3 : a.eval (.tmp 3) = .pointer (some ⟨b3, 0, none⟩)) (t7 : a.eval (.tmp 7) = .int .i64 la) (t8 : a.eval (.tmp 8) = .int .i64 k) (q0 : w.cell? ⟨b3, 0, none⟩ = some (.int .i64 o)) (q1 : w.cell? ⟨b3, 1, none⟩ = some (.int .i64 t)) (q2 : w.cell? ⟨b3, 2, none⟩ = some (.slice A nl c)) (hnl : nl ≤ 12) (hk : k < n1) (m0 : w.cell? ⟨b1, o1 + k, none⟩ = some (.int .i64 jn)) (hi' : CV w 31 #[.int .i64 jn, .int .i64 0, .int .i64 (nl - 1)] (.bool true)) (m1 : w.cell? ⟨b2, o2 + jn, none⟩ = some (.int .i64 dy)) (hj : jn < n2) (hkc : k ≤ c1) (hm' : CV w 52 #[.agg #[.int .i64 o, .int .i64 t, .slice A nl c], .slice (some ⟨b1, o1, none⟩) k c1, .int .i64 la, .int .i64 jn, .int .i64 dy] (.bool mv)) : OpOk Try.prog opsTr1 (wordsTr1 b1 o1 b2 o2 b3 k jn A nl c n1 c1 n2 c2 o t la dy mv) 66 a w 26 := by
  refine OpOk.gen rfl (fun a1 w1 H => ?_)
  have d10 : a1.eval (.tmp 39) = .bool false := H.dep 10 39 rfl (by kernel_rfl)
  have d25 : a1.eval (.tmp 54) = .pointer (some ⟨b2, o2 + jn, none⟩) := H.dep 25 54 rfl (by kernel_rfl)
  refine gd_true rfl d10 ?_
  exact OpW.load d25 (ld3 (H.cell m1)) rfl
set_option maxRecDepth 10000 in
theorem okTr1_27 {b1 o1 b2 o2 b3 k jn : Nat} {A : Option Addr} {nl c n1 c1 n2 c2 : Nat} {o t la dy : Int} {mv : Bool} {a : Act} {w : World} (t1 : a.eval (.tmp 1) = .slice (some ⟨b1, o1, none⟩) n1 c1) (t2 : a.eval (.tmp 2) = .slice (some ⟨b2, o2, none⟩) n2 c2) (t3 : a.eval (.tmp 3) = .pointer (some ⟨b3, 0, none⟩)) (t7 : a.eval (.tmp 7) = .int .i64 la) (t8 : a.eval (.tmp 8) = .int .i64 k) (q0 : w.cell? ⟨b3, 0, none⟩ = some (.int .i64 o)) (q1 : w.cell? ⟨b3, 1, none⟩ = some (.int .i64 t)) (q2 : w.cell? ⟨b3, 2, none⟩ = some (.slice A nl c)) (hnl : nl ≤ 12) (hk : k < n1) (m0 : w.cell? ⟨b1, o1 + k, none⟩ = some (.int .i64 jn)) (hi' : CV w 31 #[.int .i64 jn, .int .i64 0, .int .i64 (nl - 1)] (.bool true)) (m1 : w.cell? ⟨b2, o2 + jn, none⟩ = some (.int .i64 dy)) (hj : jn < n2) (hkc : k ≤ c1) (hm' : CV w 52 #[.agg #[.int .i64 o, .int .i64 t, .slice A nl c], .slice (some ⟨b1, o1, none⟩) k c1, .int .i64 la, .int .i64 jn, .int .i64 dy] (.bool mv)) : OpOk Try.prog opsTr1 (wordsTr1 b1 o1 b2 o2 b3 k jn A nl c n1 c1 n2 c2 o t la dy mv) 66 a w 27 := by
  refine OpOk.gen rfl (fun a1 w1 H => ?_)
  have d10 : a1.eval (.tmp 39) = .bool false := H.dep 10 39 rfl (by kernel_rfl)
  have d11 : a1.eval (.tmp 40) = .agg #[.int .i64 o, .int .i64 t, .slice A nl c] := H.dep 11 40 rfl (by kernel_rfl)
  have d14 : a1.eval (.tmp 43) = .slice (some ⟨b1, o1, none⟩) k c1 := H.dep 14 43 rfl (by kernel_rfl)
  have d15 : a1.eval (.tmp 44) = .int .i64 la := H.dep 15 44 rfl (by kernel_rfl)
  have d19 : a1.eval (.tmp 48) = .int .i64 jn := H.dep 19 48 rfl (by kernel_rfl)
  have d26 : a1.eval (.tmp 55) = .int .i64 dy := H.dep 26 55 rfl (by kernel_rfl)
  refine gd_true rfl d10 ?_
  exact OpW.call (vs := #[.agg #[.int .i64 o, .int .i64 t, .slice A nl c], .slice (some ⟨b1, o1, none⟩) k c1, .int .i64 la, .int .i64 jn, .int .i64 dy]) (enters_of Try.func52 (by kernel_rfl) rfl) (by simp [d11, d14, d15, d19, d26]) (hm' w1 H.low)
set_option maxRecDepth 10000 in
theorem okTr1_28 {b1 o1 b2 o2 b3 k jn : Nat} {A : Option Addr} {nl c n1 c1 n2 c2 : Nat} {o t la dy : Int} {mv : Bool} {a : Act} {w : World} (t1 : a.eval (.tmp 1) = .slice (some ⟨b1, o1, none⟩) n1 c1) (t2 : a.eval (.tmp 2) = .slice (some ⟨b2, o2, none⟩) n2 c2) (t3 : a.eval (.tmp 3) = .pointer (some ⟨b3, 0, none⟩)) (t7 : a.eval (.tmp 7) = .int .i64 la) (t8 : a.eval (.tmp 8) = .int .i64 k) (q0 : w.cell? ⟨b3, 0, none⟩ = some (.int .i64 o)) (q1 : w.cell? ⟨b3, 1, none⟩ = some (.int .i64 t)) (q2 : w.cell? ⟨b3, 2, none⟩ = some (.slice A nl c)) (hnl : nl ≤ 12) (hk : k < n1) (m0 : w.cell? ⟨b1, o1 + k, none⟩ = some (.int .i64 jn)) (hi' : CV w 31 #[.int .i64 jn, .int .i64 0, .int .i64 (nl - 1)] (.bool true)) (m1 : w.cell? ⟨b2, o2 + jn, none⟩ = some (.int .i64 dy)) (hj : jn < n2) (hkc : k ≤ c1) (hm' : CV w 52 #[.agg #[.int .i64 o, .int .i64 t, .slice A nl c], .slice (some ⟨b1, o1, none⟩) k c1, .int .i64 la, .int .i64 jn, .int .i64 dy] (.bool mv)) : OpOk Try.prog opsTr1 (wordsTr1 b1 o1 b2 o2 b3 k jn A nl c n1 c1 n2 c2 o t la dy mv) 66 a w 28 := by
  refine OpOk.gen rfl (fun a1 w1 H => ?_)
  have d10 : a1.eval (.tmp 39) = .bool false := H.dep 10 39 rfl (by kernel_rfl)
  have d27 : a1.eval (.tmp 56) = .bool mv := H.dep 27 56 rfl (by kernel_rfl)
  refine gd_true rfl d10 ?_
  exact OpW.un d27 (not4 _ _) rfl
set_option maxRecDepth 10000 in
theorem okTr1_29 {b1 o1 b2 o2 b3 k jn : Nat} {A : Option Addr} {nl c n1 c1 n2 c2 : Nat} {o t la dy : Int} {mv : Bool} {a : Act} {w : World} (t1 : a.eval (.tmp 1) = .slice (some ⟨b1, o1, none⟩) n1 c1) (t2 : a.eval (.tmp 2) = .slice (some ⟨b2, o2, none⟩) n2 c2) (t3 : a.eval (.tmp 3) = .pointer (some ⟨b3, 0, none⟩)) (t7 : a.eval (.tmp 7) = .int .i64 la) (t8 : a.eval (.tmp 8) = .int .i64 k) (q0 : w.cell? ⟨b3, 0, none⟩ = some (.int .i64 o)) (q1 : w.cell? ⟨b3, 1, none⟩ = some (.int .i64 t)) (q2 : w.cell? ⟨b3, 2, none⟩ = some (.slice A nl c)) (hnl : nl ≤ 12) (hk : k < n1) (m0 : w.cell? ⟨b1, o1 + k, none⟩ = some (.int .i64 jn)) (hi' : CV w 31 #[.int .i64 jn, .int .i64 0, .int .i64 (nl - 1)] (.bool true)) (m1 : w.cell? ⟨b2, o2 + jn, none⟩ = some (.int .i64 dy)) (hj : jn < n2) (hkc : k ≤ c1) (hm' : CV w 52 #[.agg #[.int .i64 o, .int .i64 t, .slice A nl c], .slice (some ⟨b1, o1, none⟩) k c1, .int .i64 la, .int .i64 jn, .int .i64 dy] (.bool mv)) : OpOk Try.prog opsTr1 (wordsTr1 b1 o1 b2 o2 b3 k jn A nl c n1 c1 n2 c2 o t la dy mv) 66 a w 29 := by
  refine OpOk.gen rfl (fun a1 w1 H => ?_)
  have d10 : a1.eval (.tmp 39) = .bool false := H.dep 10 39 rfl (by kernel_rfl)
  have d28 : a1.eval (.tmp 57) = .bool (!mv) := H.dep 28 57 rfl (by kernel_rfl)
  refine gd_none ?_
  exact OpW.pick (b := false) d10 d28
set_option maxRecDepth 10000 in
theorem regionTr1 {F : Fence} {n : Nat} (hF : WideF F Try.prog) {Q : Exit → Act → World → Prop} {b1 o1 b2 o2 b3 k jn : Nat} {A : Option Addr} {nl c n1 c1 n2 c2 : Nat} {o t la dy : Int} {mv : Bool} {a : Act} {w : World} (hsz : a.tmps.size = 66)
    (t1 : a.eval (.tmp 1) = .slice (some ⟨b1, o1, none⟩) n1 c1) (t2 : a.eval (.tmp 2) = .slice (some ⟨b2, o2, none⟩) n2 c2) (t3 : a.eval (.tmp 3) = .pointer (some ⟨b3, 0, none⟩)) (t7 : a.eval (.tmp 7) = .int .i64 la) (t8 : a.eval (.tmp 8) = .int .i64 k) (q0 : w.cell? ⟨b3, 0, none⟩ = some (.int .i64 o)) (q1 : w.cell? ⟨b3, 1, none⟩ = some (.int .i64 t)) (q2 : w.cell? ⟨b3, 2, none⟩ = some (.slice A nl c)) (hnl : nl ≤ 12) (hk : k < n1) (m0 : w.cell? ⟨b1, o1 + k, none⟩ = some (.int .i64 jn)) (hi' : CV w 31 #[.int .i64 jn, .int .i64 0, .int .i64 (nl - 1)] (.bool true)) (m1 : w.cell? ⟨b2, o2 + jn, none⟩ = some (.int .i64 dy)) (hj : jn < n2) (hkc : k ≤ c1) (hm' : CV w 52 #[.agg #[.int .i64 o, .int .i64 t, .slice A nl c], .slice (some ⟨b1, o1, none⟩) k c1, .int .i64 la, .int .i64 jn, .int .i64 dy] (.bool mv))
    (hK : ∀ (a' : Act) (w' : World), a'.tmps.size = 66 → a'.defers = a.defers → Below w.heap.size w w' → (∀ e, ndstB opsTr1 e = true → a'.eval (.tmp e) = a.eval (.tmp e)) → (∀ (j d : Nat), (opsTr1[j]?).bind (·.dst) = some d → (wordsTr1 b1 o1 b2 o2 b3 k jn A nl c n1 c1 n2 c2 o t la dy mv).at_ j (a'.eval (.tmp d)) w') → Q .normal a' w') :
    (Code.region 7 opsTr1 true).wpIn F n Try.prog Q a w := by
  refine region_S (wordsTr1 b1 o1 b2 o2 b3 k jn A nl c n1 c1 n2 c2 o t la dy mv) 66 hF (by kernel_rfl) Try.mixed (by kernel_rfl) (by kernel_rfl) ?_ hsz 30 (by kernel_rfl) ?_ hK
  · exact ⟨(fun _ _ _ h _ => h), (fun _ _ _ h _ => h), (fun _ _ _ h _ => h), (fun _ _ _ h _ => h), (fun _ _ _ h _ => h), (fun _ _ _ h _ => h), (fun _ _ _ h _ => h), (fun _ _ _ h _ => h), (fun _ _ _ h _ => h), (fun _ _ _ h _ => h), (fun _ _ _ h _ => h), (fun _ _ _ h _ => h), (fun _ _ _ h _ => h), (fun _ _ _ h _ => h), (fun _ _ _ h _ => h), (fun _ _ _ h _ => h), (fun _ _ _ h _ => h), (fun _ _ _ h _ => h), (fun _ _ _ h _ => h), (fun _ _ _ h _ => h), (fun _ _ _ h _ => h), (fun _ _ _ h _ => h), (fun _ _ _ h _ => h), (fun _ _ _ h _ => h), (fun _ _ _ h _ => h), (fun _ _ _ h _ => h), (fun _ _ _ h _ => h), (fun _ _ _ h _ => h), (fun _ _ _ h _ => h), (fun _ _ _ h _ => h), trivial⟩
  · exact ⟨⟨⟨⟨⟨⟨⟨⟨⟨⟨⟨⟨⟨⟨⟨⟨⟨⟨⟨⟨⟨⟨⟨⟨⟨⟨⟨⟨⟨⟨trivial, okTr1_0 t1 t2 t3 t7 t8 q0 q1 q2 hnl hk m0 hi'.drew m1 hj hkc hm'.drew⟩, okTr1_1 t1 t2 t3 t7 t8 q0 q1 q2 hnl hk m0 hi'.drew m1 hj hkc hm'.drew⟩, okTr1_2 t1 t2 t3 t7 t8 q0 q1 q2 hnl hk m0 hi'.drew m1 hj hkc hm'.drew⟩, okTr1_3 t1 t2 t3 t7 t8 q0 q1 q2 hnl hk m0 hi'.drew m1 hj hkc hm'.drew⟩, okTr1_4 t1 t2 t3 t7 t8 q0 q1 q2 hnl hk m0 hi'.drew m1 hj hkc hm'.drew⟩, okTr1_5 t1 t2 t3 t7 t8 q0 q1 q2 hnl hk m0 hi'.drew m1 hj hkc hm'.drew⟩, okTr1_6 t1 t2 t3 t7 t8 q0 q1 q2 hnl hk m0 hi'.drew m1 hj hkc hm'.drew⟩, okTr1_7 t1 t2 t3 t7 t8 q0 q1 q2 hnl hk m0 hi'.drew m1 hj hkc hm'.drew⟩, okTr1_8 t1 t2 t3 t7 t8 q0 q1 q2 hnl hk m0 hi'.drew m1 hj hkc hm'.drew⟩, okTr1_9 t1 t2 t3 t7 t8 q0 q1 q2 hnl hk m0 hi'.drew m1 hj hkc hm'.drew⟩, okTr1_10 t1 t2 t3 t7 t8 q0 q1 q2 hnl hk m0 hi'.drew m1 hj hkc hm'.drew⟩, okTr1_11 t1 t2 t3 t7 t8 q0 q1 q2 hnl hk m0 hi'.drew m1 hj hkc hm'.drew⟩, okTr1_12 t1 t2 t3 t7 t8 q0 q1 q2 hnl hk m0 hi'.drew m1 hj hkc hm'.drew⟩, okTr1_13 t1 t2 t3 t7 t8 q0 q1 q2 hnl hk m0 hi'.drew m1 hj hkc hm'.drew⟩, okTr1_14 t1 t2 t3 t7 t8 q0 q1 q2 hnl hk m0 hi'.drew m1 hj hkc hm'.drew⟩, okTr1_15 t1 t2 t3 t7 t8 q0 q1 q2 hnl hk m0 hi'.drew m1 hj hkc hm'.drew⟩, okTr1_16 t1 t2 t3 t7 t8 q0 q1 q2 hnl hk m0 hi'.drew m1 hj hkc hm'.drew⟩, okTr1_17 t1 t2 t3 t7 t8 q0 q1 q2 hnl hk m0 hi'.drew m1 hj hkc hm'.drew⟩, okTr1_18 t1 t2 t3 t7 t8 q0 q1 q2 hnl hk m0 hi'.drew m1 hj hkc hm'.drew⟩, okTr1_19 t1 t2 t3 t7 t8 q0 q1 q2 hnl hk m0 hi'.drew m1 hj hkc hm'.drew⟩, okTr1_20 t1 t2 t3 t7 t8 q0 q1 q2 hnl hk m0 hi'.drew m1 hj hkc hm'.drew⟩, okTr1_21 t1 t2 t3 t7 t8 q0 q1 q2 hnl hk m0 hi'.drew m1 hj hkc hm'.drew⟩, okTr1_22 t1 t2 t3 t7 t8 q0 q1 q2 hnl hk m0 hi'.drew m1 hj hkc hm'.drew⟩, okTr1_23 t1 t2 t3 t7 t8 q0 q1 q2 hnl hk m0 hi'.drew m1 hj hkc hm'.drew⟩, okTr1_24 t1 t2 t3 t7 t8 q0 q1 q2 hnl hk m0 hi'.drew m1 hj hkc hm'.drew⟩, okTr1_25 t1 t2 t3 t7 t8 q0 q1 q2 hnl hk m0 hi'.drew m1 hj hkc hm'.drew⟩, okTr1_26 t1 t2 t3 t7 t8 q0 q1 q2 hnl hk m0 hi'.drew m1 hj hkc hm'.drew⟩, okTr1_27 t1 t2 t3 t7 t8 q0 q1 q2 hnl hk m0 hi'.drew m1 hj hkc hm'.drew⟩, okTr1_28 t1 t2 t3 t7 t8 q0 q1 q2 hnl hk m0 hi'.drew m1 hj hkc hm'.drew⟩, okTr1_29 t1 t2 t3 t7 t8 q0 q1 q2 hnl hk m0 hi'.drew m1 hj hkc hm'.drew⟩
noncomputable def roundTr : Code := .seq (.seq (.region 5 opsTr_5 false) (.cond (.tmp 26) .skip (.exit 0))) (.seq (.block 1 (.seq (.seq (.region 7 opsTr0 true) (.cond (.tmp 58) (.seq (.region 8 opsTr_8 false) .ret) .skip)) (.region 9 opsTr_9 false))) (.region 6 opsTr_6 false))
noncomputable def code22 : Code := .seq (.region 0 opsTr_0 false) (.seq (.seq (.region 1 opsTr_1 false) (.cond (.tmp 22) (.seq (.region 2 opsTr_2 false) .ret) .skip)) (.seq (.region 3 opsTr_3 false) (.seq (.seq (.region 4 opsTr_4 false) (.block 0 (.loop roundTr))) (.seq (.region 10 opsTr_10 false) .ret))))
theorem body22 : Try.f22.body = some code22 := by kernel_rfl
end Go.Proofs.Ytfcnombmphophaa
