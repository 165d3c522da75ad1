/- Texts for a law of package recall, behind the shared ones, part 1: the law's own contracts and plain words. -/
import Derived.Test.YtfcnombmphophaaG4

set_option linter.unusedVariables false

namespace Go.Proofs.Ytfcnombmphophaa
open Go.RowKit Go.Shelf
theorem bd71 (x y : Int) (w : World) : (Instr.build 71 #[(0, .int .i64 x), (1, .int .i64 y)]).run Try.prog w = .ok (.agg #[.int .i64 x, .int .i64 y]) w := by
  go_simp
theorem st71 {w : World} {b o : Nat} {u v : Value} {x y : Int} (h0 : w.cell? ⟨b, o, none⟩ = some u) (h1 : w.cell? ⟨b, o + 1, none⟩ = some v) (f0 : w.frozen? ⟨b, o, none⟩ = false) (f1 : w.frozen? ⟨b, o + 1, none⟩ = false) :
    (Instr.storeAt 71 (.pointer (some ⟨b, o, none⟩)) (.agg #[.int .i64 x, .int .i64 y])).run Try.prog w = .ok () ((w.setCell ⟨b, o, none⟩ (.int .i64 x)).setCell ⟨b, o + 1, none⟩ (.int .i64 y)) := by
  go_simp
/-- Two days are written. -/
def putDays (W : World) (g o : Nat) (x y : Int) : World := (W.setCell ⟨g, o, none⟩ (.int .i64 x)).setCell ⟨g, o + 1, none⟩ (.int .i64 y)
noncomputable def opsLt3 : Array Oper := (Try.f15.body.bind (regionOf 3)).getD #[]
def wordsLt3 (b4 nb nd nw : Nat) (o n_ on ow : Int) : Words := [fun v _ => v = .int .u8 nb, fun v _ => v = .int .i64 nb, fun v _ => v = .int .i64 n_, fun v _ => v = .int .u8 nd, fun v _ => v = .int .i64 nd, fun v _ => v = .int .i64 on, fun v _ => v = .int .u8 nw, fun v _ => v = .int .i64 nw, fun v _ => v = .pointer (some ⟨b4, 0, none⟩), fun v _ => v = .int .i64 o, fun v _ => v = .int .i64 ow, fun v _ => v = .int .i64 n_, fun v _ => v = .int .i64 on, fun v _ => v = .int .i64 ow]
set_option maxRecDepth 10000 in
theorem okLt3_0 {b4 nb nd nw : Nat} {o n_ on ow : Int} {a : Act} {w : World} (t1 : a.eval (.tmp 1) = .int .u8 nb) (t2 : a.eval (.tmp 2) = .int .u8 nd) (t3 : a.eval (.tmp 3) = .int .u8 nw) (t4 : a.eval (.tmp 4) = .pointer (some ⟨b4, 0, none⟩)) (q0 : w.cell? ⟨b4, 0, none⟩ = some (.int .i64 o)) (hnb : nb < 256) (hnd : nd < 256) (hnw : nw < 256) (ho : 0 < o) (hn : (↑nb : Int) % 60 = n_) (hon : (↑nd : Int) % 101 = on) (how : (↑nw : Int) % o = ow) : OpOk Try.prog opsLt3 (wordsLt3 b4 nb nd nw o n_ on ow) 171 a w 0 := by
  refine OpOk.gen rfl (fun a1 w1 H => ?_)
  have e1 : a1.eval (.tmp 1) = .int .u8 nb := (H.out 1 (by kernel_rfl)).trans t1
  refine gd_none ?_
  exact OpW.move e1 rfl
set_option maxRecDepth 10000 in
theorem okLt3_1 {b4 nb nd nw : Nat} {o n_ on ow : Int} {a : Act} {w : World} (t1 : a.eval (.tmp 1) = .int .u8 nb) (t2 : a.eval (.tmp 2) = .int .u8 nd) (t3 : a.eval (.tmp 3) = .int .u8 nw) (t4 : a.eval (.tmp 4) = .pointer (some ⟨b4, 0, none⟩)) (q0 : w.cell? ⟨b4, 0, none⟩ = some (.int .i64 o)) (hnb : nb < 256) (hnd : nd < 256) (hnw : nw < 256) (ho : 0 < o) (hn : (↑nb : Int) % 60 = n_) (hon : (↑nd : Int) % 101 = on) (how : (↑nw : Int) % o = ow) : OpOk Try.prog opsLt3 (wordsLt3 b4 nb nd nw o n_ on ow) 171 a w 1 := by
  refine OpOk.gen rfl (fun a1 w1 H => ?_)
  have d0 : a1.eval (.tmp 27) = .int .u8 nb := H.dep 0 27 rfl (by kernel_rfl)
  refine gd_none ?_
  exact OpW.conv d0 (cvu8 hnb _) rfl
set_option maxRecDepth 10000 in
theorem okLt3_2 {b4 nb nd nw : Nat} {o n_ on ow : Int} {a : Act} {w : World} (t1 : a.eval (.tmp 1) = .int .u8 nb) (t2 : a.eval (.tmp 2) = .int .u8 nd) (t3 : a.eval (.tmp 3) = .int .u8 nw) (t4 : a.eval (.tmp 4) = .pointer (some ⟨b4, 0, none⟩)) (q0 : w.cell? ⟨b4, 0, none⟩ = some (.int .i64 o)) (hnb : nb < 256) (hnd : nd < 256) (hnw : nw < 256) (ho : 0 < o) (hn : (↑nb : Int) % 60 = n_) (hon : (↑nd : Int) % 101 = on) (how : (↑nw : Int) % o = ow) : OpOk Try.prog opsLt3 (wordsLt3 b4 nb nd nw o n_ on ow) 171 a w 2 := by
  refine OpOk.gen rfl (fun a1 w1 H => ?_)
  have d1 : a1.eval (.tmp 28) = .int .i64 nb := H.dep 1 28 rfl (by kernel_rfl)
  refine gd_none ?_
  exact OpW.bin d1 rfl (rem3r (by omega) (by omega) hn _) rfl
set_option maxRecDepth 10000 in
theorem okLt3_3 {b4 nb nd nw : Nat} {o n_ on ow : Int} {a : Act} {w : World} (t1 : a.eval (.tmp 1) = .int .u8 nb) (t2 : a.eval (.tmp 2) = .int .u8 nd) (t3 : a.eval (.tmp 3) = .int .u8 nw) (t4 : a.eval (.tmp 4) = .pointer (some ⟨b4, 0, none⟩)) (q0 : w.cell? ⟨b4, 0, none⟩ = some (.int .i64 o)) (hnb : nb < 256) (hnd : nd < 256) (hnw : nw < 256) (ho : 0 < o) (hn : (↑nb : Int) % 60 = n_) (hon : (↑nd : Int) % 101 = on) (how : (↑nw : Int) % o = ow) : OpOk Try.prog opsLt3 (wordsLt3 b4 nb nd nw o n_ on ow) 171 a w 3 := by
  refine OpOk.gen rfl (fun a1 w1 H => ?_)
  have e2 : a1.eval (.tmp 2) = .int .u8 nd := (H.out 2 (by kernel_rfl)).trans t2
  refine gd_none ?_
  exact OpW.move e2 rfl
set_option maxRecDepth 10000 in
theorem okLt3_4 {b4 nb nd nw : Nat} {o n_ on ow : Int} {a : Act} {w : World} (t1 : a.eval (.tmp 1) = .int .u8 nb) (t2 : a.eval (.tmp 2) = .int .u8 nd) (t3 : a.eval (.tmp 3) = .int .u8 nw) (t4 : a.eval (.tmp 4) = .pointer (some ⟨b4, 0, none⟩)) (q0 : w.cell? ⟨b4, 0, none⟩ = some (.int .i64 o)) (hnb : nb < 256) (hnd : nd < 256) (hnw : nw < 256) (ho : 0 < o) (hn : (↑nb : Int) % 60 = n_) (hon : (↑nd : Int) % 101 = on) (how : (↑nw : Int) % o = ow) : OpOk Try.prog opsLt3 (wordsLt3 b4 nb nd nw o n_ on ow) 171 a w 4 := by
  refine OpOk.gen rfl (fun a1 w1 H => ?_)
  have d3 : a1.eval (.tmp 30) = .int .u8 nd := H.dep 3 30 rfl (by kernel_rfl)
  refine gd_none ?_
  exact OpW.conv d3 (cvu8 hnd _) rfl
set_option maxRecDepth 10000 in
theorem okLt3_5 {b4 nb nd nw : Nat} {o n_ on ow : Int} {a : Act} {w : World} (t1 : a.eval (.tmp 1) = .int .u8 nb) (t2 : a.eval (.tmp 2) = .int .u8 nd) (t3 : a.eval (.tmp 3) = .int .u8 nw) (t4 : a.eval (.tmp 4) = .pointer (some ⟨b4, 0, none⟩)) (q0 : w.cell? ⟨b4, 0, none⟩ = some (.int .i64 o)) (hnb : nb < 256) (hnd : nd < 256) (hnw : nw < 256) (ho : 0 < o) (hn : (↑nb : Int) % 60 = n_) (hon : (↑nd : Int) % 101 = on) (how : (↑nw : Int) % o = ow) : OpOk Try.prog opsLt3 (wordsLt3 b4 nb nd nw o n_ on ow) 171 a w 5 := by
  refine OpOk.gen rfl (fun a1 w1 H => ?_)
  have d4 : a1.eval (.tmp 31) = .int .i64 nd := H.dep 4 31 rfl (by kernel_rfl)
  refine gd_none ?_
  exact OpW.bin d4 rfl (rem3r (by omega) (by omega) hon _) rfl
set_option maxRecDepth 10000 in
theorem okLt3_6 {b4 nb nd nw : Nat} {o n_ on ow : Int} {a : Act} {w : World} (t1 : a.eval (.tmp 1) = .int .u8 nb) (t2 : a.eval (.tmp 2) = .int .u8 nd) (t3 : a.eval (.tmp 3) = .int .u8 nw) (t4 : a.eval (.tmp 4) = .pointer (some ⟨b4, 0, none⟩)) (q0 : w.cell? ⟨b4, 0, none⟩ = some (.int .i64 o)) (hnb : nb < 256) (hnd : nd < 256) (hnw : nw < 256) (ho : 0 < o) (hn : (↑nb : Int) % 60 = n_) (hon : (↑nd : Int) % 101 = on) (how : (↑nw : Int) % o = ow) : OpOk Try.prog opsLt3 (wordsLt3 b4 nb nd nw o n_ on ow) 171 a w 6 := by
  refine OpOk.gen rfl (fun a1 w1 H => ?_)
  have e3 : a1.eval (.tmp 3) = .int .u8 nw := (H.out 3 (by kernel_rfl)).trans t3
  refine gd_none ?_
  exact OpW.move e3 rfl
set_option maxRecDepth 10000 in
theorem okLt3_7 {b4 nb nd nw : Nat} {o n_ on ow : Int} {a : Act} {w : World} (t1 : a.eval (.tmp 1) = .int .u8 nb) (t2 : a.eval (.tmp 2) = .int .u8 nd) (t3 : a.eval (.tmp 3) = .int .u8 nw) (t4 : a.eval (.tmp 4) = .pointer (some ⟨b4, 0, none⟩)) (q0 : w.cell? ⟨b4, 0, none⟩ = some (.int .i64 o)) (hnb : nb < 256) (hnd : nd < 256) (hnw : nw < 256) (ho : 0 < o) (hn : (↑nb : Int) % 60 = n_) (hon : (↑nd : Int) % 101 = on) (how : (↑nw : Int) % o = ow) : OpOk Try.prog opsLt3 (wordsLt3 b4 nb nd nw o n_ on ow) 171 a w 7 := by
  refine OpOk.gen rfl (fun a1 w1 H => ?_)
  have d6 : a1.eval (.tmp 33) = .int .u8 nw := H.dep 6 33 rfl (by kernel_rfl)
  refine gd_none ?_
  exact OpW.conv d6 (cvu8 hnw _) rfl
set_option maxRecDepth 10000 in
theorem okLt3_8 {b4 nb nd nw : Nat} {o n_ on ow : Int} {a : Act} {w : World} (t1 : a.eval (.tmp 1) = .int .u8 nb) (t2 : a.eval (.tmp 2) = .int .u8 nd) (t3 : a.eval (.tmp 3) = .int .u8 nw) (t4 : a.eval (.tmp 4) = .pointer (some ⟨b4, 0, none⟩)) (q0 : w.cell? ⟨b4, 0, none⟩ = some (.int .i64 o)) (hnb : nb < 256) (hnd : nd < 256) (hnw : nw < 256) (ho : 0 < o) (hn : (↑nb : Int) % 60 = n_) (hon : (↑nd : Int) % 101 = on) (how : (↑nw : Int) % o = ow) : OpOk Try.prog opsLt3 (wordsLt3 b4 nb nd nw o n_ on ow) 171 a w 8 := by
  refine OpOk.gen rfl (fun a1 w1 H => ?_)
  have e4 : a1.eval (.tmp 4) = .pointer (some ⟨b4, 0, none⟩) := (H.out 4 (by kernel_rfl)).trans t4
  refine gd_none ?_
  exact OpW.field e4 (fa24_0 _) rfl
set_option maxRecDepth 10000 in
theorem okLt3_9 {b4 nb nd nw : Nat} {o n_ on ow : Int} {a : Act} {w : World} (t1 : a.eval (.tmp 1) = .int .u8 nb) (t2 : a.eval (.tmp 2) = .int .u8 nd) (t3 : a.eval (.tmp 3) = .int .u8 nw) (t4 : a.eval (.tmp 4) = .pointer (some ⟨b4, 0, none⟩)) (q0 : w.cell? ⟨b4, 0, none⟩ = some (.int .i64 o)) (hnb : nb < 256) (hnd : nd < 256) (hnw : nw < 256) (ho : 0 < o) (hn : (↑nb : Int) % 60 = n_) (hon : (↑nd : Int) % 101 = on) (how : (↑nw : Int) % o = ow) : OpOk Try.prog opsLt3 (wordsLt3 b4 nb nd nw o n_ on ow) 171 a w 9 := by
  refine OpOk.gen rfl (fun a1 w1 H => ?_)
  have d8 : a1.eval (.tmp 35) = .pointer (some ⟨b4, 0, none⟩) := H.dep 8 35 rfl (by kernel_rfl)
  refine gd_none ?_
  exact OpW.load d8 (ld3 (H.cell q0)) rfl
set_option maxRecDepth 10000 in
theorem okLt3_10 {b4 nb nd nw : Nat} {o n_ on ow : Int} {a : Act} {w : World} (t1 : a.eval (.tmp 1) = .int .u8 nb) (t2 : a.eval (.tmp 2) = .int .u8 nd) (t3 : a.eval (.tmp 3) = .int .u8 nw) (t4 : a.eval (.tmp 4) = .pointer (some ⟨b4, 0, none⟩)) (q0 : w.cell? ⟨b4, 0, none⟩ = some (.int .i64 o)) (hnb : nb < 256) (hnd : nd < 256) (hnw : nw < 256) (ho : 0 < o) (hn : (↑nb : Int) % 60 = n_) (hon : (↑nd : Int) % 101 = on) (how : (↑nw : Int) % o = ow) : OpOk Try.prog opsLt3 (wordsLt3 b4 nb nd nw o n_ on ow) 171 a w 10 := by
  refine OpOk.gen rfl (fun a1 w1 H => ?_)
  have d7 : a1.eval (.tmp 34) = .int .i64 nw := H.dep 7 34 rfl (by kernel_rfl)
  have d9 : a1.eval (.tmp 36) = .int .i64 o := H.dep 9 36 rfl (by kernel_rfl)
  refine gd_none ?_
  exact OpW.bin d7 d9 (rem3r (by omega) (by omega) how _) rfl
set_option maxRecDepth 10000 in
theorem okLt3_11 {b4 nb nd nw : Nat} {o n_ on ow : Int} {a : Act} {w : World} (t1 : a.eval (.tmp 1) = .int .u8 nb) (t2 : a.eval (.tmp 2) = .int .u8 nd) (t3 : a.eval (.tmp 3) = .int .u8 nw) (t4 : a.eval (.tmp 4) = .pointer (some ⟨b4, 0, none⟩)) (q0 : w.cell? ⟨b4, 0, none⟩ = some (.int .i64 o)) (hnb : nb < 256) (hnd : nd < 256) (hnw : nw < 256) (ho : 0 < o) (hn : (↑nb : Int) % 60 = n_) (hon : (↑nd : Int) % 101 = on) (how : (↑nw : Int) % o = ow) : OpOk Try.prog opsLt3 (wordsLt3 b4 nb nd nw o n_ on ow) 171 a w 11 := by
  refine OpOk.gen rfl (fun a1 w1 H => ?_)
  have d2 : a1.eval (.tmp 29) = .int .i64 n_ := H.dep 2 29 rfl (by kernel_rfl)
  refine gd_none ?_
  exact OpW.assign d2 rfl
set_option maxRecDepth 10000 in
theorem okLt3_12 {b4 nb nd nw : Nat} {o n_ on ow : Int} {a : Act} {w : World} (t1 : a.eval (.tmp 1) = .int .u8 nb) (t2 : a.eval (.tmp 2) = .int .u8 nd) (t3 : a.eval (.tmp 3) = .int .u8 nw) (t4 : a.eval (.tmp 4) = .pointer (some ⟨b4, 0, none⟩)) (q0 : w.cell? ⟨b4, 0, none⟩ = some (.int .i64 o)) (hnb : nb < 256) (hnd : nd < 256) (hnw : nw < 256) (ho : 0 < o) (hn : (↑nb : Int) % 60 = n_) (hon : (↑nd : Int) % 101 = on) (how : (↑nw : Int) % o = ow) : OpOk Try.prog opsLt3 (wordsLt3 b4 nb nd nw o n_ on ow) 171 a w 12 := by
  refine OpOk.gen rfl (fun a1 w1 H => ?_)
  have d5 : a1.eval (.tmp 32) = .int .i64 on := H.dep 5 32 rfl (by kernel_rfl)
  refine gd_none ?_
  exact OpW.assign d5 rfl
set_option maxRecDepth 10000 in
theorem okLt3_13 {b4 nb nd nw : Nat} {o n_ on ow : Int} {a : Act} {w : World} (t1 : a.eval (.tmp 1) = .int .u8 nb) (t2 : a.eval (.tmp 2) = .int .u8 nd) (t3 : a.eval (.tmp 3) = .int .u8 nw) (t4 : a.eval (.tmp 4) = .pointer (some ⟨b4, 0, none⟩)) (q0 : w.cell? ⟨b4, 0, none⟩ = some (.int .i64 o)) (hnb : nb < 256) (hnd : nd < 256) (hnw : nw < 256) (ho : 0 < o) (hn : (↑nb : Int) % 60 = n_) (hon : (↑nd : Int) % 101 = on) (how : (↑nw : Int) % o = ow) : OpOk Try.prog opsLt3 (wordsLt3 b4 nb nd nw o n_ on ow) 171 a w 13 := by
  refine OpOk.gen rfl (fun a1 w1 H => ?_)
  have d10 : a1.eval (.tmp 37) = .int .i64 ow := H.dep 10 37 rfl (by kernel_rfl)
  refine gd_none ?_
  exact OpW.assign d10 rfl
set_option maxRecDepth 10000 in
theorem regionLt3 {F : Fence} {n : Nat} (hF : WideF F Try.prog) {Q : Exit → Act → World → Prop} {b4 nb nd nw : Nat} {o n_ on ow : Int} {a : Act} {w : World} (hsz : a.tmps.size = 171)
    (t1 : a.eval (.tmp 1) = .int .u8 nb) (t2 : a.eval (.tmp 2) = .int .u8 nd) (t3 : a.eval (.tmp 3) = .int .u8 nw) (t4 : a.eval (.tmp 4) = .pointer (some ⟨b4, 0, none⟩)) (q0 : w.cell? ⟨b4, 0, none⟩ = some (.int .i64 o)) (hnb : nb < 256) (hnd : nd < 256) (hnw : nw < 256) (ho : 0 < o) (hn : (↑nb : Int) % 60 = n_) (hon : (↑nd : Int) % 101 = on) (how : (↑nw : Int) % o = ow)
    (hK : ∀ (a' : Act) (w' : World), a'.tmps.size = 171 → a'.defers = a.defers → Below w.heap.size w w' → (∀ e, ndstB opsLt3 e = true → a'.eval (.tmp e) = a.eval (.tmp e)) → (∀ (j d : Nat), (opsLt3[j]?).bind (·.dst) = some d → (wordsLt3 b4 nb nd nw o n_ on ow).at_ j (a'.eval (.tmp d)) w') → Q .normal a' w') :
    (Code.region 3 opsLt3 true).wpIn F n Try.prog Q a w := by
  refine region_S (wordsLt3 b4 nb nd nw o n_ on ow) 171 hF (by kernel_rfl) Try.mixed (by kernel_rfl) (by kernel_rfl) ?_ hsz 14 (by kernel_rfl) ?_ hK
  · exact ⟨(fun _ _ _ h _ => h), (fun _ _ _ h _ => h), (fun _ _ _ h _ => h), (fun _ _ _ h _ => h), (fun _ _ _ h _ => h), (fun _ _ _ h _ => h), (fun _ _ _ h _ => h), (fun _ _ _ h _ => h), (fun _ _ _ h _ => h), (fun _ _ _ h _ => h), (fun _ _ _ h _ => h), (fun _ _ _ h _ => h), (fun _ _ _ h _ => h), (fun _ _ _ h _ => h), trivial⟩
  · exact ⟨⟨⟨⟨⟨⟨⟨⟨⟨⟨⟨⟨⟨⟨trivial, okLt3_0 t1 t2 t3 t4 q0 hnb hnd hnw ho hn hon how⟩, okLt3_1 t1 t2 t3 t4 q0 hnb hnd hnw ho hn hon how⟩, okLt3_2 t1 t2 t3 t4 q0 hnb hnd hnw ho hn hon how⟩, okLt3_3 t1 t2 t3 t4 q0 hnb hnd hnw ho hn hon how⟩, okLt3_4 t1 t2 t3 t4 q0 hnb hnd hnw ho hn hon how⟩, okLt3_5 t1 t2 t3 t4 q0 hnb hnd hnw ho hn hon how⟩, okLt3_6 t1 t2 t3 t4 q0 hnb hnd hnw ho hn hon how⟩, okLt3_7 t1 t2 t3 t4 q0 hnb hnd hnw ho hn hon how⟩, okLt3_8 t1 t2 t3 t4 q0 hnb hnd hnw ho hn hon how⟩, okLt3_9 t1 t2 t3 t4 q0 hnb hnd hnw ho hn hon how⟩, okLt3_10 t1 t2 t3 t4 q0 hnb hnd hnw ho hn hon how⟩, okLt3_11 t1 t2 t3 t4 q0 hnb hnd hnw ho hn hon how⟩, okLt3_12 t1 t2 t3 t4 q0 hnb hnd hnw ho hn hon how⟩, okLt3_13 t1 t2 t3 t4 q0 hnb hnd hnw ho hn hon how⟩
noncomputable def opsLt17 : Array Oper := (Try.f15.body.bind (regionOf 17)).getD #[]
def wordsLt17 (p1 p2 : Nat) (n_ e f x1 y1 x2 y2 : Int) : Words := [fun v _ => v = .int .i64 e, fun v _ => v = .int .i64 f, fun v _ => v = .bool false, fun v _ => v = .bool false, fun v _ => v = .int .i64 e, fun v _ => v = .bool true, fun v _ => v = .bool true, fun v _ => v = .agg #[.int .i64 x2, .int .i64 y2], fun v _ => v = .pointer (some ⟨p1, 0, none⟩), fun v _ => v = .int .i64 x1, fun v _ => v = .int .i64 n_, fun v _ => v = .int .i64 (x1 + n_), fun v _ => v = .pointer (some ⟨p1, 1, none⟩), fun v _ => v = .int .i64 y1, fun v _ => v = .int .i64 n_, fun v _ => v = .int .i64 (y1 + n_), fun v _ => v = .agg #[.int .i64 (x1 + n_), .int .i64 (y1 + n_)], fun v _ => v = .bool false, fun v _ => v = .bool false, fun v _ => v = .bool false, fun v _ => v = .bool false, fun v _ => v = .int .i64 e, fun v _ => v = .bool false, fun v _ => v = .bool false, fun _ _ => True, fun _ _ => True, fun v _ => v = .bool false, fun v _ => v = .bool false]
set_option maxRecDepth 10000 in
theorem okLt17_0 {p1 p2 : Nat} {n_ e f x1 y1 x2 y2 : Int} {a : Act} {w : World} (t9 : a.eval (.tmp 9) = .int .i64 n_) (t15 : a.eval (.tmp 15) = .pointer (some ⟨p1, 0, none⟩)) (t16 : a.eval (.tmp 16) = .int .i64 e) (t17 : a.eval (.tmp 17) = .pointer (some ⟨p2, 0, none⟩)) (t18 : a.eval (.tmp 18) = .int .i64 f) (m0 : w.cell? ⟨p1, 0, none⟩ = some (.int .i64 x1)) (m1 : w.cell? ⟨p1, 1, none⟩ = some (.int .i64 y1)) (m2 : w.cell? ⟨p2, 0, none⟩ = some (.int .i64 x2)) (m3 : w.cell? ⟨p2, 1, none⟩ = some (.int .i64 y2)) (he : e = 0) (hf : f = 0) (hx : -1000 ≤ x1 + n_ ∧ x1 + n_ ≤ 1000) (hy : -1000 ≤ y1 + n_ ∧ y1 + n_ ≤ 1000) (h1 : x2 = x1 + n_) (h2 : y2 = y1 + n_) : OpOk Try.prog opsLt17 (wordsLt17 p1 p2 n_ e f x1 y1 x2 y2) 171 a w 0 := by
  refine OpOk.gen rfl (fun a1 w1 H => ?_)
  have e16 : a1.eval (.tmp 16) = .int .i64 e := (H.out 16 (by kernel_rfl)).trans t16
  refine gd_none ?_
  exact OpW.move e16 rfl
set_option maxRecDepth 10000 in
theorem okLt17_1 {p1 p2 : Nat} {n_ e f x1 y1 x2 y2 : Int} {a : Act} {w : World} (t9 : a.eval (.tmp 9) = .int .i64 n_) (t15 : a.eval (.tmp 15) = .pointer (some ⟨p1, 0, none⟩)) (t16 : a.eval (.tmp 16) = .int .i64 e) (t17 : a.eval (.tmp 17) = .pointer (some ⟨p2, 0, none⟩)) (t18 : a.eval (.tmp 18) = .int .i64 f) (m0 : w.cell? ⟨p1, 0, none⟩ = some (.int .i64 x1)) (m1 : w.cell? ⟨p1, 1, none⟩ = some (.int .i64 y1)) (m2 : w.cell? ⟨p2, 0, none⟩ = some (.int .i64 x2)) (m3 : w.cell? ⟨p2, 1, none⟩ = some (.int .i64 y2)) (he : e = 0) (hf : f = 0) (hx : -1000 ≤ x1 + n_ ∧ x1 + n_ ≤ 1000) (hy : -1000 ≤ y1 + n_ ∧ y1 + n_ ≤ 1000) (h1 : x2 = x1 + n_) (h2 : y2 = y1 + n_) : OpOk Try.prog opsLt17 (wordsLt17 p1 p2 n_ e f x1 y1 x2 y2) 171 a w 1 := by
  refine OpOk.gen rfl (fun a1 w1 H => ?_)
  have e18 : a1.eval (.tmp 18) = .int .i64 f := (H.out 18 (by kernel_rfl)).trans t18
  refine gd_none ?_
  exact OpW.move e18 rfl
set_option maxRecDepth 10000 in
theorem okLt17_2 {p1 p2 : Nat} {n_ e f x1 y1 x2 y2 : Int} {a : Act} {w : World} (t9 : a.eval (.tmp 9) = .int .i64 n_) (t15 : a.eval (.tmp 15) = .pointer (some ⟨p1, 0, none⟩)) (t16 : a.eval (.tmp 16) = .int .i64 e) (t17 : a.eval (.tmp 17) = .pointer (some ⟨p2, 0, none⟩)) (t18 : a.eval (.tmp 18) = .int .i64 f) (m0 : w.cell? ⟨p1, 0, none⟩ = some (.int .i64 x1)) (m1 : w.cell? ⟨p1, 1, none⟩ = some (.int .i64 y1)) (m2 : w.cell? ⟨p2, 0, none⟩ = some (.int .i64 x2)) (m3 : w.cell? ⟨p2, 1, none⟩ = some (.int .i64 y2)) (he : e = 0) (hf : f = 0) (hx : -1000 ≤ x1 + n_ ∧ x1 + n_ ≤ 1000) (hy : -1000 ≤ y1 + n_ ∧ y1 + n_ ≤ 1000) (h1 : x2 = x1 + n_) (h2 : y2 = y1 + n_) : OpOk Try.prog opsLt17 (wordsLt17 p1 p2 n_ e f x1 y1 x2 y2) 171 a w 2 := by
  refine OpOk.gen rfl (fun a1 w1 H => ?_)
  have d0 : a1.eval (.tmp 106) = .int .i64 e := H.dep 0 106 rfl (by kernel_rfl)
  have d1 : a1.eval (.tmp 107) = .int .i64 f := H.dep 1 107 rfl (by kernel_rfl)
  refine gd_none ?_
  exact OpW.bin d0 d1 (nqF (he.trans hf.symm) _) rfl
set_option maxRecDepth 10000 in
theorem okLt17_3 {p1 p2 : Nat} {n_ e f x1 y1 x2 y2 : Int} {a : Act} {w : World} (t9 : a.eval (.tmp 9) = .int .i64 n_) (t15 : a.eval (.tmp 15) = .pointer (some ⟨p1, 0, none⟩)) (t16 : a.eval (.tmp 16) = .int .i64 e) (t17 : a.eval (.tmp 17) = .pointer (some ⟨p2, 0, none⟩)) (t18 : a.eval (.tmp 18) = .int .i64 f) (m0 : w.cell? ⟨p1, 0, none⟩ = some (.int .i64 x1)) (m1 : w.cell? ⟨p1, 1, none⟩ = some (.int .i64 y1)) (m2 : w.cell? ⟨p2, 0, none⟩ = some (.int .i64 x2)) (m3 : w.cell? ⟨p2, 1, none⟩ = some (.int .i64 y2)) (he : e = 0) (hf : f = 0) (hx : -1000 ≤ x1 + n_ ∧ x1 + n_ ≤ 1000) (hy : -1000 ≤ y1 + n_ ∧ y1 + n_ ≤ 1000) (h1 : x2 = x1 + n_) (h2 : y2 = y1 + n_) : OpOk Try.prog opsLt17 (wordsLt17 p1 p2 n_ e f x1 y1 x2 y2) 171 a w 3 := by
  refine OpOk.gen rfl (fun a1 w1 H => ?_)
  have d2 : a1.eval (.tmp 108) = .bool false := H.dep 2 108 rfl (by kernel_rfl)
  refine gd_none ?_
  exact OpW.move d2 rfl
set_option maxRecDepth 10000 in
theorem okLt17_4 {p1 p2 : Nat} {n_ e f x1 y1 x2 y2 : Int} {a : Act} {w : World} (t9 : a.eval (.tmp 9) = .int .i64 n_) (t15 : a.eval (.tmp 15) = .pointer (some ⟨p1, 0, none⟩)) (t16 : a.eval (.tmp 16) = .int .i64 e) (t17 : a.eval (.tmp 17) = .pointer (some ⟨p2, 0, none⟩)) (t18 : a.eval (.tmp 18) = .int .i64 f) (m0 : w.cell? ⟨p1, 0, none⟩ = some (.int .i64 x1)) (m1 : w.cell? ⟨p1, 1, none⟩ = some (.int .i64 y1)) (m2 : w.cell? ⟨p2, 0, none⟩ = some (.int .i64 x2)) (m3 : w.cell? ⟨p2, 1, none⟩ = some (.int .i64 y2)) (he : e = 0) (hf : f = 0) (hx : -1000 ≤ x1 + n_ ∧ x1 + n_ ≤ 1000) (hy : -1000 ≤ y1 + n_ ∧ y1 + n_ ≤ 1000) (h1 : x2 = x1 + n_) (h2 : y2 = y1 + n_) : OpOk Try.prog opsLt17 (wordsLt17 p1 p2 n_ e f x1 y1 x2 y2) 171 a w 4 := by
  refine OpOk.gen rfl (fun a1 w1 H => ?_)
  have d3 : a1.eval (.tmp 109) = .bool false := H.dep 3 109 rfl (by kernel_rfl)
  have e16 : a1.eval (.tmp 16) = .int .i64 e := (H.out 16 (by kernel_rfl)).trans t16
  refine gd_true rfl d3 ?_
  exact OpW.move e16 rfl
set_option maxRecDepth 10000 in
theorem okLt17_5 {p1 p2 : Nat} {n_ e f x1 y1 x2 y2 : Int} {a : Act} {w : World} (t9 : a.eval (.tmp 9) = .int .i64 n_) (t15 : a.eval (.tmp 15) = .pointer (some ⟨p1, 0, none⟩)) (t16 : a.eval (.tmp 16) = .int .i64 e) (t17 : a.eval (.tmp 17) = .pointer (some ⟨p2, 0, none⟩)) (t18 : a.eval (.tmp 18) = .int .i64 f) (m0 : w.cell? ⟨p1, 0, none⟩ = some (.int .i64 x1)) (m1 : w.cell? ⟨p1, 1, none⟩ = some (.int .i64 y1)) (m2 : w.cell? ⟨p2, 0, none⟩ = some (.int .i64 x2)) (m3 : w.cell? ⟨p2, 1, none⟩ = some (.int .i64 y2)) (he : e = 0) (hf : f = 0) (hx : -1000 ≤ x1 + n_ ∧ x1 + n_ ≤ 1000) (hy : -1000 ≤ y1 + n_ ∧ y1 + n_ ≤ 1000) (h1 : x2 = x1 + n_) (h2 : y2 = y1 + n_) : OpOk Try.prog opsLt17 (wordsLt17 p1 p2 n_ e f x1 y1 x2 y2) 171 a w 5 := by
  refine OpOk.gen rfl (fun a1 w1 H => ?_)
  have d3 : a1.eval (.tmp 109) = .bool false := H.dep 3 109 rfl (by kernel_rfl)
  have d4 : a1.eval (.tmp 110) = .int .i64 e := H.dep 4 110 rfl (by kernel_rfl)
  refine gd_true rfl d3 ?_
  exact OpW.bin d4 rfl (eql27T he _) rfl
set_option maxRecDepth 10000 in
theorem okLt17_6 {p1 p2 : Nat} {n_ e f x1 y1 x2 y2 : Int} {a : Act} {w : World} (t9 : a.eval (.tmp 9) = .int .i64 n_) (t15 : a.eval (.tmp 15) = .pointer (some ⟨p1, 0, none⟩)) (t16 : a.eval (.tmp 16) = .int .i64 e) (t17 : a.eval (.tmp 17) = .pointer (some ⟨p2, 0, none⟩)) (t18 : a.eval (.tmp 18) = .int .i64 f) (m0 : w.cell? ⟨p1, 0, none⟩ = some (.int .i64 x1)) (m1 : w.cell? ⟨p1, 1, none⟩ = some (.int .i64 y1)) (m2 : w.cell? ⟨p2, 0, none⟩ = some (.int .i64 x2)) (m3 : w.cell? ⟨p2, 1, none⟩ = some (.int .i64 y2)) (he : e = 0) (hf : f = 0) (hx : -1000 ≤ x1 + n_ ∧ x1 + n_ ≤ 1000) (hy : -1000 ≤ y1 + n_ ∧ y1 + n_ ≤ 1000) (h1 : x2 = x1 + n_) (h2 : y2 = y1 + n_) : OpOk Try.prog opsLt17 (wordsLt17 p1 p2 n_ e f x1 y1 x2 y2) 171 a w 6 := by
  refine OpOk.gen rfl (fun a1 w1 H => ?_)
  have d3 : a1.eval (.tmp 109) = .bool false := H.dep 3 109 rfl (by kernel_rfl)
  have d5 : a1.eval (.tmp 111) = .bool true := H.dep 5 111 rfl (by kernel_rfl)
  refine gd_true rfl d3 ?_
  exact OpW.move d5 rfl
set_option maxRecDepth 10000 in
theorem okLt17_7 {p1 p2 : Nat} {n_ e f x1 y1 x2 y2 : Int} {a : Act} {w : World} (t9 : a.eval (.tmp 9) = .int .i64 n_) (t15 : a.eval (.tmp 15) = .pointer (some ⟨p1, 0, none⟩)) (t16 : a.eval (.tmp 16) = .int .i64 e) (t17 : a.eval (.tmp 17) = .pointer (some ⟨p2, 0, none⟩)) (t18 : a.eval (.tmp 18) = .int .i64 f) (m0 : w.cell? ⟨p1, 0, none⟩ = some (.int .i64 x1)) (m1 : w.cell? ⟨p1, 1, none⟩ = some (.int .i64 y1)) (m2 : w.cell? ⟨p2, 0, none⟩ = some (.int .i64 x2)) (m3 : w.cell? ⟨p2, 1, none⟩ = some (.int .i64 y2)) (he : e = 0) (hf : f = 0) (hx : -1000 ≤ x1 + n_ ∧ x1 + n_ ≤ 1000) (hy : -1000 ≤ y1 + n_ ∧ y1 + n_ ≤ 1000) (h1 : x2 = x1 + n_) (h2 : y2 = y1 + n_) : OpOk Try.prog opsLt17 (wordsLt17 p1 p2 n_ e f x1 y1 x2 y2) 171 a w 7 := by
  refine OpOk.gen rfl (fun a1 w1 H => ?_)
  have d6 : a1.eval (.tmp 112) = .bool true := H.dep 6 112 rfl (by kernel_rfl)
  have e17 : a1.eval (.tmp 17) = .pointer (some ⟨p2, 0, none⟩) := (H.out 17 (by kernel_rfl)).trans t17
  refine gd_true rfl d6 ?_
  exact OpW.load e17 (ld46 ⟨H.cell m2, H.cell m3⟩) rfl
set_option maxRecDepth 10000 in
theorem okLt17_8 {p1 p2 : Nat} {n_ e f x1 y1 x2 y2 : Int} {a : Act} {w : World} (t9 : a.eval (.tmp 9) = .int .i64 n_) (t15 : a.eval (.tmp 15) = .pointer (some ⟨p1, 0, none⟩)) (t16 : a.eval (.tmp 16) = .int .i64 e) (t17 : a.eval (.tmp 17) = .pointer (some ⟨p2, 0, none⟩)) (t18 : a.eval (.tmp 18) = .int .i64 f) (m0 : w.cell? ⟨p1, 0, none⟩ = some (.int .i64 x1)) (m1 : w.cell? ⟨p1, 1, none⟩ = some (.int .i64 y1)) (m2 : w.cell? ⟨p2, 0, none⟩ = some (.int .i64 x2)) (m3 : w.cell? ⟨p2, 1, none⟩ = some (.int .i64 y2)) (he : e = 0) (hf : f = 0) (hx : -1000 ≤ x1 + n_ ∧ x1 + n_ ≤ 1000) (hy : -1000 ≤ y1 + n_ ∧ y1 + n_ ≤ 1000) (h1 : x2 = x1 + n_) (h2 : y2 = y1 + n_) : OpOk Try.prog opsLt17 (wordsLt17 p1 p2 n_ e f x1 y1 x2 y2) 171 a w 8 := by
  refine OpOk.gen rfl (fun a1 w1 H => ?_)
  have d6 : a1.eval (.tmp 112) = .bool true := H.dep 6 112 rfl (by kernel_rfl)
  have e15 : a1.eval (.tmp 15) = .pointer (some ⟨p1, 0, none⟩) := (H.out 15 (by kernel_rfl)).trans t15
  refine gd_true rfl d6 ?_
  exact OpW.field e15 (fa46_0 _) rfl
set_option maxRecDepth 10000 in
theorem okLt17_9 {p1 p2 : Nat} {n_ e f x1 y1 x2 y2 : Int} {a : Act} {w : World} (t9 : a.eval (.tmp 9) = .int .i64 n_) (t15 : a.eval (.tmp 15) = .pointer (some ⟨p1, 0, none⟩)) (t16 : a.eval (.tmp 16) = .int .i64 e) (t17 : a.eval (.tmp 17) = .pointer (some ⟨p2, 0, none⟩)) (t18 : a.eval (.tmp 18) = .int .i64 f) (m0 : w.cell? ⟨p1, 0, none⟩ = some (.int .i64 x1)) (m1 : w.cell? ⟨p1, 1, none⟩ = some (.int .i64 y1)) (m2 : w.cell? ⟨p2, 0, none⟩ = some (.int .i64 x2)) (m3 : w.cell? ⟨p2, 1, none⟩ = some (.int .i64 y2)) (he : e = 0) (hf : f = 0) (hx : -1000 ≤ x1 + n_ ∧ x1 + n_ ≤ 1000) (hy : -1000 ≤ y1 + n_ ∧ y1 + n_ ≤ 1000) (h1 : x2 = x1 + n_) (h2 : y2 = y1 + n_) : OpOk Try.prog opsLt17 (wordsLt17 p1 p2 n_ e f x1 y1 x2 y2) 171 a w 9 := by
  refine OpOk.gen rfl (fun a1 w1 H => ?_)
  have d6 : a1.eval (.tmp 112) = .bool true := H.dep 6 112 rfl (by kernel_rfl)
  have d8 : a1.eval (.tmp 114) = .pointer (some ⟨p1, 0, none⟩) := H.dep 8 114 rfl (by kernel_rfl)
  refine gd_true rfl d6 ?_
  exact OpW.load d8 (ld3 (H.cell m0)) rfl
set_option maxRecDepth 10000 in
theorem okLt17_10 {p1 p2 : Nat} {n_ e f x1 y1 x2 y2 : Int} {a : Act} {w : World} (t9 : a.eval (.tmp 9) = .int .i64 n_) (t15 : a.eval (.tmp 15) = .pointer (some ⟨p1, 0, none⟩)) (t16 : a.eval (.tmp 16) = .int .i64 e) (t17 : a.eval (.tmp 17) = .pointer (some ⟨p2, 0, none⟩)) (t18 : a.eval (.tmp 18) = .int .i64 f) (m0 : w.cell? ⟨p1, 0, none⟩ = some (.int .i64 x1)) (m1 : w.cell? ⟨p1, 1, none⟩ = some (.int .i64 y1)) (m2 : w.cell? ⟨p2, 0, none⟩ = some (.int .i64 x2)) (m3 : w.cell? ⟨p2, 1, none⟩ = some (.int .i64 y2)) (he : e = 0) (hf : f = 0) (hx : -1000 ≤ x1 + n_ ∧ x1 + n_ ≤ 1000) (hy : -1000 ≤ y1 + n_ ∧ y1 + n_ ≤ 1000) (h1 : x2 = x1 + n_) (h2 : y2 = y1 + n_) : OpOk Try.prog opsLt17 (wordsLt17 p1 p2 n_ e f x1 y1 x2 y2) 171 a w 10 := by
  refine OpOk.gen rfl (fun a1 w1 H => ?_)
  have d6 : a1.eval (.tmp 112) = .bool true := H.dep 6 112 rfl (by kernel_rfl)
  have e9 : a1.eval (.tmp 9) = .int .i64 n_ := (H.out 9 (by kernel_rfl)).trans t9
  refine gd_true rfl d6 ?_
  exact OpW.move e9 rfl
set_option maxRecDepth 10000 in
theorem okLt17_11 {p1 p2 : Nat} {n_ e f x1 y1 x2 y2 : Int} {a : Act} {w : World} (t9 : a.eval (.tmp 9) = .int .i64 n_) (t15 : a.eval (.tmp 15) = .pointer (some ⟨p1, 0, none⟩)) (t16 : a.eval (.tmp 16) = .int .i64 e) (t17 : a.eval (.tmp 17) = .pointer (some ⟨p2, 0, none⟩)) (t18 : a.eval (.tmp 18) = .int .i64 f) (m0 : w.cell? ⟨p1, 0, none⟩ = some (.int .i64 x1)) (m1 : w.cell? ⟨p1, 1, none⟩ = some (.int .i64 y1)) (m2 : w.cell? ⟨p2, 0, none⟩ = some (.int .i64 x2)) (m3 : w.cell? ⟨p2, 1, none⟩ = some (.int .i64 y2)) (he : e = 0) (hf : f = 0) (hx : -1000 ≤ x1 + n_ ∧ x1 + n_ ≤ 1000) (hy : -1000 ≤ y1 + n_ ∧ y1 + n_ ≤ 1000) (h1 : x2 = x1 + n_) (h2 : y2 = y1 + n_) : OpOk Try.prog opsLt17 (wordsLt17 p1 p2 n_ e f x1 y1 x2 y2) 171 a w 11 := by
  refine OpOk.gen rfl (fun a1 w1 H => ?_)
  have d6 : a1.eval (.tmp 112) = .bool true := H.dep 6 112 rfl (by kernel_rfl)
  have d9 : a1.eval (.tmp 115) = .int .i64 x1 := H.dep 9 115 rfl (by kernel_rfl)
  have d10 : a1.eval (.tmp 116) = .int .i64 n_ := H.dep 10 116 rfl (by kernel_rfl)
  refine gd_true rfl d6 ?_
  exact OpW.bin d9 d10 (add3 (by omega) (by omega) _) rfl
set_option maxRecDepth 10000 in
theorem okLt17_12 {p1 p2 : Nat} {n_ e f x1 y1 x2 y2 : Int} {a : Act} {w : World} (t9 : a.eval (.tmp 9) = .int .i64 n_) (t15 : a.eval (.tmp 15) = .pointer (some ⟨p1, 0, none⟩)) (t16 : a.eval (.tmp 16) = .int .i64 e) (t17 : a.eval (.tmp 17) = .pointer (some ⟨p2, 0, none⟩)) (t18 : a.eval (.tmp 18) = .int .i64 f) (m0 : w.cell? ⟨p1, 0, none⟩ = some (.int .i64 x1)) (m1 : w.cell? ⟨p1, 1, none⟩ = some (.int .i64 y1)) (m2 : w.cell? ⟨p2, 0, none⟩ = some (.int .i64 x2)) (m3 : w.cell? ⟨p2, 1, none⟩ = some (.int .i64 y2)) (he : e = 0) (hf : f = 0) (hx : -1000 ≤ x1 + n_ ∧ x1 + n_ ≤ 1000) (hy : -1000 ≤ y1 + n_ ∧ y1 + n_ ≤ 1000) (h1 : x2 = x1 + n_) (h2 : y2 = y1 + n_) : OpOk Try.prog opsLt17 (wordsLt17 p1 p2 n_ e f x1 y1 x2 y2) 171 a w 12 := by
  refine OpOk.gen rfl (fun a1 w1 H => ?_)
  have d6 : a1.eval (.tmp 112) = .bool true := H.dep 6 112 rfl (by kernel_rfl)
  have e15 : a1.eval (.tmp 15) = .pointer (some ⟨p1, 0, none⟩) := (H.out 15 (by kernel_rfl)).trans t15
  refine gd_true rfl d6 ?_
  exact OpW.field e15 (fa46_1 _) rfl
set_option maxRecDepth 10000 in
theorem okLt17_13 {p1 p2 : Nat} {n_ e f x1 y1 x2 y2 : Int} {a : Act} {w : World} (t9 : a.eval (.tmp 9) = .int .i64 n_) (t15 : a.eval (.tmp 15) = .pointer (some ⟨p1, 0, none⟩)) (t16 : a.eval (.tmp 16) = .int .i64 e) (t17 : a.eval (.tmp 17) = .pointer (some ⟨p2, 0, none⟩)) (t18 : a.eval (.tmp 18) = .int .i64 f) (m0 : w.cell? ⟨p1, 0, none⟩ = some (.int .i64 x1)) (m1 : w.cell? ⟨p1, 1, none⟩ = some (.int .i64 y1)) (m2 : w.cell? ⟨p2, 0, none⟩ = some (.int .i64 x2)) (m3 : w.cell? ⟨p2, 1, none⟩ = some (.int .i64 y2)) (he : e = 0) (hf : f = 0) (hx : -1000 ≤ x1 + n_ ∧ x1 + n_ ≤ 1000) (hy : -1000 ≤ y1 + n_ ∧ y1 + n_ ≤ 1000) (h1 : x2 = x1 + n_) (h2 : y2 = y1 + n_) : OpOk Try.prog opsLt17 (wordsLt17 p1 p2 n_ e f x1 y1 x2 y2) 171 a w 13 := by
  refine OpOk.gen rfl (fun a1 w1 H => ?_)
  have d6 : a1.eval (.tmp 112) = .bool true := H.dep 6 112 rfl (by kernel_rfl)
  have d12 : a1.eval (.tmp 118) = .pointer (some ⟨p1, 1, none⟩) := H.dep 12 118 rfl (by kernel_rfl)
  refine gd_true rfl d6 ?_
  exact OpW.load d12 (ld3 (H.cell m1)) rfl
set_option maxRecDepth 10000 in
theorem okLt17_14 {p1 p2 : Nat} {n_ e f x1 y1 x2 y2 : Int} {a : Act} {w : World} (t9 : a.eval (.tmp 9) = .int .i64 n_) (t15 : a.eval (.tmp 15) = .pointer (some ⟨p1, 0, none⟩)) (t16 : a.eval (.tmp 16) = .int .i64 e) (t17 : a.eval (.tmp 17) = .pointer (some ⟨p2, 0, none⟩)) (t18 : a.eval (.tmp 18) = .int .i64 f) (m0 : w.cell? ⟨p1, 0, none⟩ = some (.int .i64 x1)) (m1 : w.cell? ⟨p1, 1, none⟩ = some (.int .i64 y1)) (m2 : w.cell? ⟨p2, 0, none⟩ = some (.int .i64 x2)) (m3 : w.cell? ⟨p2, 1, none⟩ = some (.int .i64 y2)) (he : e = 0) (hf : f = 0) (hx : -1000 ≤ x1 + n_ ∧ x1 + n_ ≤ 1000) (hy : -1000 ≤ y1 + n_ ∧ y1 + n_ ≤ 1000) (h1 : x2 = x1 + n_) (h2 : y2 = y1 + n_) : OpOk Try.prog opsLt17 (wordsLt17 p1 p2 n_ e f x1 y1 x2 y2) 171 a w 14 := by
  refine OpOk.gen rfl (fun a1 w1 H => ?_)
  have d6 : a1.eval (.tmp 112) = .bool true := H.dep 6 112 rfl (by kernel_rfl)
  have e9 : a1.eval (.tmp 9) = .int .i64 n_ := (H.out 9 (by kernel_rfl)).trans t9
  refine gd_true rfl d6 ?_
  exact OpW.move e9 rfl
set_option maxRecDepth 10000 in
theorem okLt17_15 {p1 p2 : Nat} {n_ e f x1 y1 x2 y2 : Int} {a : Act} {w : World} (t9 : a.eval (.tmp 9) = .int .i64 n_) (t15 : a.eval (.tmp 15) = .pointer (some ⟨p1, 0, none⟩)) (t16 : a.eval (.tmp 16) = .int .i64 e) (t17 : a.eval (.tmp 17) = .pointer (some ⟨p2, 0, none⟩)) (t18 : a.eval (.tmp 18) = .int .i64 f) (m0 : w.cell? ⟨p1, 0, none⟩ = some (.int .i64 x1)) (m1 : w.cell? ⟨p1, 1, none⟩ = some (.int .i64 y1)) (m2 : w.cell? ⟨p2, 0, none⟩ = some (.int .i64 x2)) (m3 : w.cell? ⟨p2, 1, none⟩ = some (.int .i64 y2)) (he : e = 0) (hf : f = 0) (hx : -1000 ≤ x1 + n_ ∧ x1 + n_ ≤ 1000) (hy : -1000 ≤ y1 + n_ ∧ y1 + n_ ≤ 1000) (h1 : x2 = x1 + n_) (h2 : y2 = y1 + n_) : OpOk Try.prog opsLt17 (wordsLt17 p1 p2 n_ e f x1 y1 x2 y2) 171 a w 15 := by
  refine OpOk.gen rfl (fun a1 w1 H => ?_)
  have d6 : a1.eval (.tmp 112) = .bool true := H.dep 6 112 rfl (by kernel_rfl)
  have d13 : a1.eval (.tmp 119) = .int .i64 y1 := H.dep 13 119 rfl (by kernel_rfl)
  have d14 : a1.eval (.tmp 120) = .int .i64 n_ := H.dep 14 120 rfl (by kernel_rfl)
  refine gd_true rfl d6 ?_
  exact OpW.bin d13 d14 (add3 (by omega) (by omega) _) rfl
set_option maxRecDepth 10000 in
theorem okLt17_16 {p1 p2 : Nat} {n_ e f x1 y1 x2 y2 : Int} {a : Act} {w : World} (t9 : a.eval (.tmp 9) = .int .i64 n_) (t15 : a.eval (.tmp 15) = .pointer (some ⟨p1, 0, none⟩)) (t16 : a.eval (.tmp 16) = .int .i64 e) (t17 : a.eval (.tmp 17) = .pointer (some ⟨p2, 0, none⟩)) (t18 : a.eval (.tmp 18) = .int .i64 f) (m0 : w.cell? ⟨p1, 0, none⟩ = some (.int .i64 x1)) (m1 : w.cell? ⟨p1, 1, none⟩ = some (.int .i64 y1)) (m2 : w.cell? ⟨p2, 0, none⟩ = some (.int .i64 x2)) (m3 : w.cell? ⟨p2, 1, none⟩ = some (.int .i64 y2)) (he : e = 0) (hf : f = 0) (hx : -1000 ≤ x1 + n_ ∧ x1 + n_ ≤ 1000) (hy : -1000 ≤ y1 + n_ ∧ y1 + n_ ≤ 1000) (h1 : x2 = x1 + n_) (h2 : y2 = y1 + n_) : OpOk Try.prog opsLt17 (wordsLt17 p1 p2 n_ e f x1 y1 x2 y2) 171 a w 16 := by
  refine OpOk.gen rfl (fun a1 w1 H => ?_)
  have d6 : a1.eval (.tmp 112) = .bool true := H.dep 6 112 rfl (by kernel_rfl)
  have d11 : a1.eval (.tmp 117) = .int .i64 (x1 + n_) := H.dep 11 117 rfl (by kernel_rfl)
  have d15 : a1.eval (.tmp 121) = .int .i64 (y1 + n_) := H.dep 15 121 rfl (by kernel_rfl)
  refine gd_true rfl d6 ?_
  exact OpW.call (vs := #[.int .i64 (x1 + n_), .int .i64 (y1 + n_)]) (enters_of Try.func36 (by kernel_rfl) rfl) (by simp [d11, d15]) (between_u (x1 + n_) (y1 + n_) w1)
set_option maxRecDepth 10000 in
theorem okLt17_17 {p1 p2 : Nat} {n_ e f x1 y1 x2 y2 : Int} {a : Act} {w : World} (t9 : a.eval (.tmp 9) = .int .i64 n_) (t15 : a.eval (.tmp 15) = .pointer (some ⟨p1, 0, none⟩)) (t16 : a.eval (.tmp 16) = .int .i64 e) (t17 : a.eval (.tmp 17) = .pointer (some ⟨p2, 0, none⟩)) (t18 : a.eval (.tmp 18) = .int .i64 f) (m0 : w.cell? ⟨p1, 0, none⟩ = some (.int .i64 x1)) (m1 : w.cell? ⟨p1, 1, none⟩ = some (.int .i64 y1)) (m2 : w.cell? ⟨p2, 0, none⟩ = some (.int .i64 x2)) (m3 : w.cell? ⟨p2, 1, none⟩ = some (.int .i64 y2)) (he : e = 0) (hf : f = 0) (hx : -1000 ≤ x1 + n_ ∧ x1 + n_ ≤ 1000) (hy : -1000 ≤ y1 + n_ ∧ y1 + n_ ≤ 1000) (h1 : x2 = x1 + n_) (h2 : y2 = y1 + n_) : OpOk Try.prog opsLt17 (wordsLt17 p1 p2 n_ e f x1 y1 x2 y2) 171 a w 17 := by
  refine OpOk.gen rfl (fun a1 w1 H => ?_)
  have d6 : a1.eval (.tmp 112) = .bool true := H.dep 6 112 rfl (by kernel_rfl)
  have d7 : a1.eval (.tmp 113) = .agg #[.int .i64 x2, .int .i64 y2] := H.dep 7 113 rfl (by kernel_rfl)
  have d16 : a1.eval (.tmp 122) = .agg #[.int .i64 (x1 + n_), .int .i64 (y1 + n_)] := H.dep 16 122 rfl (by kernel_rfl)
  refine gd_true rfl d6 ?_
  exact OpW.bin d7 d16 (neq46S h1 h2 _) rfl
set_option maxRecDepth 10000 in
theorem okLt17_18 {p1 p2 : Nat} {n_ e f x1 y1 x2 y2 : Int} {a : Act} {w : World} (t9 : a.eval (.tmp 9) = .int .i64 n_) (t15 : a.eval (.tmp 15) = .pointer (some ⟨p1, 0, none⟩)) (t16 : a.eval (.tmp 16) = .int .i64 e) (t17 : a.eval (.tmp 17) = .pointer (some ⟨p2, 0, none⟩)) (t18 : a.eval (.tmp 18) = .int .i64 f) (m0 : w.cell? ⟨p1, 0, none⟩ = some (.int .i64 x1)) (m1 : w.cell? ⟨p1, 1, none⟩ = some (.int .i64 y1)) (m2 : w.cell? ⟨p2, 0, none⟩ = some (.int .i64 x2)) (m3 : w.cell? ⟨p2, 1, none⟩ = some (.int .i64 y2)) (he : e = 0) (hf : f = 0) (hx : -1000 ≤ x1 + n_ ∧ x1 + n_ ≤ 1000) (hy : -1000 ≤ y1 + n_ ∧ y1 + n_ ≤ 1000) (h1 : x2 = x1 + n_) (h2 : y2 = y1 + n_) : OpOk Try.prog opsLt17 (wordsLt17 p1 p2 n_ e f x1 y1 x2 y2) 171 a w 18 := by
  refine OpOk.gen rfl (fun a1 w1 H => ?_)
  have d3 : a1.eval (.tmp 109) = .bool false := H.dep 3 109 rfl (by kernel_rfl)
  have d6 : a1.eval (.tmp 112) = .bool true := H.dep 6 112 rfl (by kernel_rfl)
  have d17 : a1.eval (.tmp 123) = .bool false := H.dep 17 123 rfl (by kernel_rfl)
  refine gd_true rfl d3 ?_
  exact OpW.pick (b := true) d6 d17
set_option maxRecDepth 10000 in
theorem okLt17_19 {p1 p2 : Nat} {n_ e f x1 y1 x2 y2 : Int} {a : Act} {w : World} (t9 : a.eval (.tmp 9) = .int .i64 n_) (t15 : a.eval (.tmp 15) = .pointer (some ⟨p1, 0, none⟩)) (t16 : a.eval (.tmp 16) = .int .i64 e) (t17 : a.eval (.tmp 17) = .pointer (some ⟨p2, 0, none⟩)) (t18 : a.eval (.tmp 18) = .int .i64 f) (m0 : w.cell? ⟨p1, 0, none⟩ = some (.int .i64 x1)) (m1 : w.cell? ⟨p1, 1, none⟩ = some (.int .i64 y1)) (m2 : w.cell? ⟨p2, 0, none⟩ = some (.int .i64 x2)) (m3 : w.cell? ⟨p2, 1, none⟩ = some (.int .i64 y2)) (he : e = 0) (hf : f = 0) (hx : -1000 ≤ x1 + n_ ∧ x1 + n_ ≤ 1000) (hy : -1000 ≤ y1 + n_ ∧ y1 + n_ ≤ 1000) (h1 : x2 = x1 + n_) (h2 : y2 = y1 + n_) : OpOk Try.prog opsLt17 (wordsLt17 p1 p2 n_ e f x1 y1 x2 y2) 171 a w 19 := by
  refine OpOk.gen rfl (fun a1 w1 H => ?_)
  have d3 : a1.eval (.tmp 109) = .bool false := H.dep 3 109 rfl (by kernel_rfl)
  have d18 : a1.eval (.tmp 124) = .bool false := H.dep 18 124 rfl (by kernel_rfl)
  refine gd_none ?_
  exact OpW.pick (b := false) d3 d18
set_option maxRecDepth 10000 in
theorem okLt17_20 {p1 p2 : Nat} {n_ e f x1 y1 x2 y2 : Int} {a : Act} {w : World} (t9 : a.eval (.tmp 9) = .int .i64 n_) (t15 : a.eval (.tmp 15) = .pointer (some ⟨p1, 0, none⟩)) (t16 : a.eval (.tmp 16) = .int .i64 e) (t17 : a.eval (.tmp 17) = .pointer (some ⟨p2, 0, none⟩)) (t18 : a.eval (.tmp 18) = .int .i64 f) (m0 : w.cell? ⟨p1, 0, none⟩ = some (.int .i64 x1)) (m1 : w.cell? ⟨p1, 1, none⟩ = some (.int .i64 y1)) (m2 : w.cell? ⟨p2, 0, none⟩ = some (.int .i64 x2)) (m3 : w.cell? ⟨p2, 1, none⟩ = some (.int .i64 y2)) (he : e = 0) (hf : f = 0) (hx : -1000 ≤ x1 + n_ ∧ x1 + n_ ≤ 1000) (hy : -1000 ≤ y1 + n_ ∧ y1 + n_ ≤ 1000) (h1 : x2 = x1 + n_) (h2 : y2 = y1 + n_) : OpOk Try.prog opsLt17 (wordsLt17 p1 p2 n_ e f x1 y1 x2 y2) 171 a w 20 := by
  refine OpOk.gen rfl (fun a1 w1 H => ?_)
  have d19 : a1.eval (.tmp 125) = .bool false := H.dep 19 125 rfl (by kernel_rfl)
  refine gd_none ?_
  exact OpW.move d19 rfl
set_option maxRecDepth 10000 in
theorem okLt17_21 {p1 p2 : Nat} {n_ e f x1 y1 x2 y2 : Int} {a : Act} {w : World} (t9 : a.eval (.tmp 9) = .int .i64 n_) (t15 : a.eval (.tmp 15) = .pointer (some ⟨p1, 0, none⟩)) (t16 : a.eval (.tmp 16) = .int .i64 e) (t17 : a.eval (.tmp 17) = .pointer (some ⟨p2, 0, none⟩)) (t18 : a.eval (.tmp 18) = .int .i64 f) (m0 : w.cell? ⟨p1, 0, none⟩ = some (.int .i64 x1)) (m1 : w.cell? ⟨p1, 1, none⟩ = some (.int .i64 y1)) (m2 : w.cell? ⟨p2, 0, none⟩ = some (.int .i64 x2)) (m3 : w.cell? ⟨p2, 1, none⟩ = some (.int .i64 y2)) (he : e = 0) (hf : f = 0) (hx : -1000 ≤ x1 + n_ ∧ x1 + n_ ≤ 1000) (hy : -1000 ≤ y1 + n_ ∧ y1 + n_ ≤ 1000) (h1 : x2 = x1 + n_) (h2 : y2 = y1 + n_) : OpOk Try.prog opsLt17 (wordsLt17 p1 p2 n_ e f x1 y1 x2 y2) 171 a w 21 := by
  refine OpOk.gen rfl (fun a1 w1 H => ?_)
  have d20 : a1.eval (.tmp 126) = .bool false := H.dep 20 126 rfl (by kernel_rfl)
  have e16 : a1.eval (.tmp 16) = .int .i64 e := (H.out 16 (by kernel_rfl)).trans t16
  refine gd_true rfl d20 ?_
  exact OpW.move e16 rfl
set_option maxRecDepth 10000 in
theorem okLt17_22 {p1 p2 : Nat} {n_ e f x1 y1 x2 y2 : Int} {a : Act} {w : World} (t9 : a.eval (.tmp 9) = .int .i64 n_) (t15 : a.eval (.tmp 15) = .pointer (some ⟨p1, 0, none⟩)) (t16 : a.eval (.tmp 16) = .int .i64 e) (t17 : a.eval (.tmp 17) = .pointer (some ⟨p2, 0, none⟩)) (t18 : a.eval (.tmp 18) = .int .i64 f) (m0 : w.cell? ⟨p1, 0, none⟩ = some (.int .i64 x1)) (m1 : w.cell? ⟨p1, 1, none⟩ = some (.int .i64 y1)) (m2 : w.cell? ⟨p2, 0, none⟩ = some (.int .i64 x2)) (m3 : w.cell? ⟨p2, 1, none⟩ = some (.int .i64 y2)) (he : e = 0) (hf : f = 0) (hx : -1000 ≤ x1 + n_ ∧ x1 + n_ ≤ 1000) (hy : -1000 ≤ y1 + n_ ∧ y1 + n_ ≤ 1000) (h1 : x2 = x1 + n_) (h2 : y2 = y1 + n_) : OpOk Try.prog opsLt17 (wordsLt17 p1 p2 n_ e f x1 y1 x2 y2) 171 a w 22 := by
  refine OpOk.gen rfl (fun a1 w1 H => ?_)
  have d20 : a1.eval (.tmp 126) = .bool false := H.dep 20 126 rfl (by kernel_rfl)
  have d21 : a1.eval (.tmp 127) = .int .i64 e := H.dep 21 127 rfl (by kernel_rfl)
  refine gd_true rfl d20 ?_
  exact OpW.bin d21 rfl (nqF he _) rfl
set_option maxRecDepth 10000 in
theorem okLt17_23 {p1 p2 : Nat} {n_ e f x1 y1 x2 y2 : Int} {a : Act} {w : World} (t9 : a.eval (.tmp 9) = .int .i64 n_) (t15 : a.eval (.tmp 15) = .pointer (some ⟨p1, 0, none⟩)) (t16 : a.eval (.tmp 16) = .int .i64 e) (t17 : a.eval (.tmp 17) = .pointer (some ⟨p2, 0, none⟩)) (t18 : a.eval (.tmp 18) = .int .i64 f) (m0 : w.cell? ⟨p1, 0, none⟩ = some (.int .i64 x1)) (m1 : w.cell? ⟨p1, 1, none⟩ = some (.int .i64 y1)) (m2 : w.cell? ⟨p2, 0, none⟩ = some (.int .i64 x2)) (m3 : w.cell? ⟨p2, 1, none⟩ = some (.int .i64 y2)) (he : e = 0) (hf : f = 0) (hx : -1000 ≤ x1 + n_ ∧ x1 + n_ ≤ 1000) (hy : -1000 ≤ y1 + n_ ∧ y1 + n_ ≤ 1000) (h1 : x2 = x1 + n_) (h2 : y2 = y1 + n_) : OpOk Try.prog opsLt17 (wordsLt17 p1 p2 n_ e f x1 y1 x2 y2) 171 a w 23 := by
  refine OpOk.gen rfl (fun a1 w1 H => ?_)
  have d20 : a1.eval (.tmp 126) = .bool false := H.dep 20 126 rfl (by kernel_rfl)
  have d22 : a1.eval (.tmp 128) = .bool false := H.dep 22 128 rfl (by kernel_rfl)
  refine gd_true rfl d20 ?_
  exact OpW.move d22 rfl
set_option maxRecDepth 10000 in
theorem okLt17_24 {p1 p2 : Nat} {n_ e f x1 y1 x2 y2 : Int} {a : Act} {w : World} (t9 : a.eval (.tmp 9) = .int .i64 n_) (t15 : a.eval (.tmp 15) = .pointer (some ⟨p1, 0, none⟩)) (t16 : a.eval (.tmp 16) = .int .i64 e) (t17 : a.eval (.tmp 17) = .pointer (some ⟨p2, 0, none⟩)) (t18 : a.eval (.tmp 18) = .int .i64 f) (m0 : w.cell? ⟨p1, 0, none⟩ = some (.int .i64 x1)) (m1 : w.cell? ⟨p1, 1, none⟩ = some (.int .i64 y1)) (m2 : w.cell? ⟨p2, 0, none⟩ = some (.int .i64 x2)) (m3 : w.cell? ⟨p2, 1, none⟩ = some (.int .i64 y2)) (he : e = 0) (hf : f = 0) (hx : -1000 ≤ x1 + n_ ∧ x1 + n_ ≤ 1000) (hy : -1000 ≤ y1 + n_ ∧ y1 + n_ ≤ 1000) (h1 : x2 = x1 + n_) (h2 : y2 = y1 + n_) : OpOk Try.prog opsLt17 (wordsLt17 p1 p2 n_ e f x1 y1 x2 y2) 171 a w 24 := by
  refine OpOk.gen rfl (fun a1 w1 H => ?_)
  have d23 : a1.eval (.tmp 129) = .bool false := H.dep 23 129 rfl (by kernel_rfl)
  refine gd_false rfl d23 (by decide) ?_
  trivial
set_option maxRecDepth 10000 in
theorem okLt17_25 {p1 p2 : Nat} {n_ e f x1 y1 x2 y2 : Int} {a : Act} {w : World} (t9 : a.eval (.tmp 9) = .int .i64 n_) (t15 : a.eval (.tmp 15) = .pointer (some ⟨p1, 0, none⟩)) (t16 : a.eval (.tmp 16) = .int .i64 e) (t17 : a.eval (.tmp 17) = .pointer (some ⟨p2, 0, none⟩)) (t18 : a.eval (.tmp 18) = .int .i64 f) (m0 : w.cell? ⟨p1, 0, none⟩ = some (.int .i64 x1)) (m1 : w.cell? ⟨p1, 1, none⟩ = some (.int .i64 y1)) (m2 : w.cell? ⟨p2, 0, none⟩ = some (.int .i64 x2)) (m3 : w.cell? ⟨p2, 1, none⟩ = some (.int .i64 y2)) (he : e = 0) (hf : f = 0) (hx : -1000 ≤ x1 + n_ ∧ x1 + n_ ≤ 1000) (hy : -1000 ≤ y1 + n_ ∧ y1 + n_ ≤ 1000) (h1 : x2 = x1 + n_) (h2 : y2 = y1 + n_) : OpOk Try.prog opsLt17 (wordsLt17 p1 p2 n_ e f x1 y1 x2 y2) 171 a w 25 := by
  refine OpOk.gen rfl (fun a1 w1 H => ?_)
  have d23 : a1.eval (.tmp 129) = .bool false := H.dep 23 129 rfl (by kernel_rfl)
  refine gd_false rfl d23 (by decide) ?_
  trivial
set_option maxRecDepth 10000 in
theorem okLt17_26 {p1 p2 : Nat} {n_ e f x1 y1 x2 y2 : Int} {a : Act} {w : World} (t9 : a.eval (.tmp 9) = .int .i64 n_) (t15 : a.eval (.tmp 15) = .pointer (some ⟨p1, 0, none⟩)) (t16 : a.eval (.tmp 16) = .int .i64 e) (t17 : a.eval (.tmp 17) = .pointer (some ⟨p2, 0, none⟩)) (t18 : a.eval (.tmp 18) = .int .i64 f) (m0 : w.cell? ⟨p1, 0, none⟩ = some (.int .i64 x1)) (m1 : w.cell? ⟨p1, 1, none⟩ = some (.int .i64 y1)) (m2 : w.cell? ⟨p2, 0, none⟩ = some (.int .i64 x2)) (m3 : w.cell? ⟨p2, 1, none⟩ = some (.int .i64 y2)) (he : e = 0) (hf : f = 0) (hx : -1000 ≤ x1 + n_ ∧ x1 + n_ ≤ 1000) (hy : -1000 ≤ y1 + n_ ∧ y1 + n_ ≤ 1000) (h1 : x2 = x1 + n_) (h2 : y2 = y1 + n_) : OpOk Try.prog opsLt17 (wordsLt17 p1 p2 n_ e f x1 y1 x2 y2) 171 a w 26 := by
  refine OpOk.gen rfl (fun a1 w1 H => ?_)
  have d20 : a1.eval (.tmp 126) = .bool false := H.dep 20 126 rfl (by kernel_rfl)
  have d23 : a1.eval (.tmp 129) = .bool false := H.dep 23 129 rfl (by kernel_rfl)
  refine gd_true rfl d20 ?_
  exact OpW.pick (b := false) d23 rfl
set_option maxRecDepth 10000 in
theorem okLt17_27 {p1 p2 : Nat} {n_ e f x1 y1 x2 y2 : Int} {a : Act} {w : World} (t9 : a.eval (.tmp 9) = .int .i64 n_) (t15 : a.eval (.tmp 15) = .pointer (some ⟨p1, 0, none⟩)) (t16 : a.eval (.tmp 16) = .int .i64 e) (t17 : a.eval (.tmp 17) = .pointer (some ⟨p2, 0, none⟩)) (t18 : a.eval (.tmp 18) = .int .i64 f) (m0 : w.cell? ⟨p1, 0, none⟩ = some (.int .i64 x1)) (m1 : w.cell? ⟨p1, 1, none⟩ = some (.int .i64 y1)) (m2 : w.cell? ⟨p2, 0, none⟩ = some (.int .i64 x2)) (m3 : w.cell? ⟨p2, 1, none⟩ = some (.int .i64 y2)) (he : e = 0) (hf : f = 0) (hx : -1000 ≤ x1 + n_ ∧ x1 + n_ ≤ 1000) (hy : -1000 ≤ y1 + n_ ∧ y1 + n_ ≤ 1000) (h1 : x2 = x1 + n_) (h2 : y2 = y1 + n_) : OpOk Try.prog opsLt17 (wordsLt17 p1 p2 n_ e f x1 y1 x2 y2) 171 a w 27 := by
  refine OpOk.gen rfl (fun a1 w1 H => ?_)
  have d20 : a1.eval (.tmp 126) = .bool false := H.dep 20 126 rfl (by kernel_rfl)
  have d26 : a1.eval (.tmp 132) = .bool false := H.dep 26 132 rfl (by kernel_rfl)
  refine gd_none ?_
  exact OpW.pick (b := false) d20 d26
set_option maxRecDepth 10000 in
theorem regionLt17 {F : Fence} {n : Nat} (hF : WideF F Try.prog) {Q : Exit → Act → World → Prop} {p1 p2 : Nat} {n_ e f x1 y1 x2 y2 : Int} {a : Act} {w : World} (hsz : a.tmps.size = 171)
    (t9 : a.eval (.tmp 9) = .int .i64 n_) (t15 : a.eval (.tmp 15) = .pointer (some ⟨p1, 0, none⟩)) (t16 : a.eval (.tmp 16) = .int .i64 e) (t17 : a.eval (.tmp 17) = .pointer (some ⟨p2, 0, none⟩)) (t18 : a.eval (.tmp 18) = .int .i64 f) (m0 : w.cell? ⟨p1, 0, none⟩ = some (.int .i64 x1)) (m1 : w.cell? ⟨p1, 1, none⟩ = some (.int .i64 y1)) (m2 : w.cell? ⟨p2, 0, none⟩ = some (.int .i64 x2)) (m3 : w.cell? ⟨p2, 1, none⟩ = some (.int .i64 y2)) (he : e = 0) (hf : f = 0) (hx : -1000 ≤ x1 + n_ ∧ x1 + n_ ≤ 1000) (hy : -1000 ≤ y1 + n_ ∧ y1 + n_ ≤ 1000) (h1 : x2 = x1 + n_) (h2 : y2 = y1 + n_)
    (hK : ∀ (a' : Act) (w' : World), a'.tmps.size = 171 → a'.defers = a.defers → Below w.heap.size w w' → (∀ e, ndstB opsLt17 e = true → a'.eval (.tmp e) = a.eval (.tmp e)) → (∀ (j d : Nat), (opsLt17[j]?).bind (·.dst) = some d → (wordsLt17 p1 p2 n_ e f x1 y1 x2 y2).at_ j (a'.eval (.tmp d)) w') → Q .normal a' w') :
    (Code.region 17 opsLt17 true).wpIn F n Try.prog Q a w := by
  refine region_S (wordsLt17 p1 p2 n_ e f x1 y1 x2 y2) 171 hF (by kernel_rfl) Try.mixed (by kernel_rfl) (by kernel_rfl) ?_ hsz 28 (by kernel_rfl) ?_ hK
  · exact ⟨(fun _ _ _ h _ => h), (fun _ _ _ h _ => h), (fun _ _ _ h _ => h), (fun _ _ _ h _ => h), (fun _ _ _ h _ => h), (fun _ _ _ h _ => h), (fun _ _ _ h _ => h), (fun _ _ _ h _ => h), (fun _ _ _ h _ => h), (fun _ _ _ h _ => h), (fun _ _ _ h _ => h), (fun _ _ _ h _ => h), (fun _ _ _ h _ => h), (fun _ _ _ h _ => h), (fun _ _ _ h _ => h), (fun _ _ _ h _ => h), (fun _ _ _ h _ => h), (fun _ _ _ h _ => h), (fun _ _ _ h _ => h), (fun _ _ _ h _ => h), (fun _ _ _ h _ => h), (fun _ _ _ h _ => h), (fun _ _ _ h _ => h), (fun _ _ _ h _ => h), (fun _ _ _ _ _ => trivial), (fun _ _ _ _ _ => trivial), (fun _ _ _ h _ => h), (fun _ _ _ h _ => h), trivial⟩
  · exact ⟨⟨⟨⟨⟨⟨⟨⟨⟨⟨⟨⟨⟨⟨⟨⟨⟨⟨⟨⟨⟨⟨⟨⟨⟨⟨⟨⟨trivial, okLt17_0 t9 t15 t16 t17 t18 m0 m1 m2 m3 he hf hx hy h1 h2⟩, okLt17_1 t9 t15 t16 t17 t18 m0 m1 m2 m3 he hf hx hy h1 h2⟩, okLt17_2 t9 t15 t16 t17 t18 m0 m1 m2 m3 he hf hx hy h1 h2⟩, okLt17_3 t9 t15 t16 t17 t18 m0 m1 m2 m3 he hf hx hy h1 h2⟩, okLt17_4 t9 t15 t16 t17 t18 m0 m1 m2 m3 he hf hx hy h1 h2⟩, okLt17_5 t9 t15 t16 t17 t18 m0 m1 m2 m3 he hf hx hy h1 h2⟩, okLt17_6 t9 t15 t16 t17 t18 m0 m1 m2 m3 he hf hx hy h1 h2⟩, okLt17_7 t9 t15 t16 t17 t18 m0 m1 m2 m3 he hf hx hy h1 h2⟩, okLt17_8 t9 t15 t16 t17 t18 m0 m1 m2 m3 he hf hx hy h1 h2⟩, okLt17_9 t9 t15 t16 t17 t18 m0 m1 m2 m3 he hf hx hy h1 h2⟩, okLt17_10 t9 t15 t16 t17 t18 m0 m1 m2 m3 he hf hx hy h1 h2⟩, okLt17_11 t9 t15 t16 t17 t18 m0 m1 m2 m3 he hf hx hy h1 h2⟩, okLt17_12 t9 t15 t16 t17 t18 m0 m1 m2 m3 he hf hx hy h1 h2⟩, okLt17_13 t9 t15 t16 t17 t18 m0 m1 m2 m3 he hf hx hy h1 h2⟩, okLt17_14 t9 t15 t16 t17 t18 m0 m1 m2 m3 he hf hx hy h1 h2⟩, okLt17_15 t9 t15 t16 t17 t18 m0 m1 m2 m3 he hf hx hy h1 h2⟩, okLt17_16 t9 t15 t16 t17 t18 m0 m1 m2 m3 he hf hx hy h1 h2⟩, okLt17_17 t9 t15 t16 t17 t18 m0 m1 m2 m3 he hf hx hy h1 h2⟩, okLt17_18 t9 t15 t16 t17 t18 m0 m1 m2 m3 he hf hx hy h1 h2⟩, okLt17_19 t9 t15 t16 t17 t18 m0 m1 m2 m3 he hf hx hy h1 h2⟩, okLt17_20 t9 t15 t16 t17 t18 m0 m1 m2 m3 he hf hx hy h1 h2⟩, okLt17_21 t9 t15 t16 t17 t18 m0 m1 m2 m3 he hf hx hy h1 h2⟩, okLt17_22 t9 t15 t16 t17 t18 m0 m1 m2 m3 he hf hx hy h1 h2⟩, okLt17_23 t9 t15 t16 t17 t18 m0 m1 m2 m3 he hf hx hy h1 h2⟩, okLt17_24 t9 t15 t16 t17 t18 m0 m1 m2 m3 he hf hx hy h1 h2⟩, okLt17_25 t9 t15 t16 t17 t18 m0 m1 m2 m3 he hf hx hy h1 h2⟩, okLt17_26 t9 t15 t16 t17 t18 m0 m1 m2 m3 he hf hx hy h1 h2⟩, okLt17_27 t9 t15 t16 t17 t18 m0 m1 m2 m3 he hf hx hy h1 h2⟩
noncomputable def opsLt17n : Array Oper := (Try.f15.body.bind (regionOf 17)).getD #[]
def wordsLt17n (p1 p2 : Nat) (n_ e f : Int) : Words := [fun v _ => v = .int .i64 e, fun v _ => v = .int .i64 f, fun v _ => v = .bool false, fun v _ => v = .bool false, fun v _ => v = .int .i64 e, fun v _ => v = .bool false, fun v _ => v = .bool false, fun _ _ => True, fun _ _ => True, fun _ _ => True, fun _ _ => True, fun _ _ => True, fun _ _ => True, fun _ _ => True, fun _ _ => True, fun _ _ => True, fun _ _ => True, fun _ _ => True, fun v _ => v = .bool false, fun v _ => v = .bool false, fun v _ => v = .bool false, fun v _ => v = .int .i64 e, fun v _ => v = .bool true, fun v _ => v = .bool true, fun v _ => v = .int .i64 e, fun v _ => v = .bool false, fun v _ => v = .bool false, fun v _ => v = .bool false]
set_option maxRecDepth 10000 in
theorem okLt17n_0 {p1 p2 : Nat} {n_ e f : Int} {a : Act} {w : World} (t9 : a.eval (.tmp 9) = .int .i64 n_) (t15 : a.eval (.tmp 15) = .pointer (some ⟨p1, 0, none⟩)) (t16 : a.eval (.tmp 16) = .int .i64 e) (t17 : a.eval (.tmp 17) = .pointer (some ⟨p2, 0, none⟩)) (t18 : a.eval (.tmp 18) = .int .i64 f) (he : e = 9) (hf : f = 9) : OpOk Try.prog opsLt17n (wordsLt17n p1 p2 n_ e f) 171 a w 0 := by
  refine OpOk.gen rfl (fun a1 w1 H => ?_)
  have e16 : a1.eval (.tmp 16) = .int .i64 e := (H.out 16 (by kernel_rfl)).trans t16
  refine gd_none ?_
  exact OpW.move e16 rfl
set_option maxRecDepth 10000 in
theorem okLt17n_1 {p1 p2 : Nat} {n_ e f : Int} {a : Act} {w : World} (t9 : a.eval (.tmp 9) = .int .i64 n_) (t15 : a.eval (.tmp 15) = .pointer (some ⟨p1, 0, none⟩)) (t16 : a.eval (.tmp 16) = .int .i64 e) (t17 : a.eval (.tmp 17) = .pointer (some ⟨p2, 0, none⟩)) (t18 : a.eval (.tmp 18) = .int .i64 f) (he : e = 9) (hf : f = 9) : OpOk Try.prog opsLt17n (wordsLt17n p1 p2 n_ e f) 171 a w 1 := by
  refine OpOk.gen rfl (fun a1 w1 H => ?_)
  have e18 : a1.eval (.tmp 18) = .int .i64 f := (H.out 18 (by kernel_rfl)).trans t18
  refine gd_none ?_
  exact OpW.move e18 rfl
set_option maxRecDepth 10000 in
theorem okLt17n_2 {p1 p2 : Nat} {n_ e f : Int} {a : Act} {w : World} (t9 : a.eval (.tmp 9) = .int .i64 n_) (t15 : a.eval (.tmp 15) = .pointer (some ⟨p1, 0, none⟩)) (t16 : a.eval (.tmp 16) = .int .i64 e) (t17 : a.eval (.tmp 17) = .pointer (some ⟨p2, 0, none⟩)) (t18 : a.eval (.tmp 18) = .int .i64 f) (he : e = 9) (hf : f = 9) : OpOk Try.prog opsLt17n (wordsLt17n p1 p2 n_ e f) 171 a w 2 := by
  refine OpOk.gen rfl (fun a1 w1 H => ?_)
  have d0 : a1.eval (.tmp 106) = .int .i64 e := H.dep 0 106 rfl (by kernel_rfl)
  have d1 : a1.eval (.tmp 107) = .int .i64 f := H.dep 1 107 rfl (by kernel_rfl)
  refine gd_none ?_
  exact OpW.bin d0 d1 (nqF (he.trans hf.symm) _) rfl
set_option maxRecDepth 10000 in
theorem okLt17n_3 {p1 p2 : Nat} {n_ e f : Int} {a : Act} {w : World} (t9 : a.eval (.tmp 9) = .int .i64 n_) (t15 : a.eval (.tmp 15) = .pointer (some ⟨p1, 0, none⟩)) (t16 : a.eval (.tmp 16) = .int .i64 e) (t17 : a.eval (.tmp 17) = .pointer (some ⟨p2, 0, none⟩)) (t18 : a.eval (.tmp 18) = .int .i64 f) (he : e = 9) (hf : f = 9) : OpOk Try.prog opsLt17n (wordsLt17n p1 p2 n_ e f) 171 a w 3 := by
  refine OpOk.gen rfl (fun a1 w1 H => ?_)
  have d2 : a1.eval (.tmp 108) = .bool false := H.dep 2 108 rfl (by kernel_rfl)
  refine gd_none ?_
  exact OpW.move d2 rfl
set_option maxRecDepth 10000 in
theorem okLt17n_4 {p1 p2 : Nat} {n_ e f : Int} {a : Act} {w : World} (t9 : a.eval (.tmp 9) = .int .i64 n_) (t15 : a.eval (.tmp 15) = .pointer (some ⟨p1, 0, none⟩)) (t16 : a.eval (.tmp 16) = .int .i64 e) (t17 : a.eval (.tmp 17) = .pointer (some ⟨p2, 0, none⟩)) (t18 : a.eval (.tmp 18) = .int .i64 f) (he : e = 9) (hf : f = 9) : OpOk Try.prog opsLt17n (wordsLt17n p1 p2 n_ e f) 171 a w 4 := by
  refine OpOk.gen rfl (fun a1 w1 H => ?_)
  have d3 : a1.eval (.tmp 109) = .bool false := H.dep 3 109 rfl (by kernel_rfl)
  have e16 : a1.eval (.tmp 16) = .int .i64 e := (H.out 16 (by kernel_rfl)).trans t16
  refine gd_true rfl d3 ?_
  exact OpW.move e16 rfl
set_option maxRecDepth 10000 in
theorem okLt17n_5 {p1 p2 : Nat} {n_ e f : Int} {a : Act} {w : World} (t9 : a.eval (.tmp 9) = .int .i64 n_) (t15 : a.eval (.tmp 15) = .pointer (some ⟨p1, 0, none⟩)) (t16 : a.eval (.tmp 16) = .int .i64 e) (t17 : a.eval (.tmp 17) = .pointer (some ⟨p2, 0, none⟩)) (t18 : a.eval (.tmp 18) = .int .i64 f) (he : e = 9) (hf : f = 9) : OpOk Try.prog opsLt17n (wordsLt17n p1 p2 n_ e f) 171 a w 5 := by
  refine OpOk.gen rfl (fun a1 w1 H => ?_)
  have d3 : a1.eval (.tmp 109) = .bool false := H.dep 3 109 rfl (by kernel_rfl)
  have d4 : a1.eval (.tmp 110) = .int .i64 e := H.dep 4 110 rfl (by kernel_rfl)
  refine gd_true rfl d3 ?_
  exact OpW.bin d4 rfl (eql27F (by omega) _) rfl
set_option maxRecDepth 10000 in
theorem okLt17n_6 {p1 p2 : Nat} {n_ e f : Int} {a : Act} {w : World} (t9 : a.eval (.tmp 9) = .int .i64 n_) (t15 : a.eval (.tmp 15) = .pointer (some ⟨p1, 0, none⟩)) (t16 : a.eval (.tmp 16) = .int .i64 e) (t17 : a.eval (.tmp 17) = .pointer (some ⟨p2, 0, none⟩)) (t18 : a.eval (.tmp 18) = .int .i64 f) (he : e = 9) (hf : f = 9) : OpOk Try.prog opsLt17n (wordsLt17n p1 p2 n_ e f) 171 a w 6 := by
  refine OpOk.gen rfl (fun a1 w1 H => ?_)
  have d3 : a1.eval (.tmp 109) = .bool false := H.dep 3 109 rfl (by kernel_rfl)
  have d5 : a1.eval (.tmp 111) = .bool false := H.dep 5 111 rfl (by kernel_rfl)
  refine gd_true rfl d3 ?_
  exact OpW.move d5 rfl
set_option maxRecDepth 10000 in
theorem okLt17n_7 {p1 p2 : Nat} {n_ e f : Int} {a : Act} {w : World} (t9 : a.eval (.tmp 9) = .int .i64 n_) (t15 : a.eval (.tmp 15) = .pointer (some ⟨p1, 0, none⟩)) (t16 : a.eval (.tmp 16) = .int .i64 e) (t17 : a.eval (.tmp 17) = .pointer (some ⟨p2, 0, none⟩)) (t18 : a.eval (.tmp 18) = .int .i64 f) (he : e = 9) (hf : f = 9) : OpOk Try.prog opsLt17n (wordsLt17n p1 p2 n_ e f) 171 a w 7 := by
  refine OpOk.gen rfl (fun a1 w1 H => ?_)
  have d6 : a1.eval (.tmp 112) = .bool false := H.dep 6 112 rfl (by kernel_rfl)
  refine gd_false rfl d6 (by decide) ?_
  trivial
set_option maxRecDepth 10000 in
theorem okLt17n_8 {p1 p2 : Nat} {n_ e f : Int} {a : Act} {w : World} (t9 : a.eval (.tmp 9) = .int .i64 n_) (t15 : a.eval (.tmp 15) = .pointer (some ⟨p1, 0, none⟩)) (t16 : a.eval (.tmp 16) = .int .i64 e) (t17 : a.eval (.tmp 17) = .pointer (some ⟨p2, 0, none⟩)) (t18 : a.eval (.tmp 18) = .int .i64 f) (he : e = 9) (hf : f = 9) : OpOk Try.prog opsLt17n (wordsLt17n p1 p2 n_ e f) 171 a w 8 := by
  refine OpOk.gen rfl (fun a1 w1 H => ?_)
  have d6 : a1.eval (.tmp 112) = .bool false := H.dep 6 112 rfl (by kernel_rfl)
  refine gd_false rfl d6 (by decide) ?_
  trivial
set_option maxRecDepth 10000 in
theorem okLt17n_9 {p1 p2 : Nat} {n_ e f : Int} {a : Act} {w : World} (t9 : a.eval (.tmp 9) = .int .i64 n_) (t15 : a.eval (.tmp 15) = .pointer (some ⟨p1, 0, none⟩)) (t16 : a.eval (.tmp 16) = .int .i64 e) (t17 : a.eval (.tmp 17) = .pointer (some ⟨p2, 0, none⟩)) (t18 : a.eval (.tmp 18) = .int .i64 f) (he : e = 9) (hf : f = 9) : OpOk Try.prog opsLt17n (wordsLt17n p1 p2 n_ e f) 171 a w 9 := by
  refine OpOk.gen rfl (fun a1 w1 H => ?_)
  have d6 : a1.eval (.tmp 112) = .bool false := H.dep 6 112 rfl (by kernel_rfl)
  refine gd_false rfl d6 (by decide) ?_
  trivial
set_option maxRecDepth 10000 in
theorem okLt17n_10 {p1 p2 : Nat} {n_ e f : Int} {a : Act} {w : World} (t9 : a.eval (.tmp 9) = .int .i64 n_) (t15 : a.eval (.tmp 15) = .pointer (some ⟨p1, 0, none⟩)) (t16 : a.eval (.tmp 16) = .int .i64 e) (t17 : a.eval (.tmp 17) = .pointer (some ⟨p2, 0, none⟩)) (t18 : a.eval (.tmp 18) = .int .i64 f) (he : e = 9) (hf : f = 9) : OpOk Try.prog opsLt17n (wordsLt17n p1 p2 n_ e f) 171 a w 10 := by
  refine OpOk.gen rfl (fun a1 w1 H => ?_)
  have d6 : a1.eval (.tmp 112) = .bool false := H.dep 6 112 rfl (by kernel_rfl)
  refine gd_false rfl d6 (by decide) ?_
  trivial
set_option maxRecDepth 10000 in
theorem okLt17n_11 {p1 p2 : Nat} {n_ e f : Int} {a : Act} {w : World} (t9 : a.eval (.tmp 9) = .int .i64 n_) (t15 : a.eval (.tmp 15) = .pointer (some ⟨p1, 0, none⟩)) (t16 : a.eval (.tmp 16) = .int .i64 e) (t17 : a.eval (.tmp 17) = .pointer (some ⟨p2, 0, none⟩)) (t18 : a.eval (.tmp 18) = .int .i64 f) (he : e = 9) (hf : f = 9) : OpOk Try.prog opsLt17n (wordsLt17n p1 p2 n_ e f) 171 a w 11 := by
  refine OpOk.gen rfl (fun a1 w1 H => ?_)
  have d6 : a1.eval (.tmp 112) = .bool false := H.dep 6 112 rfl (by kernel_rfl)
  refine gd_false rfl d6 (by decide) ?_
  trivial
set_option maxRecDepth 10000 in
theorem okLt17n_12 {p1 p2 : Nat} {n_ e f : Int} {a : Act} {w : World} (t9 : a.eval (.tmp 9) = .int .i64 n_) (t15 : a.eval (.tmp 15) = .pointer (some ⟨p1, 0, none⟩)) (t16 : a.eval (.tmp 16) = .int .i64 e) (t17 : a.eval (.tmp 17) = .pointer (some ⟨p2, 0, none⟩)) (t18 : a.eval (.tmp 18) = .int .i64 f) (he : e = 9) (hf : f = 9) : OpOk Try.prog opsLt17n (wordsLt17n p1 p2 n_ e f) 171 a w 12 := by
  refine OpOk.gen rfl (fun a1 w1 H => ?_)
  have d6 : a1.eval (.tmp 112) = .bool false := H.dep 6 112 rfl (by kernel_rfl)
  refine gd_false rfl d6 (by decide) ?_
  trivial
set_option maxRecDepth 10000 in
theorem okLt17n_13 {p1 p2 : Nat} {n_ e f : Int} {a : Act} {w : World} (t9 : a.eval (.tmp 9) = .int .i64 n_) (t15 : a.eval (.tmp 15) = .pointer (some ⟨p1, 0, none⟩)) (t16 : a.eval (.tmp 16) = .int .i64 e) (t17 : a.eval (.tmp 17) = .pointer (some ⟨p2, 0, none⟩)) (t18 : a.eval (.tmp 18) = .int .i64 f) (he : e = 9) (hf : f = 9) : OpOk Try.prog opsLt17n (wordsLt17n p1 p2 n_ e f) 171 a w 13 := by
  refine OpOk.gen rfl (fun a1 w1 H => ?_)
  have d6 : a1.eval (.tmp 112) = .bool false := H.dep 6 112 rfl (by kernel_rfl)
  refine gd_false rfl d6 (by decide) ?_
  trivial
set_option maxRecDepth 10000 in
theorem okLt17n_14 {p1 p2 : Nat} {n_ e f : Int} {a : Act} {w : World} (t9 : a.eval (.tmp 9) = .int .i64 n_) (t15 : a.eval (.tmp 15) = .pointer (some ⟨p1, 0, none⟩)) (t16 : a.eval (.tmp 16) = .int .i64 e) (t17 : a.eval (.tmp 17) = .pointer (some ⟨p2, 0, none⟩)) (t18 : a.eval (.tmp 18) = .int .i64 f) (he : e = 9) (hf : f = 9) : OpOk Try.prog opsLt17n (wordsLt17n p1 p2 n_ e f) 171 a w 14 := by
  refine OpOk.gen rfl (fun a1 w1 H => ?_)
  have d6 : a1.eval (.tmp 112) = .bool false := H.dep 6 112 rfl (by kernel_rfl)
  refine gd_false rfl d6 (by decide) ?_
  trivial
set_option maxRecDepth 10000 in
theorem okLt17n_15 {p1 p2 : Nat} {n_ e f : Int} {a : Act} {w : World} (t9 : a.eval (.tmp 9) = .int .i64 n_) (t15 : a.eval (.tmp 15) = .pointer (some ⟨p1, 0, none⟩)) (t16 : a.eval (.tmp 16) = .int .i64 e) (t17 : a.eval (.tmp 17) = .pointer (some ⟨p2, 0, none⟩)) (t18 : a.eval (.tmp 18) = .int .i64 f) (he : e = 9) (hf : f = 9) : OpOk Try.prog opsLt17n (wordsLt17n p1 p2 n_ e f) 171 a w 15 := by
  refine OpOk.gen rfl (fun a1 w1 H => ?_)
  have d6 : a1.eval (.tmp 112) = .bool false := H.dep 6 112 rfl (by kernel_rfl)
  refine gd_false rfl d6 (by decide) ?_
  trivial
set_option maxRecDepth 10000 in
theorem okLt17n_16 {p1 p2 : Nat} {n_ e f : Int} {a : Act} {w : World} (t9 : a.eval (.tmp 9) = .int .i64 n_) (t15 : a.eval (.tmp 15) = .pointer (some ⟨p1, 0, none⟩)) (t16 : a.eval (.tmp 16) = .int .i64 e) (t17 : a.eval (.tmp 17) = .pointer (some ⟨p2, 0, none⟩)) (t18 : a.eval (.tmp 18) = .int .i64 f) (he : e = 9) (hf : f = 9) : OpOk Try.prog opsLt17n (wordsLt17n p1 p2 n_ e f) 171 a w 16 := by
  refine OpOk.gen rfl (fun a1 w1 H => ?_)
  have d6 : a1.eval (.tmp 112) = .bool false := H.dep 6 112 rfl (by kernel_rfl)
  refine gd_false rfl d6 (by decide) ?_
  trivial
set_option maxRecDepth 10000 in
theorem okLt17n_17 {p1 p2 : Nat} {n_ e f : Int} {a : Act} {w : World} (t9 : a.eval (.tmp 9) = .int .i64 n_) (t15 : a.eval (.tmp 15) = .pointer (some ⟨p1, 0, none⟩)) (t16 : a.eval (.tmp 16) = .int .i64 e) (t17 : a.eval (.tmp 17) = .pointer (some ⟨p2, 0, none⟩)) (t18 : a.eval (.tmp 18) = .int .i64 f) (he : e = 9) (hf : f = 9) : OpOk Try.prog opsLt17n (wordsLt17n p1 p2 n_ e f) 171 a w 17 := by
  refine OpOk.gen rfl (fun a1 w1 H => ?_)
  have d6 : a1.eval (.tmp 112) = .bool false := H.dep 6 112 rfl (by kernel_rfl)
  refine gd_false rfl d6 (by decide) ?_
  trivial
set_option maxRecDepth 10000 in
theorem okLt17n_18 {p1 p2 : Nat} {n_ e f : Int} {a : Act} {w : World} (t9 : a.eval (.tmp 9) = .int .i64 n_) (t15 : a.eval (.tmp 15) = .pointer (some ⟨p1, 0, none⟩)) (t16 : a.eval (.tmp 16) = .int .i64 e) (t17 : a.eval (.tmp 17) = .pointer (some ⟨p2, 0, none⟩)) (t18 : a.eval (.tmp 18) = .int .i64 f) (he : e = 9) (hf : f = 9) : OpOk Try.prog opsLt17n (wordsLt17n p1 p2 n_ e f) 171 a w 18 := by
  refine OpOk.gen rfl (fun a1 w1 H => ?_)
  have d3 : a1.eval (.tmp 109) = .bool false := H.dep 3 109 rfl (by kernel_rfl)
  have d6 : a1.eval (.tmp 112) = .bool false := H.dep 6 112 rfl (by kernel_rfl)
  refine gd_true rfl d3 ?_
  exact OpW.pick (b := false) d6 rfl
set_option maxRecDepth 10000 in
theorem okLt17n_19 {p1 p2 : Nat} {n_ e f : Int} {a : Act} {w : World} (t9 : a.eval (.tmp 9) = .int .i64 n_) (t15 : a.eval (.tmp 15) = .pointer (some ⟨p1, 0, none⟩)) (t16 : a.eval (.tmp 16) = .int .i64 e) (t17 : a.eval (.tmp 17) = .pointer (some ⟨p2, 0, none⟩)) (t18 : a.eval (.tmp 18) = .int .i64 f) (he : e = 9) (hf : f = 9) : OpOk Try.prog opsLt17n (wordsLt17n p1 p2 n_ e f) 171 a w 19 := by
  refine OpOk.gen rfl (fun a1 w1 H => ?_)
  have d3 : a1.eval (.tmp 109) = .bool false := H.dep 3 109 rfl (by kernel_rfl)
  have d18 : a1.eval (.tmp 124) = .bool false := H.dep 18 124 rfl (by kernel_rfl)
  refine gd_none ?_
  exact OpW.pick (b := false) d3 d18
set_option maxRecDepth 10000 in
theorem okLt17n_20 {p1 p2 : Nat} {n_ e f : Int} {a : Act} {w : World} (t9 : a.eval (.tmp 9) = .int .i64 n_) (t15 : a.eval (.tmp 15) = .pointer (some ⟨p1, 0, none⟩)) (t16 : a.eval (.tmp 16) = .int .i64 e) (t17 : a.eval (.tmp 17) = .pointer (some ⟨p2, 0, none⟩)) (t18 : a.eval (.tmp 18) = .int .i64 f) (he : e = 9) (hf : f = 9) : OpOk Try.prog opsLt17n (wordsLt17n p1 p2 n_ e f) 171 a w 20 := by
  refine OpOk.gen rfl (fun a1 w1 H => ?_)
  have d19 : a1.eval (.tmp 125) = .bool false := H.dep 19 125 rfl (by kernel_rfl)
  refine gd_none ?_
  exact OpW.move d19 rfl
set_option maxRecDepth 10000 in
theorem okLt17n_21 {p1 p2 : Nat} {n_ e f : Int} {a : Act} {w : World} (t9 : a.eval (.tmp 9) = .int .i64 n_) (t15 : a.eval (.tmp 15) = .pointer (some ⟨p1, 0, none⟩)) (t16 : a.eval (.tmp 16) = .int .i64 e) (t17 : a.eval (.tmp 17) = .pointer (some ⟨p2, 0, none⟩)) (t18 : a.eval (.tmp 18) = .int .i64 f) (he : e = 9) (hf : f = 9) : OpOk Try.prog opsLt17n (wordsLt17n p1 p2 n_ e f) 171 a w 21 := by
  refine OpOk.gen rfl (fun a1 w1 H => ?_)
  have d20 : a1.eval (.tmp 126) = .bool false := H.dep 20 126 rfl (by kernel_rfl)
  have e16 : a1.eval (.tmp 16) = .int .i64 e := (H.out 16 (by kernel_rfl)).trans t16
  refine gd_true rfl d20 ?_
  exact OpW.move e16 rfl
set_option maxRecDepth 10000 in
theorem okLt17n_22 {p1 p2 : Nat} {n_ e f : Int} {a : Act} {w : World} (t9 : a.eval (.tmp 9) = .int .i64 n_) (t15 : a.eval (.tmp 15) = .pointer (some ⟨p1, 0, none⟩)) (t16 : a.eval (.tmp 16) = .int .i64 e) (t17 : a.eval (.tmp 17) = .pointer (some ⟨p2, 0, none⟩)) (t18 : a.eval (.tmp 18) = .int .i64 f) (he : e = 9) (hf : f = 9) : OpOk Try.prog opsLt17n (wordsLt17n p1 p2 n_ e f) 171 a w 22 := by
  refine OpOk.gen rfl (fun a1 w1 H => ?_)
  have d20 : a1.eval (.tmp 126) = .bool false := H.dep 20 126 rfl (by kernel_rfl)
  have d21 : a1.eval (.tmp 127) = .int .i64 e := H.dep 21 127 rfl (by kernel_rfl)
  refine gd_true rfl d20 ?_
  exact OpW.bin d21 rfl (nqT (by omega) _) rfl
set_option maxRecDepth 10000 in
theorem okLt17n_23 {p1 p2 : Nat} {n_ e f : Int} {a : Act} {w : World} (t9 : a.eval (.tmp 9) = .int .i64 n_) (t15 : a.eval (.tmp 15) = .pointer (some ⟨p1, 0, none⟩)) (t16 : a.eval (.tmp 16) = .int .i64 e) (t17 : a.eval (.tmp 17) = .pointer (some ⟨p2, 0, none⟩)) (t18 : a.eval (.tmp 18) = .int .i64 f) (he : e = 9) (hf : f = 9) : OpOk Try.prog opsLt17n (wordsLt17n p1 p2 n_ e f) 171 a w 23 := by
  refine OpOk.gen rfl (fun a1 w1 H => ?_)
  have d20 : a1.eval (.tmp 126) = .bool false := H.dep 20 126 rfl (by kernel_rfl)
  have d22 : a1.eval (.tmp 128) = .bool true := H.dep 22 128 rfl (by kernel_rfl)
  refine gd_true rfl d20 ?_
  exact OpW.move d22 rfl
set_option maxRecDepth 10000 in
theorem okLt17n_24 {p1 p2 : Nat} {n_ e f : Int} {a : Act} {w : World} (t9 : a.eval (.tmp 9) = .int .i64 n_) (t15 : a.eval (.tmp 15) = .pointer (some ⟨p1, 0, none⟩)) (t16 : a.eval (.tmp 16) = .int .i64 e) (t17 : a.eval (.tmp 17) = .pointer (some ⟨p2, 0, none⟩)) (t18 : a.eval (.tmp 18) = .int .i64 f) (he : e = 9) (hf : f = 9) : OpOk Try.prog opsLt17n (wordsLt17n p1 p2 n_ e f) 171 a w 24 := by
  refine OpOk.gen rfl (fun a1 w1 H => ?_)
  have d23 : a1.eval (.tmp 129) = .bool true := H.dep 23 129 rfl (by kernel_rfl)
  have e16 : a1.eval (.tmp 16) = .int .i64 e := (H.out 16 (by kernel_rfl)).trans t16
  refine gd_true rfl d23 ?_
  exact OpW.move e16 rfl
set_option maxRecDepth 10000 in
theorem okLt17n_25 {p1 p2 : Nat} {n_ e f : Int} {a : Act} {w : World} (t9 : a.eval (.tmp 9) = .int .i64 n_) (t15 : a.eval (.tmp 15) = .pointer (some ⟨p1, 0, none⟩)) (t16 : a.eval (.tmp 16) = .int .i64 e) (t17 : a.eval (.tmp 17) = .pointer (some ⟨p2, 0, none⟩)) (t18 : a.eval (.tmp 18) = .int .i64 f) (he : e = 9) (hf : f = 9) : OpOk Try.prog opsLt17n (wordsLt17n p1 p2 n_ e f) 171 a w 25 := by
  refine OpOk.gen rfl (fun a1 w1 H => ?_)
  have d23 : a1.eval (.tmp 129) = .bool true := H.dep 23 129 rfl (by kernel_rfl)
  have d24 : a1.eval (.tmp 130) = .int .i64 e := H.dep 24 130 rfl (by kernel_rfl)
  refine gd_true rfl d23 ?_
  exact OpW.bin d24 rfl (nqF he _) rfl
set_option maxRecDepth 10000 in
theorem okLt17n_26 {p1 p2 : Nat} {n_ e f : Int} {a : Act} {w : World} (t9 : a.eval (.tmp 9) = .int .i64 n_) (t15 : a.eval (.tmp 15) = .pointer (some ⟨p1, 0, none⟩)) (t16 : a.eval (.tmp 16) = .int .i64 e) (t17 : a.eval (.tmp 17) = .pointer (some ⟨p2, 0, none⟩)) (t18 : a.eval (.tmp 18) = .int .i64 f) (he : e = 9) (hf : f = 9) : OpOk Try.prog opsLt17n (wordsLt17n p1 p2 n_ e f) 171 a w 26 := by
  refine OpOk.gen rfl (fun a1 w1 H => ?_)
  have d20 : a1.eval (.tmp 126) = .bool false := H.dep 20 126 rfl (by kernel_rfl)
  have d23 : a1.eval (.tmp 129) = .bool true := H.dep 23 129 rfl (by kernel_rfl)
  have d25 : a1.eval (.tmp 131) = .bool false := H.dep 25 131 rfl (by kernel_rfl)
  refine gd_true rfl d20 ?_
  exact OpW.pick (b := true) d23 d25
set_option maxRecDepth 10000 in
theorem okLt17n_27 {p1 p2 : Nat} {n_ e f : Int} {a : Act} {w : World} (t9 : a.eval (.tmp 9) = .int .i64 n_) (t15 : a.eval (.tmp 15) = .pointer (some ⟨p1, 0, none⟩)) (t16 : a.eval (.tmp 16) = .int .i64 e) (t17 : a.eval (.tmp 17) = .pointer (some ⟨p2, 0, none⟩)) (t18 : a.eval (.tmp 18) = .int .i64 f) (he : e = 9) (hf : f = 9) : OpOk Try.prog opsLt17n (wordsLt17n p1 p2 n_ e f) 171 a w 27 := by
  refine OpOk.gen rfl (fun a1 w1 H => ?_)
  have d20 : a1.eval (.tmp 126) = .bool false := H.dep 20 126 rfl (by kernel_rfl)
  have d26 : a1.eval (.tmp 132) = .bool false := H.dep 26 132 rfl (by kernel_rfl)
  refine gd_none ?_
  exact OpW.pick (b := false) d20 d26
set_option maxRecDepth 10000 in
theorem regionLt17n {F : Fence} {n : Nat} (hF : WideF F Try.prog) {Q : Exit → Act → World → Prop} {p1 p2 : Nat} {n_ e f : Int} {a : Act} {w : World} (hsz : a.tmps.size = 171)
    (t9 : a.eval (.tmp 9) = .int .i64 n_) (t15 : a.eval (.tmp 15) = .pointer (some ⟨p1, 0, none⟩)) (t16 : a.eval (.tmp 16) = .int .i64 e) (t17 : a.eval (.tmp 17) = .pointer (some ⟨p2, 0, none⟩)) (t18 : a.eval (.tmp 18) = .int .i64 f) (he : e = 9) (hf : f = 9)
    (hK : ∀ (a' : Act) (w' : World), a'.tmps.size = 171 → a'.defers = a.defers → Below w.heap.size w w' → (∀ e, ndstB opsLt17n e = true → a'.eval (.tmp e) = a.eval (.tmp e)) → (∀ (j d : Nat), (opsLt17n[j]?).bind (·.dst) = some d → (wordsLt17n p1 p2 n_ e f).at_ j (a'.eval (.tmp d)) w') → Q .normal a' w') :
    (Code.region 17 opsLt17n true).wpIn F n Try.prog Q a w := by
  refine region_S (wordsLt17n p1 p2 n_ e f) 171 hF (by kernel_rfl) Try.mixed (by kernel_rfl) (by kernel_rfl) ?_ hsz 28 (by kernel_rfl) ?_ hK
  · exact ⟨(fun _ _ _ h _ => h), (fun _ _ _ h _ => h), (fun _ _ _ h _ => h), (fun _ _ _ h _ => h), (fun _ _ _ h _ => h), (fun _ _ _ h _ => h), (fun _ _ _ h _ => h), (fun _ _ _ _ _ => trivial), (fun _ _ _ _ _ => trivial), (fun _ _ _ _ _ => trivial), (fun _ _ _ _ _ => trivial), (fun _ _ _ _ _ => trivial), (fun _ _ _ _ _ => trivial), (fun _ _ _ _ _ => trivial), (fun _ _ _ _ _ => trivial), (fun _ _ _ _ _ => trivial), (fun _ _ _ _ _ => trivial), (fun _ _ _ _ _ => trivial), (fun _ _ _ h _ => h), (fun _ _ _ h _ => h), (fun _ _ _ h _ => h), (fun _ _ _ h _ => h), (fun _ _ _ h _ => h), (fun _ _ _ h _ => h), (fun _ _ _ h _ => h), (fun _ _ _ h _ => h), (fun _ _ _ h _ => h), (fun _ _ _ h _ => h), trivial⟩
  · exact ⟨⟨⟨⟨⟨⟨⟨⟨⟨⟨⟨⟨⟨⟨⟨⟨⟨⟨⟨⟨⟨⟨⟨⟨⟨⟨⟨⟨trivial, okLt17n_0 t9 t15 t16 t17 t18 he hf⟩, okLt17n_1 t9 t15 t16 t17 t18 he hf⟩, okLt17n_2 t9 t15 t16 t17 t18 he hf⟩, okLt17n_3 t9 t15 t16 t17 t18 he hf⟩, okLt17n_4 t9 t15 t16 t17 t18 he hf⟩, okLt17n_5 t9 t15 t16 t17 t18 he hf⟩, okLt17n_6 t9 t15 t16 t17 t18 he hf⟩, okLt17n_7 t9 t15 t16 t17 t18 he hf⟩, okLt17n_8 t9 t15 t16 t17 t18 he hf⟩, okLt17n_9 t9 t15 t16 t17 t18 he hf⟩, okLt17n_10 t9 t15 t16 t17 t18 he hf⟩, okLt17n_11 t9 t15 t16 t17 t18 he hf⟩, okLt17n_12 t9 t15 t16 t17 t18 he hf⟩, okLt17n_13 t9 t15 t16 t17 t18 he hf⟩, okLt17n_14 t9 t15 t16 t17 t18 he hf⟩, okLt17n_15 t9 t15 t16 t17 t18 he hf⟩, okLt17n_16 t9 t15 t16 t17 t18 he hf⟩, okLt17n_17 t9 t15 t16 t17 t18 he hf⟩, okLt17n_18 t9 t15 t16 t17 t18 he hf⟩, okLt17n_19 t9 t15 t16 t17 t18 he hf⟩, okLt17n_20 t9 t15 t16 t17 t18 he hf⟩, okLt17n_21 t9 t15 t16 t17 t18 he hf⟩, okLt17n_22 t9 t15 t16 t17 t18 he hf⟩, okLt17n_23 t9 t15 t16 t17 t18 he hf⟩, okLt17n_24 t9 t15 t16 t17 t18 he hf⟩, okLt17n_25 t9 t15 t16 t17 t18 he hf⟩, okLt17n_26 t9 t15 t16 t17 t18 he hf⟩, okLt17n_27 t9 t15 t16 t17 t18 he hf⟩
section
attribute [local irreducible] AnyK StepK
noncomputable def opsLt9 : Array Oper := (Try.f15.body.bind (regionOf 9)).getD #[]
set_option maxRecDepth 10000 in
set_option maxHeartbeats 2000000 in
theorem regionLt9 {F : Fence} {n : Nat} (hF : WideF F Try.prog) {Q : Exit → Act → World → Prop} {a : Act} {w : World} {b4 px b gx nl c cx off k : Nat} {n_ lo hi : Int} (hsz : a.tmps.size = 171)
    (t4 : a.eval (.tmp 4) = .pointer (some ⟨b4, 0, none⟩)) (t9 : a.eval (.tmp 9) = .int .i64 n_) (t12 : a.eval (.tmp 12) = .pointer (some ⟨px, 0, none⟩)) (t13 : a.eval (.tmp 13) = .int .i64 k)
    (m0 : w.cell? ⟨b4, 2, none⟩ = some (.slice (some ⟨b, off, none⟩) nl c)) (m1 : w.cell? ⟨px, 2, none⟩ = some (.slice (some ⟨gx, 0, none⟩) nl cx)) (m2 : w.cell? ⟨b, off + k * 5 + 3, none⟩ = some (.int .i64 lo)) (m3 : w.cell? ⟨b, off + k * 5 + 3 + 1, none⟩ = some (.int .i64 hi)) {u0 u1 : Value} (hk : k < nl) (hlo : 0 ≤ lo ∧ lo ≤ 100) (hhi : 0 ≤ hi ∧ hi ≤ 100) (hn : 0 ≤ n_ ∧ n_ ≤ 59) (hgx : gx < w.heap.size) (hc0 : w.cell? ⟨gx, 0 + k * 5 + 3, none⟩ = some u0) (hc1 : w.cell? ⟨gx, 0 + k * 5 + 3 + 1, none⟩ = some u1) (hf0 : w.frozen? ⟨gx, 0 + k * 5 + 3, none⟩ = false) (hf1 : w.frozen? ⟨gx, 0 + k * 5 + 3 + 1, none⟩ = false)
    (hK : ∀ a' W', Below w.heap.size w W' → a'.tmps.size = 171 → a'.defers = a.defers → (∀ e : Nat, e < 51 → a'.eval (.tmp e) = a.eval (.tmp e)) → Q .normal a' (putDays W' gx (0 + k * 5 + 3) (lo + n_) (hi + n_))) :
    (Code.region 9 opsLt9 true).wpIn F n Try.prog Q a w := by
  have hR : (fun w : World => w.cell? ⟨b4, 2, none⟩ = some (.slice (some ⟨b, off, none⟩) nl c) ∧ w.cell? ⟨px, 2, none⟩ = some (.slice (some ⟨gx, 0, none⟩) nl cx) ∧ w.cell? ⟨b, off + k * 5 + 3, none⟩ = some (.int .i64 lo) ∧ w.cell? ⟨b, off + k * 5 + 3 + 1, none⟩ = some (.int .i64 hi)) w.drew := ⟨m0, m1, m2, m3⟩
  have hB : Below w.heap.size w w.drew := (Below.refl _ _).drew
  refine region_K (KpR (fun w => w.cell? ⟨b4, 2, none⟩ = some (.slice (some ⟨b, off, none⟩) nl c) ∧ w.cell? ⟨px, 2, none⟩ = some (.slice (some ⟨gx, 0, none⟩) nl cx) ∧ w.cell? ⟨b, off + k * 5 + 3, none⟩ = some (.int .i64 lo) ∧ w.cell? ⟨b, off + k * 5 + 3 + 1, none⟩ = some (.int .i64 hi)) (fun j => j == 24)) hF (by kernel_rfl) Try.mixed ?_
  change AnyK _ _ _ _ 25 (Array.replicate 25 false) _ _
  generalize w.drew = W at *
  refine AnyK.field (i := 0) may_o (u := .pointer (some ⟨px, 0, none⟩)) (v := .pointer (some ⟨px, 2, none⟩)) (by simp [t12]) (fun w => fa24_2 w) hR ?_
  refine AnyK.load (i := 1) may_o (p := ⟨px, 2, none⟩) (v := .slice (some ⟨gx, 0, none⟩) nl cx) (by simp [hsz]) (fun w hw => ld22 hw.2.1) hR ?_
  refine AnyK.move (i := 2) may_o (v := .int .i64 k) (by simp [t13]) hR ?_
  refine AnyK.field (i := 3) may_o (u := .pointer (some ⟨b4, 0, none⟩)) (v := .pointer (some ⟨b4, 2, none⟩)) (by simp [t4]) (fun w => fa24_2 w) hR ?_
  refine AnyK.load (i := 4) may_o (p := ⟨b4, 2, none⟩) (v := .slice (some ⟨b, off, none⟩) nl c) (by simp [hsz]) (fun w hw => ld22 hw.1) hR ?_
  refine AnyK.move (i := 5) may_o (v := .int .i64 k) (by simp [t13]) hR ?_
  refine AnyK.index (i := 6) may_o (u := .slice (some ⟨b, off, none⟩) nl c) (u' := .int .i64 k) (v := .pointer (some ⟨b, off + k * 5, none⟩)) (by simp [hsz]) (by simp [hsz]) (fun w => ix22 hk w) hR ?_
  refine AnyK.field (i := 7) may_o (u := .pointer (some ⟨b, off + k * 5, none⟩)) (v := .pointer (some ⟨b, off + k * 5 + 3, none⟩)) (by simp [hsz]) (fun w => fa73_3 w) hR ?_
  refine AnyK.field (i := 8) may_o (u := .pointer (some ⟨b, off + k * 5 + 3, none⟩)) (v := .pointer (some ⟨b, off + k * 5 + 3, none⟩)) (by simp [hsz]) (fun w => fa71_0 w) hR ?_
  refine AnyK.load (i := 9) may_o (p := ⟨b, off + k * 5 + 3, none⟩) (v := .int .i64 lo) (by simp [hsz]) (fun w hw => ld3 hw.2.2.1) hR ?_
  refine AnyK.move (i := 10) may_o (v := .int .i64 n_) (by simp [t9]) hR ?_
  refine AnyK.bin (i := 11) may_o (u := .int .i64 lo) (u' := .int .i64 n_) (v := .int .i64 (lo + n_)) (by simp [hsz]) (by simp [hsz]) (fun w => add3 (by omega) (by omega) w) hR ?_
  refine AnyK.field (i := 12) may_o (u := .pointer (some ⟨b4, 0, none⟩)) (v := .pointer (some ⟨b4, 2, none⟩)) (by simp [t4]) (fun w => fa24_2 w) hR ?_
  refine AnyK.load (i := 13) may_o (p := ⟨b4, 2, none⟩) (v := .slice (some ⟨b, off, none⟩) nl c) (by simp [hsz]) (fun w hw => ld22 hw.1) hR ?_
  refine AnyK.move (i := 14) may_o (v := .int .i64 k) (by simp [t13]) hR ?_
  refine AnyK.index (i := 15) may_o (u := .slice (some ⟨b, off, none⟩) nl c) (u' := .int .i64 k) (v := .pointer (some ⟨b, off + k * 5, none⟩)) (by simp [hsz]) (by simp [hsz]) (fun w => ix22 hk w) hR ?_
  refine AnyK.field (i := 16) may_o (u := .pointer (some ⟨b, off + k * 5, none⟩)) (v := .pointer (some ⟨b, off + k * 5 + 3, none⟩)) (by simp [hsz]) (fun w => fa73_3 w) hR ?_
  refine AnyK.field (i := 17) may_o (u := .pointer (some ⟨b, off + k * 5 + 3, none⟩)) (v := .pointer (some ⟨b, off + k * 5 + 3 + 1, none⟩)) (by simp [hsz]) (fun w => fa71_1 w) hR ?_
  refine AnyK.load (i := 18) may_o (p := ⟨b, off + k * 5 + 3 + 1, none⟩) (v := .int .i64 hi) (by simp [hsz]) (fun w hw => ld3 hw.2.2.2) hR ?_
  refine AnyK.move (i := 19) may_o (v := .int .i64 n_) (by simp [t9]) hR ?_
  refine AnyK.bin (i := 20) may_o (u := .int .i64 hi) (u' := .int .i64 n_) (v := .int .i64 (hi + n_)) (by simp [hsz]) (by simp [hsz]) (fun w => add3 (by omega) (by omega) w) hR ?_
  refine AnyK.bld (i := 21) may_o (ps := #[(0, .int .i64 (lo + n_)), (1, .int .i64 (hi + n_))]) (v := .agg #[.int .i64 (lo + n_), .int .i64 (hi + n_)]) (by simp [hsz]) (fun w => bd71 _ _ w) hR ?_
  refine AnyK.index (i := 22) (may_free rfl (by kernel_rfl) (by kernel_rfl) (by kernel_rfl)) (u := .slice (some ⟨gx, 0, none⟩) nl cx) (u' := .int .i64 k) (v := .pointer (some ⟨gx, 0 + k * 5, none⟩)) (by simp [hsz]) (by simp [hsz]) (fun w => ix22 hk w) trivial ?_
  refine AnyK.field (i := 23) (may_free rfl (by kernel_rfl) (by kernel_rfl) (by kernel_rfl)) (u := .pointer (some ⟨gx, 0 + k * 5, none⟩)) (v := .pointer (some ⟨gx, 0 + k * 5 + 3, none⟩)) (by simp [hsz]) (fun w => fa73_3 w) trivial ?_
  refine AnyK.pick1 (i := 24) (by kernel_rfl) ?_
  refine StepK.store (i := 24) (u := .pointer (some ⟨gx, 0 + k * 5 + 3, none⟩)) (u' := .agg #[.int .i64 (lo + n_), .int .i64 (hi + n_)]) rfl (by simp [hsz]) (by simp [hsz]) (st71 ((hB.cell (p := ⟨gx, 0 + k * 5 + 3, none⟩) hgx).trans hc0) ((hB.cell (p := ⟨gx, 0 + k * 5 + 3 + 1, none⟩) hgx).trans hc1) ((hB.frozen (p := ⟨gx, 0 + k * 5 + 3, none⟩) hgx).trans hf0) ((hB.frozen (p := ⟨gx, 0 + k * 5 + 3 + 1, none⟩) hgx).trans hf1)) (fun h => by cases h) ?_
  refine AnyK.done (by kernel_rfl) (hK _ _ hB ?_ ?_ ?_)
  · simp only [size_put, hsz]
  · simp only [defers_put]
  · intro e he
    iterate 24 refine (ev_ne (by omega)).trans ?_
    rfl

end
end Go.Proofs.Ytfcnombmphophaa
namespace Go.Proofs.Ytfcnombmphophaa
open Go.RowKit Go.Shelf
noncomputable def opsLt0 : Array Oper := (Try.f15.body.bind (regionOf 0)).getD #[]
noncomputable def opsLt1 : Array Oper := (Try.f15.body.bind (regionOf 1)).getD #[]
noncomputable def opsLt2 : Array Oper := (Try.f15.body.bind (regionOf 2)).getD #[]
noncomputable def opsLt4 : Array Oper := (Try.f15.body.bind (regionOf 4)).getD #[]
noncomputable def opsLt5 : Array Oper := (Try.f15.body.bind (regionOf 5)).getD #[]
noncomputable def opsLt6 : Array Oper := (Try.f15.body.bind (regionOf 6)).getD #[]
noncomputable def opsLt7 : Array Oper := (Try.f15.body.bind (regionOf 7)).getD #[]
noncomputable def opsLt8 : Array Oper := (Try.f15.body.bind (regionOf 8)).getD #[]
noncomputable def opsLt10 : Array Oper := (Try.f15.body.bind (regionOf 10)).getD #[]
noncomputable def opsLt11 : Array Oper := (Try.f15.body.bind (regionOf 11)).getD #[]
noncomputable def opsLt12 : Array Oper := (Try.f15.body.bind (regionOf 12)).getD #[]
noncomputable def opsLt13 : Array Oper := (Try.f15.body.bind (regionOf 13)).getD #[]
noncomputable def opsLt14 : Array Oper := (Try.f15.body.bind (regionOf 14)).getD #[]
noncomputable def opsLt15 : Array Oper := (Try.f15.body.bind (regionOf 15)).getD #[]
noncomputable def opsLt16 : Array Oper := (Try.f15.body.bind (regionOf 16)).getD #[]
noncomputable def opsLt18 : Array Oper := (Try.f15.body.bind (regionOf 18)).getD #[]
noncomputable def opsLt19 : Array Oper := (Try.f15.body.bind (regionOf 19)).getD #[]
noncomputable def opsLt20 : Array Oper := (Try.f15.body.bind (regionOf 20)).getD #[]
noncomputable def opsLt21 : Array Oper := (Try.f15.body.bind (regionOf 21)).getD #[]
noncomputable def lt_d : Code := (.seq (.region 19 opsLt19 false) (.seq (.region 20 opsLt20 false) (.seq (.region 21 opsLt21 false) .ret)))
noncomputable def lt_c : Code := (.seq (.seq (.region 12 opsLt12 false) (.block 2 (.loop (.seq (.seq (.region 13 opsLt13 false) (.cond (.tmp 89) .skip (.exit 2))) (.seq (.block 3 (.seq (.region 15 opsLt15 false) (.seq (.region 16 opsLt16 false) (.seq (.region 17 opsLt17 true) (.cond (.tmp 133) (.seq (.region 18 opsLt18 false) .ret) .skip))))) (.region 14 opsLt14 false)))))) lt_d)
noncomputable def lt_b : Code := (.seq (.seq (.region 10 opsLt10 false) (.cond (.tmp 83) (.seq (.region 11 opsLt11 false) .ret) .skip)) lt_c)
noncomputable def code15 : Code := (.seq (.region 0 opsLt0 false) (.seq (.seq (.region 1 opsLt1 false) (.cond (.tmp 25) (.seq (.region 2 opsLt2 false) .ret) .skip)) (.seq (.region 3 opsLt3 true) (.seq (.region 4 opsLt4 false) (.seq (.region 5 opsLt5 false) (.seq (.seq (.region 6 opsLt6 false) (.block 0 (.loop (.seq (.seq (.region 7 opsLt7 false) (.cond (.tmp 48) .skip (.exit 0))) (.seq (.block 1 (.region 9 opsLt9 true)) (.region 8 opsLt8 false)))))) lt_b))))))
theorem body15 : Try.f15.body = some code15 := by kernel_rfl
theorem eql46S {x y : Operand} {a b c d : Int} (h1 : a = c) (h2 : b = d) (w : World) : (do eqGuard .eql 46 x y (.agg #[.int .i64 a, .int .i64 b]) (.agg #[.int .i64 c, .int .i64 d]); binOp .eql 46 (.agg #[.int .i64 a, .int .i64 b]) (.agg #[.int .i64 c, .int .i64 d]) : Sem Value).run Try.prog w = .ok (.bool true) w := by
  subst h1
  subst h2
  exact eql46T _ _ _
theorem when_bounds {o t : Int} {l : List Sale} (hv : Valid o t l) (hf : fitsB t l = true) {k : Nat} (hk : k < l.length) : (0 ≤ (whenR t l k).1 ∧ (whenR t l k).1 ≤ 100) ∧ 0 ≤ (whenR t l k).2 ∧ (whenR t l k).2 ≤ 100 := by
  obtain ⟨_, ⟨ps, a1, a2⟩, qs, b1, b2⟩ := when_sem hv hf hk
  have h1 := tru_mem a1 a2
  have h2 := tru_mem b1 b2
  have hs := saleOf_valid hv hk
  simp only at h1 h2
  omega
theorem own_some {w : World} {B n c2 : Nat} {A2 : Option Addr} {xs : List Value} (h : w.ownsRow B 73 5 (.slice A2 n c2) n xs) (hn : 0 < n) : ∃ g, A2 = some ⟨g, 0, none⟩ := by
  rcases h.2 with ⟨e, h0⟩ | ⟨g, cap, cur, e, _⟩
  · omega
  · cases e
    exact ⟨g, rfl⟩
theorem row_days {w : World} {B g n c : Nat} {l : List Sale} (h : w.ownsRow B 73 5 (.slice (some ⟨g, 0, none⟩) n c) n (salesL l)) {k : Nat} {s : Sale} (hk : l[k]? = some s) (x y : Int) :
    (putDays w g (0 + k * 5 + 3) x y).ownsRow B 73 5 (.slice (some ⟨g, 0, none⟩) n c) n (salesL (l.set k (withDays s x y))) := by
  have h1 := row_set h (j := 3) (s' := withDays s x s.hi) (u := .int .i64 x) hk (by omega) rfl
  have hlt := (List.getElem?_eq_some_iff.1 hk).1
  have h2 := row_set h1 (k := k) (j := 4) (s := withDays s x s.hi) (s' := withDays s x y) (u := .int .i64 y) (by rw [List.getElem?_set]; simp [hlt]) (by omega) rfl
  rw [List.set_set] at h2
  unfold putDays
  rw [Nat.zero_add]
  exact h2
/-- The first sales are later. -/
def laterTo (l : List Sale) (n : Int) (i : Nat) : List Sale := (l.take i).map (later n) ++ l.drop i
theorem laterTo_len (l : List Sale) (n : Int) {i : Nat} (h : i ≤ l.length) : (laterTo l n i).length = l.length := by
  unfold laterTo
  rw [List.length_append, List.length_map, List.length_take, List.length_drop]
  omega
theorem laterTo_get (l : List Sale) (n : Int) {i : Nat} (h : i < l.length) : (laterTo l n i)[i]? = some (saleOf l i) := by
  unfold laterTo
  rw [List.getElem?_append_right (by simp; omega)]
  rw [List.length_map, List.length_take, show i - min i l.length = 0 by omega, List.getElem?_drop, Nat.add_zero, List.getElem?_eq_getElem h, saleOf_eq (List.getElem?_eq_getElem h)]
theorem laterTo_set (l : List Sale) (n : Int) {i : Nat} (h : i < l.length) : (laterTo l n i).set i (later n (saleOf l i)) = laterTo l n (i + 1) := by
  unfold laterTo
  rw [List.set_append_right _ _ (by simp; omega), List.take_succ_eq_append_getElem h, List.map_append, List.append_assoc]
  congr 1
  have e : i - ((l.take i).map (later n)).length = 0 := by simp; omega
  rw [e, List.drop_eq_getElem_cons h, List.set_cons_zero, saleOf_eq (List.getElem?_eq_getElem h)]
  simp
theorem laterTo_all (l : List Sale) (n : Int) : laterTo l n l.length = l.map (later n) := by
  unfold laterTo
  rw [List.take_length, List.drop_length, List.append_nil]
/-- The frame in the loops; the memory in the first one. -/
def LtF (n_ on ow : Int) (b3 px s i : Nat) (a : Act) : Prop := a.tmps.size = 171 ∧ a.defers = [] ∧ a.eval (.tmp 4) = .pointer (some ⟨b3, 0, none⟩) ∧ a.eval (.tmp 9) = .int .i64 n_ ∧ a.eval (.tmp 10) = .int .i64 on ∧ a.eval (.tmp 11) = .int .i64 ow ∧ a.eval (.tmp 12) = .pointer (some ⟨px, 0, none⟩) ∧ a.eval (.tmp s) = .int .i64 i
def LtM (W : World) (b3 px B : Nat) (o t : Int) (A A2 : Option Addr) (l cur : List Sale) (c c2 : Nat) (W' : World) : Prop := Below b3 W W' ∧ Whole W' b3 24 #[.int .i64 o, .int .i64 t, .slice A l.length c] ∧ Whole W' px 24 #[.int .i64 o, .int .i64 t, .slice A2 l.length c2] ∧ W'.ownsRow B 73 5 (.slice A2 l.length c2) l.length (salesL cur)
def LtN (W : World) (b3 px : Nat) (o t : Int) (A A2 : Option Addr) (l l2 : List Sale) (c c2 : Nat) (W' : World) : Prop := Below b3 W W' ∧ Whole W' b3 24 #[.int .i64 o, .int .i64 t, .slice A l.length c] ∧ Whole W' px 24 #[.int .i64 o, .int .i64 t, .slice A2 l2.length c2] ∧ SalesAt W' W'.heap.size A l ∧ SalesAt W' W'.heap.size A2 l2
section
variable {o t : Int} {A A2 : Option Addr} {l l2 : List Sale} {c c2 : Nat} {n_ on ow : Int} {b3 px B i : Nat} {a1 : Act} {W W1 : World} {Q : Exit → Act → World → Prop}
set_option maxRecDepth 10000 in
theorem lt8 (hi : i < l.length) (hl : l.length ≤ 12) (hf : LtF n_ on ow b3 px 13 i a1) (hQ : ∀ a', LtF n_ on ow b3 px 13 (i + 1) a' → Q .normal a' W) : (Code.region 8 opsLt8 false).wpIn Fence.wide 5 Try.prog Q a1 W := by
  obtain ⟨hz_a1, hd_a1, u4, u9, u10, u11, u12, u13⟩ := hf
  refine region_p 3 ?_
  intro K hK
  refine ListK.move (i := 0) (v := .int .i64 i) rfl (by simp [u13]) ?_
  refine ListK.bin (i := 1) (u := .int .i64 i) (u' := .int .i64 1) (v := .int .i64 (i + 1)) rfl (by simp [hz_a1]) (by simp) (add3 (by omega) (by omega) _) ?_
  refine ListK.assign (i := 2) (v := .int .i64 ((i + 1 : Nat) : Int)) rfl (by simp [hz_a1]) ?_
  skip
  exact ListK.done (hK _ _ (hQ _ ⟨(by simp only [size_put, hz_a1]), (by simp only [defers_put, hd_a1]), (by simp [u4]), (by simp [u9]), (by simp [u10]), (by simp [u11]), (by simp [u12]), (by simp [hz_a1])⟩))
set_option maxRecDepth 10000 in
theorem lt14 (hi : i < l.length) (hl : l.length ≤ 12) (hf : LtF n_ on ow b3 px 14 i a1) (hQ : ∀ a', LtF n_ on ow b3 px 14 (i + 1) a' → Q .normal a' W) : (Code.region 14 opsLt14 false).wpIn Fence.wide 5 Try.prog Q a1 W := by
  obtain ⟨hz_a1, hd_a1, u4, u9, u10, u11, u12, u14⟩ := hf
  refine region_p 3 ?_
  intro K hK
  refine ListK.move (i := 0) (v := .int .i64 i) rfl (by simp [u14]) ?_
  refine ListK.bin (i := 1) (u := .int .i64 i) (u' := .int .i64 1) (v := .int .i64 (i + 1)) rfl (by simp [hz_a1]) (by simp) (add3 (by omega) (by omega) _) ?_
  refine ListK.assign (i := 2) (v := .int .i64 ((i + 1 : Nat) : Int)) rfl (by simp [hz_a1]) ?_
  skip
  exact ListK.done (hK _ _ (hQ _ ⟨(by simp only [size_put, hz_a1]), (by simp only [defers_put, hd_a1]), (by simp [u4]), (by simp [u9]), (by simp [u10]), (by simp [u11]), (by simp [u12]), (by simp [hz_a1])⟩))
set_option maxRecDepth 10000 in
set_option maxHeartbeats 1000000 in
/-- A round of the first loop. -/
theorem lt9 (hi : i < l.length) (hl : l.length ≤ 12) (hv : Valid o t l) (hn0 : 0 ≤ n_ ∧ n_ ≤ 59) (hlt : b3 < px) (hpB : px < B) (hs0 : SalesAt W b3 A l) (hf : LtF n_ on ow b3 px 13 i a1) (hm : LtM W b3 px B o t A A2 l (laterTo l n_ i) c c2 W1) (hQ : ∀ a' W', LtF n_ on ow b3 px 13 i a' → LtM W b3 px B o t A A2 l (laterTo l n_ (i + 1)) c c2 W' → Q .normal a' W') :
    (Code.region 9 opsLt9 true).wpIn Fence.wide 5 Try.prog Q a1 W1 := by
  obtain ⟨hz, hd, u4, u9, u10, u11, u12, u13⟩ := hf
  obtain ⟨hB, wb, wx, ho⟩ := hm
  obtain ⟨g, rfl⟩ := own_some ho (by omega)
  obtain ⟨b, off, rfl, hb, s0, s1, s2, s3, s4⟩ := sale_cells (hs0.below hB (Nat.le_refl _)) hi
  obtain ⟨r1, r2, r3, r4⟩ := row_facts ho (laterTo_len l n_ (by omega)).symm
  obtain ⟨b', o', e', _, k0, k1, k2, k3, k4⟩ := r3 i _ (laterTo_get l n_ hi)
  cases e'
  have hsv := saleOf_valid hv hi
  have hw := wx.cell 2
  refine regionLt9 (wideF_plain _) hz u4 u9 u12 u13 (wb.cell 2) hw s3 s4 hi (by omega) (by omega) hn0 r2 k3 k4 (r4 _ (by omega)) (r4 _ (by omega)) ?_
  intro a' W' hb' hz' hd' hr'
  refine hQ a' _ ⟨hz', hd'.trans hd, (hr' 4 (by omega)).trans u4, (hr' 9 (by omega)).trans u9, (hr' 10 (by omega)).trans u10, (hr' 11 (by omega)).trans u11, (hr' 12 (by omega)).trans u12, (hr' 13 (by omega)).trans u13⟩ ?_
  have hB' := hB.trans (hb'.mono (by have := wx.lt; omega))
  refine ⟨(hB'.setCell (p := ⟨g, 0 + i * 5 + 3, none⟩) (by show b3 ≤ g; omega) _).setCell (p := ⟨g, 0 + i * 5 + 3 + 1, none⟩) (by show b3 ≤ g; omega) _, ?_, ?_, ?_⟩
  · exact ((wb.below hb' wb.lt).far (by show b3 ≠ g; omega) _).far (by show b3 ≠ g; omega) _
  · exact ((wx.below hb' wx.lt).far (by show px ≠ g; omega) _).far (by show px ≠ g; omega) _
  · have ho' := World.ownsRow.kept ho (grown_of_below hb') (.inr (by simp [Value.ownBlock]))
    have := row_days ho' (laterTo_get l n_ hi) ((saleOf l i).lo + n_) ((saleOf l i).hi + n_)
    rw [show withDays (saleOf l i) ((saleOf l i).lo + n_) ((saleOf l i).hi + n_) = later n_ (saleOf l i) from rfl, laterTo_set l n_ hi] at this
    exact this
end
end Go.Proofs.Ytfcnombmphophaa
namespace Go.Proofs.Ytfcnombmphophaa
open Go.RowKit Go.Shelf
section
variable {o t : Int} {A A2 : Option Addr} {l l2 : List Sale} {c c2 : Nat} {n_ on ow : Int} {b3 px i : Nat} {a1 : Act} {W W1 : World} {Q : Exit → Act → World → Prop}
set_option maxRecDepth 10000 in
set_option maxHeartbeats 2000000 in
/-- A round of the second loop. -/
theorem lt15 (hi : i < l.length) (hl12 : l.length ≤ 12) (hv : Valid o t l) (hv2 : Valid o t l2) (e2 : l2 = l.map (later n_)) (hn0 : 0 ≤ n_ ∧ n_ ≤ 59) (hb3 : W.heap.size = b3) (hf : LtF n_ on ow b3 px 14 i a1) (hm : LtN W b3 px o t A A2 l l2 c c2 W1)
    (hQ : ∀ a' W', LtF n_ on ow b3 px 14 i a' → LtN W b3 px o t A A2 l l2 c c2 W' → Q .normal a' W') :
    (Code.seq (.region 15 opsLt15 false) (.seq (.region 16 opsLt16 false) (.seq (.region 17 opsLt17 true) (.cond (.tmp 133) (.seq (.region 18 opsLt18 false) .ret) .skip)))).wpIn Fence.wide 5 Try.prog Q a1 W1 := by
  obtain ⟨hz_a1, hd_a1, u4, u9, u10, u11, u12, u14⟩ := hf
  obtain ⟨hB1, wb, wx, hs, hx⟩ := hm
  have hlt := wb.lt
  have hll : l2.length = l.length := by rw [e2, List.length_map]
  have hi2 : i < l2.length := by omega
  refine wpIn_seq (region_p 10 ?_)
  intro K hK
  refine ListK.load (i := 0) (p := ⟨b3, 0, none⟩) (v := .agg #[.int .i64 o, .int .i64 t, .slice A l.length c]) rfl (by simp [u4]) (ld24 ⟨wb.cell 0, wb.cell 1, wb.cell 2⟩) ?_
  refine ListK.call (i := 1) (vs := #[.agg #[.int .i64 o, .int .i64 t, .slice A l.length c]]) rfl (enters_of Try.func18 (by kernel_rfl) rfl) (by simp [hz_a1]) (((batch_any o t A l c W1 (by omega) hs)).mono ?_)
  rintro _ W2 ⟨A_t1, c_t1, rfl, hs_t1, hb_t1⟩
  have hL_t1 := hB1.trans (hb_t1.mono (by have := hB1.size; omega))
  replace hs := (hs.below hb_t1 (Nat.le_refl _)).more hb_t1.size
  replace hx := (hx.below hb_t1 (Nat.le_refl _)).more hb_t1.size
  replace wb := wb.below hb_t1 wb.lt
  replace wx := wx.below hb_t1 wx.lt
  replace hB1 := hL_t1
  replace hlt : b3 < W2.heap.size := wb.lt
  refine ⟨_, rfl, ?_⟩
  refine ListK.move (i := 2) (v := .int .i64 i) rfl (by simp [u14]) ?_
  refine ListK.call (i := 3) (vs := #[.agg #[.int .i64 o, .int .i64 t, .slice A_t1 l.length c_t1], .int .i64 i]) rfl (enters_of Try.func29 (by kernel_rfl) rfl) (by simp [hz_a1]) (((when_any o t A_t1 l c_t1 i W2 (by omega) hs_t1)).mono ?_)
  rintro _ W3 ⟨rfl, hb_t2⟩
  have hL_t2 := hB1.trans (hb_t2.mono (by have := hB1.size; omega))
  replace hs := (hs.below hb_t2 (Nat.le_refl _)).more hb_t2.size
  replace hx := (hx.below hb_t2 (Nat.le_refl _)).more hb_t2.size
  replace wb := wb.below hb_t2 wb.lt
  replace wx := wx.below hb_t2 wx.lt
  replace hB1 := hL_t2
  replace hlt : b3 < W3.heap.size := wb.lt
  refine ⟨_, rfl, ?_⟩
  refine ListK.move (i := 4) (v := .tuple #[.agg #[.int .i64 (whenV o t l i).1, .int .i64 (whenV o t l i).2], .int .i64 (whenE o t l i)]) rfl (by simp [hz_a1]) ?_
  refine ListK.extract (i := 5) (u := .tuple #[.agg #[.int .i64 (whenV o t l i).1, .int .i64 (whenV o t l i).2], .int .i64 (whenE o t l i)]) (v := .agg #[.int .i64 (whenV o t l i).1, .int .i64 (whenV o t l i).2]) rfl (by simp [hz_a1]) (ex0 _ _ _) ?_
  refine ListK.extract (i := 6) (u := .tuple #[.agg #[.int .i64 (whenV o t l i).1, .int .i64 (whenV o t l i).2], .int .i64 (whenE o t l i)]) (v := .int .i64 (whenE o t l i)) rfl (by simp [hz_a1]) (ex1 _ _ _) ?_
  refine ListK.alloc (i := 7) rfl (al46 W3) ?_
  refine ListK.store (i := 8) (u := .pointer (some ⟨W3.heap.size, 0, none⟩)) (u' := .agg #[.int .i64 (whenV o t l i).1, .int .i64 (whenV o t l i).2]) rfl (by simp [hz_a1]) (by simp [hz_a1]) sa46 ?_
  refine ListK.assign (i := 9) (v := .int .i64 (whenE o t l i)) rfl (by simp [hz_a1]) ?_
  refine ListK.done (hK _ _ ?_)
  clear hK K
  obtain ⟨w_t3, hb_t3⟩ := put46 W3 ((whenV o t l i).1) ((whenV o t l i).2)
  have hL_t3 := hB1.trans (hb_t3.mono (by have := hB1.size; omega))
  replace hs := (hs.below hb_t3 (Nat.le_refl _)).more hb_t3.size
  replace hx := (hx.below hb_t3 (Nat.le_refl _)).more hb_t3.size
  replace wb := wb.below hb_t3 wb.lt
  replace wx := wx.below hb_t3 wx.lt
  replace hB1 := hL_t3
  generalize W3.heap.size = p_t3 at *
  generalize ((W3.alloc (.cells #[.int .i64 0, .int .i64 0] 46)).setCell ⟨p_t3, 0, none⟩ (.int .i64 ((whenV o t l i).1))).setCell ⟨p_t3, 1, none⟩ (.int .i64 ((whenV o t l i).2)) = W4 at *
  replace hlt : b3 < W4.heap.size := wb.lt
  generalize hA : Act.put _ _ _ = a2
  have hz_a2 : a2.tmps.size = 171 := by rw [← hA]; simp only [size_put, hz_a1]
  have v4 : a2.eval (.tmp 4) = .pointer (some ⟨b3, 0, none⟩) := by rw [← hA]; exact (by simp [u4])
  have v9 : a2.eval (.tmp 9) = .int .i64 n_ := by rw [← hA]; exact (by simp [u9])
  have v10 : a2.eval (.tmp 10) = .int .i64 on := by rw [← hA]; exact (by simp [u10])
  have v11 : a2.eval (.tmp 11) = .int .i64 ow := by rw [← hA]; exact (by simp [u11])
  have v12 : a2.eval (.tmp 12) = .pointer (some ⟨px, 0, none⟩) := by rw [← hA]; exact (by simp [u12])
  have v14 : a2.eval (.tmp 14) = .int .i64 i := by rw [← hA]; exact (by simp [u14])
  have v15 : a2.eval (.tmp 15) = .pointer (some ⟨p_t3, 0, none⟩) := by rw [← hA]; exact (by simp [hz_a1])
  have v16 : a2.eval (.tmp 16) = .int .i64 (whenE o t l i) := by rw [← hA]; exact (by simp [hz_a1])
  have hd_a2 : a2.defers = [] := by rw [← hA]; simp only [defers_put, hd_a1]
  clear hA
  refine wpIn_seq (region_p 10 ?_)
  intro K hK
  refine ListK.load (i := 0) (p := ⟨px, 0, none⟩) (v := .agg #[.int .i64 o, .int .i64 t, .slice A2 l2.length c2]) rfl (by simp [v12]) (ld24 ⟨wx.cell 0, wx.cell 1, wx.cell 2⟩) ?_
  refine ListK.call (i := 1) (vs := #[.agg #[.int .i64 o, .int .i64 t, .slice A2 l2.length c2]]) rfl (enters_of Try.func18 (by kernel_rfl) rfl) (by simp [hz_a2]) (((batch_any o t A2 l2 c2 W4 (by omega) hx)).mono ?_)
  rintro _ W5 ⟨A_t4, c_t4, rfl, hs_t4, hb_t4⟩
  have hL_t4 := hB1.trans (hb_t4.mono (by have := hB1.size; omega))
  replace hs := (hs.below hb_t4 (Nat.le_refl _)).more hb_t4.size
  replace hx := (hx.below hb_t4 (Nat.le_refl _)).more hb_t4.size
  replace wb := wb.below hb_t4 wb.lt
  replace wx := wx.below hb_t4 wx.lt
  replace w_t3 := w_t3.below hb_t4 w_t3.lt
  replace hB1 := hL_t4
  replace hlt : b3 < W5.heap.size := wb.lt
  refine ⟨_, rfl, ?_⟩
  refine ListK.move (i := 2) (v := .int .i64 i) rfl (by simp [v14]) ?_
  refine ListK.call (i := 3) (vs := #[.agg #[.int .i64 o, .int .i64 t, .slice A_t4 l2.length c_t4], .int .i64 i]) rfl (enters_of Try.func29 (by kernel_rfl) rfl) (by simp [hz_a2]) (((when_any o t A_t4 l2 c_t4 i W5 (by omega) hs_t4)).mono ?_)
  rintro _ W6 ⟨rfl, hb_t5⟩
  have hL_t5 := hB1.trans (hb_t5.mono (by have := hB1.size; omega))
  replace hs := (hs.below hb_t5 (Nat.le_refl _)).more hb_t5.size
  replace hx := (hx.below hb_t5 (Nat.le_refl _)).more hb_t5.size
  replace wb := wb.below hb_t5 wb.lt
  replace wx := wx.below hb_t5 wx.lt
  replace w_t3 := w_t3.below hb_t5 w_t3.lt
  replace hB1 := hL_t5
  replace hlt : b3 < W6.heap.size := wb.lt
  refine ⟨_, rfl, ?_⟩
  refine ListK.move (i := 4) (v := .tuple #[.agg #[.int .i64 (whenV o t l2 i).1, .int .i64 (whenV o t l2 i).2], .int .i64 (whenE o t l2 i)]) rfl (by simp [hz_a2]) ?_
  refine ListK.extract (i := 5) (u := .tuple #[.agg #[.int .i64 (whenV o t l2 i).1, .int .i64 (whenV o t l2 i).2], .int .i64 (whenE o t l2 i)]) (v := .agg #[.int .i64 (whenV o t l2 i).1, .int .i64 (whenV o t l2 i).2]) rfl (by simp [hz_a2]) (ex0 _ _ _) ?_
  refine ListK.extract (i := 6) (u := .tuple #[.agg #[.int .i64 (whenV o t l2 i).1, .int .i64 (whenV o t l2 i).2], .int .i64 (whenE o t l2 i)]) (v := .int .i64 (whenE o t l2 i)) rfl (by simp [hz_a2]) (ex1 _ _ _) ?_
  refine ListK.alloc (i := 7) rfl (al46 W6) ?_
  refine ListK.store (i := 8) (u := .pointer (some ⟨W6.heap.size, 0, none⟩)) (u' := .agg #[.int .i64 (whenV o t l2 i).1, .int .i64 (whenV o t l2 i).2]) rfl (by simp [hz_a2]) (by simp [hz_a2]) sa46 ?_
  refine ListK.assign (i := 9) (v := .int .i64 (whenE o t l2 i)) rfl (by simp [hz_a2]) ?_
  refine ListK.done (hK _ _ ?_)
  clear hK K
  obtain ⟨w_t6, hb_t6⟩ := put46 W6 ((whenV o t l2 i).1) ((whenV o t l2 i).2)
  have hL_t6 := hB1.trans (hb_t6.mono (by have := hB1.size; omega))
  replace hs := (hs.below hb_t6 (Nat.le_refl _)).more hb_t6.size
  replace hx := (hx.below hb_t6 (Nat.le_refl _)).more hb_t6.size
  replace wb := wb.below hb_t6 wb.lt
  replace wx := wx.below hb_t6 wx.lt
  replace w_t3 := w_t3.below hb_t6 w_t3.lt
  replace hB1 := hL_t6
  generalize W6.heap.size = p_t6 at *
  generalize ((W6.alloc (.cells #[.int .i64 0, .int .i64 0] 46)).setCell ⟨p_t6, 0, none⟩ (.int .i64 ((whenV o t l2 i).1))).setCell ⟨p_t6, 1, none⟩ (.int .i64 ((whenV o t l2 i).2)) = W7 at *
  replace hlt : b3 < W7.heap.size := wb.lt
  generalize hA : Act.put _ _ _ = a3
  have hz_a3 : a3.tmps.size = 171 := by rw [← hA]; simp only [size_put, hz_a2]
  have x4 : a3.eval (.tmp 4) = .pointer (some ⟨b3, 0, none⟩) := by rw [← hA]; exact (by simp [v4])
  have x9 : a3.eval (.tmp 9) = .int .i64 n_ := by rw [← hA]; exact (by simp [v9])
  have x10 : a3.eval (.tmp 10) = .int .i64 on := by rw [← hA]; exact (by simp [v10])
  have x11 : a3.eval (.tmp 11) = .int .i64 ow := by rw [← hA]; exact (by simp [v11])
  have x12 : a3.eval (.tmp 12) = .pointer (some ⟨px, 0, none⟩) := by rw [← hA]; exact (by simp [v12])
  have x14 : a3.eval (.tmp 14) = .int .i64 i := by rw [← hA]; exact (by simp [v14])
  have x15 : a3.eval (.tmp 15) = .pointer (some ⟨p_t3, 0, none⟩) := by rw [← hA]; exact (by simp [v15])
  have x16 : a3.eval (.tmp 16) = .int .i64 (whenE o t l i) := by rw [← hA]; exact (by simp [v16])
  have x17 : a3.eval (.tmp 17) = .pointer (some ⟨p_t6, 0, none⟩) := by rw [← hA]; exact (by simp [hz_a2])
  have x18 : a3.eval (.tmp 18) = .int .i64 (whenE o t l2 i) := by rw [← hA]; exact (by simp [hz_a2])
  have hd_a3 : a3.defers = [] := by rw [← hA]; simp only [defers_put, hd_a2]
  clear hA
  have hE1 := whenE_valid hv hi
  have hE2 := whenE_valid hv2 hi2
  have hV1 := whenV_valid hv hi
  have hV2 := whenV_valid hv2 hi2
  have hf2 : fitsB t l2 = fitsB t l := by
    subst e2
    exact later_fits hv hn0.1 hv2
  rw [hf2] at hE2 hV2
  cases hF : fitsB t l with
  | true =>
    rw [hF, if_pos rfl] at hE1 hE2 hV1 hV2
    have hw := later_when hv hn0.1 (by rw [← e2]; exact hv2) hF hi
    rw [← e2, ← hV1, ← hV2] at hw
    have hbd := when_bounds hv hF hi
    rw [← hV1] at hbd
    refine wpIn_seq (regionLt17 (wideF_plain _) hz_a3 x9 x15 x16 x17 x18 (w_t3.cell 0) (w_t3.cell 1) (w_t6.cell 0) (w_t6.cell 1) hE1 hE2 (by omega) (by omega) hw.1 hw.2 ?_)
    intro a4 W8 hz_a4 hd_t7 hb_t7 hr_t7 hw_t7
    have y4 : a4.eval (.tmp 4) = .pointer (some ⟨b3, 0, none⟩) := (hr_t7 4 (by kernel_rfl)).trans x4
    have y9 : a4.eval (.tmp 9) = .int .i64 n_ := (hr_t7 9 (by kernel_rfl)).trans x9
    have y10 : a4.eval (.tmp 10) = .int .i64 on := (hr_t7 10 (by kernel_rfl)).trans x10
    have y11 : a4.eval (.tmp 11) = .int .i64 ow := (hr_t7 11 (by kernel_rfl)).trans x11
    have y12 : a4.eval (.tmp 12) = .pointer (some ⟨px, 0, none⟩) := (hr_t7 12 (by kernel_rfl)).trans x12
    have y14 : a4.eval (.tmp 14) = .int .i64 i := (hr_t7 14 (by kernel_rfl)).trans x14
    have y133 : a4.eval (.tmp 133) = .bool false := hw_t7 27 133 (by kernel_rfl)
    have hd_a4 : a4.defers = [] := hd_t7.trans hd_a3
    have hL_t7 := hB1.trans (hb_t7.mono (by have := hB1.size; omega))
    replace hs := (hs.below hb_t7 (Nat.le_refl _)).more hb_t7.size
    replace hx := (hx.below hb_t7 (Nat.le_refl _)).more hb_t7.size
    replace wb := wb.below hb_t7 wb.lt
    replace wx := wx.below hb_t7 wx.lt
    replace w_t3 := w_t3.below hb_t7 w_t3.lt
    replace w_t6 := w_t6.below hb_t7 w_t6.lt
    replace hB1 := hL_t7
    replace hlt : b3 < W8.heap.size := wb.lt
    clear hr_t7 hw_t7 hd_t7
    refine wpIn_cond (t := false) y133 (wpIn_skip ?_)
    exact hQ _ _ ⟨hz_a4, hd_a4, y4, y9, y10, y11, y12, y14⟩ ⟨hB1, wb, wx, hs, hx⟩
  | false =>
    rw [hF, if_neg (by decide)] at hE1 hE2
    refine wpIn_seq (regionLt17n (wideF_plain _) hz_a3 x9 x15 x16 x17 x18 hE1 hE2 ?_)
    intro a4 W8 hz_a4 hd_t7 hb_t7 hr_t7 hw_t7
    have y4 : a4.eval (.tmp 4) = .pointer (some ⟨b3, 0, none⟩) := (hr_t7 4 (by kernel_rfl)).trans x4
    have y9 : a4.eval (.tmp 9) = .int .i64 n_ := (hr_t7 9 (by kernel_rfl)).trans x9
    have y10 : a4.eval (.tmp 10) = .int .i64 on := (hr_t7 10 (by kernel_rfl)).trans x10
    have y11 : a4.eval (.tmp 11) = .int .i64 ow := (hr_t7 11 (by kernel_rfl)).trans x11
    have y12 : a4.eval (.tmp 12) = .pointer (some ⟨px, 0, none⟩) := (hr_t7 12 (by kernel_rfl)).trans x12
    have y14 : a4.eval (.tmp 14) = .int .i64 i := (hr_t7 14 (by kernel_rfl)).trans x14
    have y133 : a4.eval (.tmp 133) = .bool false := hw_t7 27 133 (by kernel_rfl)
    have hd_a4 : a4.defers = [] := hd_t7.trans hd_a3
    have hL_t7 := hB1.trans (hb_t7.mono (by have := hB1.size; omega))
    replace hs := (hs.below hb_t7 (Nat.le_refl _)).more hb_t7.size
    replace hx := (hx.below hb_t7 (Nat.le_refl _)).more hb_t7.size
    replace wb := wb.below hb_t7 wb.lt
    replace wx := wx.below hb_t7 wx.lt
    replace w_t3 := w_t3.below hb_t7 w_t3.lt
    replace w_t6 := w_t6.below hb_t7 w_t6.lt
    replace hB1 := hL_t7
    replace hlt : b3 < W8.heap.size := wb.lt
    clear hr_t7 hw_t7 hd_t7
    refine wpIn_cond (t := false) y133 (wpIn_skip ?_)
    exact hQ _ _ ⟨hz_a4, hd_a4, y4, y9, y10, y11, y12, y14⟩ ⟨hB1, wb, wx, hs, hx⟩
set_option maxRecDepth 10000 in
set_option maxHeartbeats 4000000 in
/-- Behind the second loop. -/
theorem lt19 (hl12 : l.length ≤ 12) (hv : Valid o t l) (hv2 : Valid o t l2) (e2 : l2 = l.map (later n_)) (hn0 : 0 ≤ n_ ∧ n_ ≤ 59) (hon : 0 ≤ on ∧ on + n_ ≤ 100) (how : 0 ≤ ow ∧ ow < o) (hb3 : W.heap.size = b3) {s : Nat} (hf : LtF n_ on ow b3 px s i a1) (hm : LtN W b3 px o t A A2 l l2 c c2 W1)
    (hret : ∀ (a' : Act) (W' : World), a'.defers = [] → a'.eval (.tmp 8) = .bool true → Below b3 W W' → Q .ret a' W') :
    lt_d.wpIn Fence.wide 5 Try.prog Q a1 W1 := by
  obtain ⟨hz_a1, hd_a1, u4, u9, u10, u11, u12, _⟩ := hf
  obtain ⟨hB1, wb, wx, hs, hx⟩ := hm
  have hlt := wb.lt
  have hll : l2.length = l.length := by rw [e2, List.length_map]
  unfold lt_d
  refine wpIn_seq (region_p 11 ?_)
  intro K hK
  refine ListK.load (i := 0) (p := ⟨b3, 0, none⟩) (v := .agg #[.int .i64 o, .int .i64 t, .slice A l.length c]) rfl (by simp [u4]) (ld24 ⟨wb.cell 0, wb.cell 1, wb.cell 2⟩) ?_
  refine ListK.call (i := 1) (vs := #[.agg #[.int .i64 o, .int .i64 t, .slice A l.length c]]) rfl (enters_of Try.func18 (by kernel_rfl) rfl) (by simp [hz_a1]) (((batch_any o t A l c W1 (by omega) hs)).mono ?_)
  rintro _ W2 ⟨A_t1, c_t1, rfl, hs_t1, hb_t1⟩
  have hL_t1 := hB1.trans (hb_t1.mono (by have := hB1.size; omega))
  replace hs := (hs.below hb_t1 (Nat.le_refl _)).more hb_t1.size
  replace hx := (hx.below hb_t1 (Nat.le_refl _)).more hb_t1.size
  replace wb := wb.below hb_t1 wb.lt
  replace wx := wx.below hb_t1 wx.lt
  replace hB1 := hL_t1
  replace hlt : b3 < W2.heap.size := wb.lt
  refine ⟨_, rfl, ?_⟩
  refine ListK.move (i := 2) (v := .int .i64 ow) rfl (by simp [u11]) ?_
  refine ListK.move (i := 3) (v := .int .i64 on) rfl (by simp [u10]) ?_
  refine ListK.call (i := 4) (vs := #[.agg #[.int .i64 o, .int .i64 t, .slice A_t1 l.length c_t1], .int .i64 ow, .int .i64 on]) rfl (enters_of Try.func32 (by kernel_rfl) rfl) (by simp [hz_a1]) (((holds_api o t A_t1 l c_t1 ow on W2 (by omega) hs_t1)).mono ?_)
  rintro _ W3 ⟨rfl, hb_t2⟩
  have hL_t2 := hB1.trans (hb_t2.mono (by have := hB1.size; omega))
  replace hs := (hs.below hb_t2 (Nat.le_refl _)).more hb_t2.size
  replace hx := (hx.below hb_t2 (Nat.le_refl _)).more hb_t2.size
  replace wb := wb.below hb_t2 wb.lt
  replace wx := wx.below hb_t2 wx.lt
  replace hB1 := hL_t2
  replace hlt : b3 < W3.heap.size := wb.lt
  refine ⟨_, rfl, ?_⟩
  refine ListK.move (i := 5) (v := .tuple #[.agg #[.int .i64 (holdsV o t l ow on).1, .int .i64 (holdsV o t l ow on).2], .int .i64 (holdsE o t l ow on)]) rfl (by simp [hz_a1]) ?_
  refine ListK.extract (i := 6) (u := .tuple #[.agg #[.int .i64 (holdsV o t l ow on).1, .int .i64 (holdsV o t l ow on).2], .int .i64 (holdsE o t l ow on)]) (v := .agg #[.int .i64 (holdsV o t l ow on).1, .int .i64 (holdsV o t l ow on).2]) rfl (by simp [hz_a1]) (ex0 _ _ _) ?_
  refine ListK.extract (i := 7) (u := .tuple #[.agg #[.int .i64 (holdsV o t l ow on).1, .int .i64 (holdsV o t l ow on).2], .int .i64 (holdsE o t l ow on)]) (v := .int .i64 (holdsE o t l ow on)) rfl (by simp [hz_a1]) (ex1 _ _ _) ?_
  refine ListK.alloc (i := 8) rfl (al46 W3) ?_
  refine ListK.store (i := 9) (u := .pointer (some ⟨W3.heap.size, 0, none⟩)) (u' := .agg #[.int .i64 (holdsV o t l ow on).1, .int .i64 (holdsV o t l ow on).2]) rfl (by simp [hz_a1]) (by simp [hz_a1]) sa46 ?_
  refine ListK.assign (i := 10) (v := .int .i64 (holdsE o t l ow on)) rfl (by simp [hz_a1]) ?_
  refine ListK.done (hK _ _ ?_)
  clear hK K
  obtain ⟨w_t3, hb_t3⟩ := put46 W3 ((holdsV o t l ow on).1) ((holdsV o t l ow on).2)
  have hL_t3 := hB1.trans (hb_t3.mono (by have := hB1.size; omega))
  replace hs := (hs.below hb_t3 (Nat.le_refl _)).more hb_t3.size
  replace hx := (hx.below hb_t3 (Nat.le_refl _)).more hb_t3.size
  replace wb := wb.below hb_t3 wb.lt
  replace wx := wx.below hb_t3 wx.lt
  replace hB1 := hL_t3
  generalize W3.heap.size = p_t3 at *
  generalize ((W3.alloc (.cells #[.int .i64 0, .int .i64 0] 46)).setCell ⟨p_t3, 0, none⟩ (.int .i64 ((holdsV o t l ow on).1))).setCell ⟨p_t3, 1, none⟩ (.int .i64 ((holdsV o t l ow on).2)) = W4 at *
  replace hlt : b3 < W4.heap.size := wb.lt
  generalize hA : Act.put _ _ _ = a2
  have hz_a2 : a2.tmps.size = 171 := by rw [← hA]; simp only [size_put, hz_a1]
  have v4 : a2.eval (.tmp 4) = .pointer (some ⟨b3, 0, none⟩) := by rw [← hA]; exact (by simp [u4])
  have v9 : a2.eval (.tmp 9) = .int .i64 n_ := by rw [← hA]; exact (by simp [u9])
  have v10 : a2.eval (.tmp 10) = .int .i64 on := by rw [← hA]; exact (by simp [u10])
  have v11 : a2.eval (.tmp 11) = .int .i64 ow := by rw [← hA]; exact (by simp [u11])
  have v12 : a2.eval (.tmp 12) = .pointer (some ⟨px, 0, none⟩) := by rw [← hA]; exact (by simp [u12])
  have v19 : a2.eval (.tmp 19) = .pointer (some ⟨p_t3, 0, none⟩) := by rw [← hA]; exact (by simp [hz_a1])
  have v20 : a2.eval (.tmp 20) = .int .i64 (holdsE o t l ow on) := by rw [← hA]; exact (by simp [hz_a1])
  have hd_a2 : a2.defers = [] := by rw [← hA]; simp only [defers_put, hd_a1]
  clear hA
  refine wpIn_seq (region_p 13 ?_)
  intro K hK
  refine ListK.load (i := 0) (p := ⟨px, 0, none⟩) (v := .agg #[.int .i64 o, .int .i64 t, .slice A2 l2.length c2]) rfl (by simp [v12]) (ld24 ⟨wx.cell 0, wx.cell 1, wx.cell 2⟩) ?_
  refine ListK.call (i := 1) (vs := #[.agg #[.int .i64 o, .int .i64 t, .slice A2 l2.length c2]]) rfl (enters_of Try.func18 (by kernel_rfl) rfl) (by simp [hz_a2]) (((batch_any o t A2 l2 c2 W4 (by omega) hx)).mono ?_)
  rintro _ W5 ⟨A_t4, c_t4, rfl, hs_t4, hb_t4⟩
  have hL_t4 := hB1.trans (hb_t4.mono (by have := hB1.size; omega))
  replace hs := (hs.below hb_t4 (Nat.le_refl _)).more hb_t4.size
  replace hx := (hx.below hb_t4 (Nat.le_refl _)).more hb_t4.size
  replace wb := wb.below hb_t4 wb.lt
  replace wx := wx.below hb_t4 wx.lt
  replace w_t3 := w_t3.below hb_t4 w_t3.lt
  replace hB1 := hL_t4
  replace hlt : b3 < W5.heap.size := wb.lt
  refine ⟨_, rfl, ?_⟩
  refine ListK.move (i := 2) (v := .int .i64 ow) rfl (by simp [v11]) ?_
  refine ListK.move (i := 3) (v := .int .i64 on) rfl (by simp [v10]) ?_
  refine ListK.move (i := 4) (v := .int .i64 n_) rfl (by simp [v9]) ?_
  refine ListK.bin (i := 5) (u := .int .i64 on) (u' := .int .i64 n_) (v := .int .i64 (on + n_)) rfl (by simp [hz_a2]) (by simp [hz_a2]) (add3 (by omega) (by omega) _) ?_
  refine ListK.call (i := 6) (vs := #[.agg #[.int .i64 o, .int .i64 t, .slice A_t4 l2.length c_t4], .int .i64 ow, .int .i64 (on + n_)]) rfl (enters_of Try.func32 (by kernel_rfl) rfl) (by simp [hz_a2]) (((holds_api o t A_t4 l2 c_t4 ow (on + n_) W5 (by omega) hs_t4)).mono ?_)
  rintro _ W6 ⟨rfl, hb_t5⟩
  have hL_t5 := hB1.trans (hb_t5.mono (by have := hB1.size; omega))
  replace hs := (hs.below hb_t5 (Nat.le_refl _)).more hb_t5.size
  replace hx := (hx.below hb_t5 (Nat.le_refl _)).more hb_t5.size
  replace wb := wb.below hb_t5 wb.lt
  replace wx := wx.below hb_t5 wx.lt
  replace w_t3 := w_t3.below hb_t5 w_t3.lt
  replace hB1 := hL_t5
  replace hlt : b3 < W6.heap.size := wb.lt
  refine ⟨_, rfl, ?_⟩
  refine ListK.move (i := 7) (v := .tuple #[.agg #[.int .i64 (holdsV o t l2 ow (on + n_)).1, .int .i64 (holdsV o t l2 ow (on + n_)).2], .int .i64 (holdsE o t l2 ow (on + n_))]) rfl (by simp [hz_a2]) ?_
  refine ListK.extract (i := 8) (u := .tuple #[.agg #[.int .i64 (holdsV o t l2 ow (on + n_)).1, .int .i64 (holdsV o t l2 ow (on + n_)).2], .int .i64 (holdsE o t l2 ow (on + n_))]) (v := .agg #[.int .i64 (holdsV o t l2 ow (on + n_)).1, .int .i64 (holdsV o t l2 ow (on + n_)).2]) rfl (by simp [hz_a2]) (ex0 _ _ _) ?_
  refine ListK.extract (i := 9) (u := .tuple #[.agg #[.int .i64 (holdsV o t l2 ow (on + n_)).1, .int .i64 (holdsV o t l2 ow (on + n_)).2], .int .i64 (holdsE o t l2 ow (on + n_))]) (v := .int .i64 (holdsE o t l2 ow (on + n_))) rfl (by simp [hz_a2]) (ex1 _ _ _) ?_
  refine ListK.alloc (i := 10) rfl (al46 W6) ?_
  refine ListK.store (i := 11) (u := .pointer (some ⟨W6.heap.size, 0, none⟩)) (u' := .agg #[.int .i64 (holdsV o t l2 ow (on + n_)).1, .int .i64 (holdsV o t l2 ow (on + n_)).2]) rfl (by simp [hz_a2]) (by simp [hz_a2]) sa46 ?_
  refine ListK.assign (i := 12) (v := .int .i64 (holdsE o t l2 ow (on + n_))) rfl (by simp [hz_a2]) ?_
  refine ListK.done (hK _ _ ?_)
  clear hK K
  obtain ⟨w_t6, hb_t6⟩ := put46 W6 ((holdsV o t l2 ow (on + n_)).1) ((holdsV o t l2 ow (on + n_)).2)
  have hL_t6 := hB1.trans (hb_t6.mono (by have := hB1.size; omega))
  replace hs := (hs.below hb_t6 (Nat.le_refl _)).more hb_t6.size
  replace hx := (hx.below hb_t6 (Nat.le_refl _)).more hb_t6.size
  replace wb := wb.below hb_t6 wb.lt
  replace wx := wx.below hb_t6 wx.lt
  replace w_t3 := w_t3.below hb_t6 w_t3.lt
  replace hB1 := hL_t6
  generalize W6.heap.size = p_t6 at *
  generalize ((W6.alloc (.cells #[.int .i64 0, .int .i64 0] 46)).setCell ⟨p_t6, 0, none⟩ (.int .i64 ((holdsV o t l2 ow (on + n_)).1))).setCell ⟨p_t6, 1, none⟩ (.int .i64 ((holdsV o t l2 ow (on + n_)).2)) = W7 at *
  replace hlt : b3 < W7.heap.size := wb.lt
  generalize hA : Act.put _ _ _ = a3
  have hz_a3 : a3.tmps.size = 171 := by rw [← hA]; simp only [size_put, hz_a2]
  have x19 : a3.eval (.tmp 19) = .pointer (some ⟨p_t3, 0, none⟩) := by rw [← hA]; exact (by simp [v19])
  have x20 : a3.eval (.tmp 20) = .int .i64 (holdsE o t l ow on) := by rw [← hA]; exact (by simp [v20])
  have x21 : a3.eval (.tmp 21) = .pointer (some ⟨p_t6, 0, none⟩) := by rw [← hA]; exact (by simp [hz_a2])
  have x22 : a3.eval (.tmp 22) = .int .i64 (holdsE o t l2 ow (on + n_)) := by rw [← hA]; exact (by simp [hz_a2])
  have hd_a3 : a3.defers = [] := by rw [← hA]; simp only [defers_put, hd_a2]
  clear hA
  have hE1 := holdsE_valid hv how.1 how.2 hon.1 (by omega)
  have hE2 := holdsE_valid hv2 (day := on + n_) how.1 how.2 (by omega) hon.2
  have hV1 := holdsV_valid hv how.1 how.2 hon.1 (by omega)
  have hV2 := holdsV_valid hv2 (day := on + n_) how.1 how.2 (by omega) hon.2
  have hf2 : fitsB t l2 = fitsB t l := by
    subst e2
    exact later_fits hv hn0.1 hv2
  rw [hf2] at hE2 hV2
  have hsame : holdsV o t l ow on = holdsV o t l2 ow (on + n_) := by
    rw [hV1, hV2]
    cases hF : fitsB t l with
    | false => rfl
    | true =>
      rw [if_pos rfl, if_pos rfl, e2]
      exact (later_holds hv hn0.1 (by rw [← e2]; exact hv2) hF (by omega) hon.1 hon.2).symm
  have hq1 := congrArg Prod.fst hsame
  have hq2 := congrArg Prod.snd hsame
  cases hF : fitsB t l with
  | true =>
    rw [hF, if_pos rfl] at hE1 hE2
    refine wpIn_seq (region_p 20 ?_)
    intro K hK
    refine ListK.move (i := 0) (v := .int .i64 (holdsE o t l ow on)) rfl (by simp [x20]) ?_
    refine ListK.move (i := 1) (v := .int .i64 (holdsE o t l2 ow (on + n_))) rfl (by simp [x22]) ?_
    refine ListK.bin (i := 2) (u := .int .i64 (holdsE o t l ow on)) (u' := .int .i64 (holdsE o t l2 ow (on + n_))) (v := .bool true) rfl (by simp [hz_a3]) (by simp [hz_a3]) (eql27T (hE1.trans hE2.symm) _) ?_
    refine ListK.move (i := 3) (v := .bool true) rfl (by simp [hz_a3]) ?_
    refine ListK.load (i := 4) (p := ⟨p_t3, 0, none⟩) (v := .agg #[.int .i64 ((holdsV o t l ow on).1), .int .i64 ((holdsV o t l ow on).2)]) rfl (by simp [x19]) (ld46 ⟨w_t3.cell 0, w_t3.cell 1⟩) ?_ (hw := wanted_g (e := 155) (b' := true) rfl (by simp [hz_a3]) rfl)
    refine ListK.load (i := 5) (p := ⟨p_t6, 0, none⟩) (v := .agg #[.int .i64 ((holdsV o t l2 ow (on + n_)).1), .int .i64 ((holdsV o t l2 ow (on + n_)).2)]) rfl (by simp [x21]) (ld46 ⟨w_t6.cell 0, w_t6.cell 1⟩) ?_ (hw := wanted_g (e := 155) (b' := true) rfl (by simp [hz_a3]) rfl)
    refine ListK.bin (i := 6) (u := .agg #[.int .i64 ((holdsV o t l ow on).1), .int .i64 ((holdsV o t l ow on).2)]) (u' := .agg #[.int .i64 ((holdsV o t l2 ow (on + n_)).1), .int .i64 ((holdsV o t l2 ow (on + n_)).2)]) (v := .bool true) rfl (by simp [hz_a3]) (by simp [hz_a3]) (eql46S hq1 hq2 _) ?_ (hw := wanted_g (e := 155) (b' := true) rfl (by simp [hz_a3]) rfl)
    refine ListK.pick (i := 7) (b := true) (v := .bool true) rfl (by simp [hz_a3]) (by simp [hz_a3]) ?_
    refine ListK.move (i := 8) (v := .bool true) rfl (by simp [hz_a3]) ?_
    refine ListK.move (i := 9) (v := .int .i64 (holdsE o t l ow on)) rfl (by simp [x20]) ?_ (hw := wanted_g (e := 160) (b' := true) rfl (by simp [hz_a3]) rfl)
    refine ListK.bin (i := 10) (u := .int .i64 (holdsE o t l ow on)) (u' := .int .i64 0) (v := .bool true) rfl (by simp [hz_a3]) (by simp) (eql27T hE1 _) ?_ (hw := wanted_g (e := 160) (b' := true) rfl (by simp [hz_a3]) rfl)
    refine ListK.move (i := 11) (v := .bool true) rfl (by simp [hz_a3]) ?_ (hw := wanted_g (e := 160) (b' := true) rfl (by simp [hz_a3]) rfl)
    refine ListK.passG (i := 12) (e := 163) (b' := true) rfl rfl (by simp [hz_a3]) rfl ?_
    refine ListK.passG (i := 13) (e := 163) (b' := true) rfl rfl (by simp [hz_a3]) rfl ?_
    refine ListK.pickW (i := 14) (b := true) (v := .bool true) rfl (by simp [hz_a3]) (by simp) ?_ (hw := wanted_g (e := 160) (b' := true) rfl (by simp [hz_a3]) rfl)
    refine ListK.pick (i := 15) (b := true) (v := .bool true) rfl (by simp [hz_a3]) (by simp [hz_a3]) ?_
    refine ListK.move (i := 16) (v := .bool true) rfl (by simp [hz_a3]) ?_
    refine ListK.call (i := 17) (vs := #[]) rfl (enters_of Try.func16 (by kernel_rfl) rfl) (by simp) (((wakes_any W7)).mono ?_) (hw := wanted_g (e := 168) (b' := true) rfl (by simp [hz_a3]) rfl)
    rintro _ W8 ⟨rfl, hb_t7⟩
    have hL_t7 := hB1.trans (hb_t7.mono (by have := hB1.size; omega))
    replace hs := (hs.below hb_t7 (Nat.le_refl _)).more hb_t7.size
    replace hx := (hx.below hb_t7 (Nat.le_refl _)).more hb_t7.size
    replace wb := wb.below hb_t7 wb.lt
    replace wx := wx.below hb_t7 wx.lt
    replace w_t3 := w_t3.below hb_t7 w_t3.lt
    replace w_t6 := w_t6.below hb_t7 w_t6.lt
    replace hB1 := hL_t7
    replace hlt : b3 < W8.heap.size := wb.lt
    refine ⟨_, rfl, ?_⟩
    refine ListK.pick (i := 18) (b := true) (v := .bool true) rfl (by simp [hz_a3]) (by simp [hz_a3]) ?_
    refine ListK.assign (i := 19) (v := .bool true) rfl (by simp [hz_a3]) ?_
    refine ListK.done (hK _ _ (wpIn_ret ?_))
    exact hret _ _ (by simp only [defers_put, hd_a3]) (by simp [hz_a3]) hB1
  | false =>
    rw [hF, if_neg (by decide)] at hE1 hE2
    refine wpIn_seq (region_p 20 ?_)
    intro K hK
    refine ListK.move (i := 0) (v := .int .i64 (holdsE o t l ow on)) rfl (by simp [x20]) ?_
    refine ListK.move (i := 1) (v := .int .i64 (holdsE o t l2 ow (on + n_))) rfl (by simp [x22]) ?_
    refine ListK.bin (i := 2) (u := .int .i64 (holdsE o t l ow on)) (u' := .int .i64 (holdsE o t l2 ow (on + n_))) (v := .bool true) rfl (by simp [hz_a3]) (by simp [hz_a3]) (eql27T (hE1.trans hE2.symm) _) ?_
    refine ListK.move (i := 3) (v := .bool true) rfl (by simp [hz_a3]) ?_
    refine ListK.load (i := 4) (p := ⟨p_t3, 0, none⟩) (v := .agg #[.int .i64 ((holdsV o t l ow on).1), .int .i64 ((holdsV o t l ow on).2)]) rfl (by simp [x19]) (ld46 ⟨w_t3.cell 0, w_t3.cell 1⟩) ?_ (hw := wanted_g (e := 155) (b' := true) rfl (by simp [hz_a3]) rfl)
    refine ListK.load (i := 5) (p := ⟨p_t6, 0, none⟩) (v := .agg #[.int .i64 ((holdsV o t l2 ow (on + n_)).1), .int .i64 ((holdsV o t l2 ow (on + n_)).2)]) rfl (by simp [x21]) (ld46 ⟨w_t6.cell 0, w_t6.cell 1⟩) ?_ (hw := wanted_g (e := 155) (b' := true) rfl (by simp [hz_a3]) rfl)
    refine ListK.bin (i := 6) (u := .agg #[.int .i64 ((holdsV o t l ow on).1), .int .i64 ((holdsV o t l ow on).2)]) (u' := .agg #[.int .i64 ((holdsV o t l2 ow (on + n_)).1), .int .i64 ((holdsV o t l2 ow (on + n_)).2)]) (v := .bool true) rfl (by simp [hz_a3]) (by simp [hz_a3]) (eql46S hq1 hq2 _) ?_ (hw := wanted_g (e := 155) (b' := true) rfl (by simp [hz_a3]) rfl)
    refine ListK.pick (i := 7) (b := true) (v := .bool true) rfl (by simp [hz_a3]) (by simp [hz_a3]) ?_
    refine ListK.move (i := 8) (v := .bool true) rfl (by simp [hz_a3]) ?_
    refine ListK.move (i := 9) (v := .int .i64 (holdsE o t l ow on)) rfl (by simp [x20]) ?_ (hw := wanted_g (e := 160) (b' := true) rfl (by simp [hz_a3]) rfl)
    refine ListK.bin (i := 10) (u := .int .i64 (holdsE o t l ow on)) (u' := .int .i64 0) (v := .bool false) rfl (by simp [hz_a3]) (by simp) (eql27F (by omega) _) ?_ (hw := wanted_g (e := 160) (b' := true) rfl (by simp [hz_a3]) rfl)
    refine ListK.move (i := 11) (v := .bool false) rfl (by simp [hz_a3]) ?_ (hw := wanted_g (e := 160) (b' := true) rfl (by simp [hz_a3]) rfl)
    refine ListK.move (i := 12) (v := .int .i64 (holdsE o t l ow on)) rfl (by simp [x20]) ?_ (hw := wanted_g (e := 163) (b' := false) rfl (by simp [hz_a3]) rfl)
    refine ListK.bin (i := 13) (u := .int .i64 (holdsE o t l ow on)) (u' := .int .i64 9) (v := .bool true) rfl (by simp [hz_a3]) (by simp) (eql27T hE1 _) ?_ (hw := wanted_g (e := 163) (b' := false) rfl (by simp [hz_a3]) rfl)
    refine ListK.pickW (i := 14) (b := false) (v := .bool true) rfl (by simp [hz_a3]) (by simp [hz_a3]) ?_ (hw := wanted_g (e := 160) (b' := true) rfl (by simp [hz_a3]) rfl)
    refine ListK.pick (i := 15) (b := true) (v := .bool true) rfl (by simp [hz_a3]) (by simp [hz_a3]) ?_
    refine ListK.move (i := 16) (v := .bool true) rfl (by simp [hz_a3]) ?_
    refine ListK.call (i := 17) (vs := #[]) rfl (enters_of Try.func16 (by kernel_rfl) rfl) (by simp) (((wakes_any W7)).mono ?_) (hw := wanted_g (e := 168) (b' := true) rfl (by simp [hz_a3]) rfl)
    rintro _ W8 ⟨rfl, hb_t7⟩
    have hL_t7 := hB1.trans (hb_t7.mono (by have := hB1.size; omega))
    replace hs := (hs.below hb_t7 (Nat.le_refl _)).more hb_t7.size
    replace hx := (hx.below hb_t7 (Nat.le_refl _)).more hb_t7.size
    replace wb := wb.below hb_t7 wb.lt
    replace wx := wx.below hb_t7 wx.lt
    replace w_t3 := w_t3.below hb_t7 w_t3.lt
    replace w_t6 := w_t6.below hb_t7 w_t6.lt
    replace hB1 := hL_t7
    replace hlt : b3 < W8.heap.size := wb.lt
    refine ⟨_, rfl, ?_⟩
    refine ListK.pick (i := 18) (b := true) (v := .bool true) rfl (by simp [hz_a3]) (by simp [hz_a3]) ?_
    refine ListK.assign (i := 19) (v := .bool true) rfl (by simp [hz_a3]) ?_
    refine ListK.done (hK _ _ (wpIn_ret ?_))
    exact hret _ _ (by simp only [defers_put, hd_a3]) (by simp [hz_a3]) hB1
end
set_option maxRecDepth 10000 in
set_option maxHeartbeats 4000000 in
theorem later_any (o t : Int) (A : Option Addr) (l : List Sale) (c nb nd nw : Nat) (W : World) (hnb : nb < 256) (hnd : nd < 256) (hnw : nw < 256) (hs : SalesAt W W.heap.size A l) :
    Calls Try.prog 15 #[.agg #[.int .i64 o, .int .i64 t, .slice A l.length c], .int .u8 nb, .int .u8 nd, .int .u8 nw] W (TP W true) := by
  have hs0 := hs
  refine (callsIn_wide (n := 5)).1 (callsIn_of_wp Try.func15 body15 trivial ?_ rfl)
  obtain ⟨a, ha⟩ : ∃ a : Act, a = { tmps := #[.agg #[.int .i64 o, .int .i64 t, .slice A l.length c], .int .u8 nb, .int .u8 nd, .int .u8 nw] ++ Array.replicate (Try.f15.ntmps - (#[.agg #[.int .i64 o, .int .i64 t, .slice A l.length c], .int .u8 nb, .int .u8 nd, .int .u8 nw] : Array Value).size) undef, defers := [] } := ⟨_, rfl⟩
  have hsz : a.tmps.size = 171 := by rw [ha]; simp [Try.ntmps15]
  have t0 : a.eval (.tmp 0) = .agg #[.int .i64 o, .int .i64 t, .slice A l.length c] := by rw [ha]; simp [Act.eval]
  have t1 : a.eval (.tmp 1) = .int .u8 nb := by rw [ha]; simp [Act.eval]
  have t2 : a.eval (.tmp 2) = .int .u8 nd := by rw [ha]; simp [Act.eval]
  have t3 : a.eval (.tmp 3) = .int .u8 nw := by rw [ha]; simp [Act.eval]
  have hdf : a.defers = [] := by rw [ha]
  rw [← ha]
  clear ha
  have hret : ∀ (a' : Act) (W' : World), a'.defers = [] → a'.eval (.tmp 8) = .bool true → Below W.heap.size W W' → bodyPost Try.prog Try.f15 (TP W true) .ret a' W' := fun a' W' hd h4 hb =>
    bodyPost_ret (v := .bool true) (res1 Try.results15 h4) hd ⟨rfl, hb⟩
  unfold code15
  refine wpIn_seq (region_p 2 ?_)
  intro K hK
  refine ListK.box (i := 0) (u := .agg #[.int .i64 o, .int .i64 t, .slice A l.length c]) rfl (by simp [t0]) (bx24 W _ _ _ _ _) ?_
  refine ListK.assign (i := 1) (v := .bool false) rfl (by simp) ?_
  refine ListK.done (hK _ _ ?_)
  clear hK K
  have wb := Whole.new W 24 #[.int .i64 o, .int .i64 t, .slice A l.length c]
  have hB1 : Below W.heap.size W (W.alloc (.cells #[.int .i64 o, .int .i64 t, .slice A l.length c] 24)) := (Below.refl _ W).alloc (Nat.le_refl _) _
  have hS1 := hB1.size
  have hlt : W.heap.size < (W.alloc (.cells #[.int .i64 o, .int .i64 t, .slice A l.length c] 24)).heap.size := by simp
  generalize hb3 : W.heap.size = b3 at *
  generalize W.alloc (.cells #[.int .i64 o, .int .i64 t, .slice A l.length c] 24) = W1 at *
  replace hs : SalesAt W1 W1.heap.size A l := (hs.below hB1 (Nat.le_refl _)).more hS1
  generalize hA : Act.put _ _ _ = a1
  have hz_a1 : a1.tmps.size = 171 := by rw [← hA]; simp only [size_put, hsz]
  have u1 : a1.eval (.tmp 1) = .int .u8 nb := by rw [← hA]; exact (by simp [t1])
  have u2 : a1.eval (.tmp 2) = .int .u8 nd := by rw [← hA]; exact (by simp [t2])
  have u3 : a1.eval (.tmp 3) = .int .u8 nw := by rw [← hA]; exact (by simp [t3])
  have u4 : a1.eval (.tmp 4) = .pointer (some ⟨b3, 0, none⟩) := by rw [← hA]; exact (by simp [hsz])
  have hd_a1 : a1.defers = [] := by rw [← hA]; simp only [defers_put, hdf]
  clear hA
  have hrd := ready_any o t A l c W1 hs
  by_cases hready : l.length ≤ 12 ∧ fault o t l = 0
  · obtain ⟨hl12, h0⟩ := hready
    rw [decide_eq_true hl12, decide_eq_true h0] at hrd
    have hv := valid_of_fault h0
    have hl8 := hv.len
    have ho0 : 0 < o := by
      have := hv.o1
      omega
    refine wpIn_seq (wpIn_seq (region_p 3 ?_))
    intro K hK
    refine ListK.load (i := 0) (p := ⟨b3, 0, none⟩) (v := .agg #[.int .i64 o, .int .i64 t, .slice A l.length c]) rfl (by simp [u4]) (ld24 ⟨wb.cell 0, wb.cell 1, wb.cell 2⟩) ?_
    refine ListK.call (i := 1) (vs := #[.agg #[.int .i64 o, .int .i64 t, .slice A l.length c]]) rfl (enters_of Try.func41 (by kernel_rfl) rfl) (by simp [hz_a1]) (((hrd)).mono ?_)
    rintro _ W2 ⟨rfl, hb_t1⟩
    clear hrd
    have hL_t1 := hB1.trans (hb_t1.mono (by have := hB1.size; omega))
    replace hs := (hs.below hb_t1 (Nat.le_refl _)).more hb_t1.size
    replace wb := wb.below hb_t1 wb.lt
    replace hB1 := hL_t1
    replace hlt : b3 < W2.heap.size := wb.lt
    refine ⟨_, rfl, ?_⟩
    refine ListK.un (i := 2) (u := .bool true) (v := .bool false) rfl (by simp [hz_a1]) (not4 _ _) ?_
    refine ListK.done (hK _ _ ?_)
    clear hK K
    refine wpIn_cond (t := false) (by simp [hz_a1]) (wpIn_skip ?_)
    show (Code.seq _ _).wpIn _ _ _ _ _ _
    generalize hA : Act.put _ _ _ = a2
    have hz_a2 : a2.tmps.size = 171 := by rw [← hA]; simp only [size_put, hz_a1]
    have v1 : a2.eval (.tmp 1) = .int .u8 nb := by rw [← hA]; exact (by simp [u1])
    have v2 : a2.eval (.tmp 2) = .int .u8 nd := by rw [← hA]; exact (by simp [u2])
    have v3 : a2.eval (.tmp 3) = .int .u8 nw := by rw [← hA]; exact (by simp [u3])
    have v4 : a2.eval (.tmp 4) = .pointer (some ⟨b3, 0, none⟩) := by rw [← hA]; exact (by simp [u4])
    have hd_a2 : a2.defers = [] := by rw [← hA]; simp only [defers_put, hd_a1]
    clear hA
    obtain ⟨n_, hn⟩ : ∃ n : Int, (nb : Int) % 60 = n := ⟨_, rfl⟩
    obtain ⟨on, hon⟩ : ∃ on : Int, (nd : Int) % 101 = on := ⟨_, rfl⟩
    obtain ⟨ow, how⟩ : ∃ ow : Int, (nw : Int) % o = ow := ⟨_, rfl⟩
    have hn0 : 0 ≤ n_ ∧ n_ ≤ 59 := by omega
    have hon0 : 0 ≤ on ∧ on ≤ 100 := by omega
    have how0 : 0 ≤ ow ∧ ow < o := by
      rw [← how]
      exact ⟨Int.emod_nonneg _ (by omega), Int.emod_lt_of_pos _ ho0⟩
    refine wpIn_seq (regionLt3 (wideF_plain _) hz_a2 v1 v2 v3 v4 (wb.cell 0) hnb hnd hnw ho0 hn hon how ?_)
    intro a3 W3 hz_a3 hd_t2 hb_t2 hr_t2 hw_t2
    have x4 : a3.eval (.tmp 4) = .pointer (some ⟨b3, 0, none⟩) := (hr_t2 4 (by kernel_rfl)).trans v4
    have x9 : a3.eval (.tmp 9) = .int .i64 n_ := hw_t2 11 9 (by kernel_rfl)
    have x10 : a3.eval (.tmp 10) = .int .i64 on := hw_t2 12 10 (by kernel_rfl)
    have x11 : a3.eval (.tmp 11) = .int .i64 ow := hw_t2 13 11 (by kernel_rfl)
    have hd_a3 : a3.defers = [] := hd_t2.trans hd_a2
    have hL_t2 := hB1.trans (hb_t2.mono (by have := hB1.size; omega))
    replace hs := (hs.below hb_t2 (Nat.le_refl _)).more hb_t2.size
    replace wb := wb.below hb_t2 wb.lt
    replace hB1 := hL_t2
    replace hlt : b3 < W3.heap.size := wb.lt
    clear hr_t2 hw_t2 hd_t2
    refine wpIn_seq (region_p 3 ?_)
    intro K hK
    refine ListK.load (i := 0) (p := ⟨b3, 0, none⟩) (v := .agg #[.int .i64 o, .int .i64 t, .slice A l.length c]) rfl (by simp [x4]) (ld24 ⟨wb.cell 0, wb.cell 1, wb.cell 2⟩) ?_
    refine ListK.alloc (i := 1) rfl (al24 W3) ?_
    refine ListK.store (i := 2) (u := .pointer (some ⟨W3.heap.size, 0, none⟩)) (u' := .agg #[.int .i64 o, .int .i64 t, .slice A l.length c]) rfl (by simp [hz_a3]) (by simp [hz_a3]) (st24n W3 o t A l.length c) ?_
    refine ListK.done (hK _ _ ?_)
    clear hK K
    have wx := Whole.new W3 24 #[.int .i64 o, .int .i64 t, .slice A l.length c]
    have hbx : Below W3.heap.size W3 (W3.alloc (.cells #[.int .i64 o, .int .i64 t, .slice A l.length c] 24)) := (Below.refl _ _).alloc (Nat.le_refl _) _
    replace hB1 := hB1.trans (hbx.mono (by have := hB1.size; omega))
    replace wb := wb.below hbx wb.lt
    have hlt : b3 < W3.heap.size := hlt
    generalize W3.heap.size = px at *
    generalize W3.alloc (.cells #[.int .i64 o, .int .i64 t, .slice A l.length c] 24) = W4 at *
    generalize hA : Act.put _ _ _ = a4
    have hz_a4 : a4.tmps.size = 171 := by rw [← hA]; simp only [size_put, hz_a3]
    have y4 : a4.eval (.tmp 4) = .pointer (some ⟨b3, 0, none⟩) := by rw [← hA]; exact (by simp [x4])
    have y9 : a4.eval (.tmp 9) = .int .i64 n_ := by rw [← hA]; exact (by simp [x9])
    have y10 : a4.eval (.tmp 10) = .int .i64 on := by rw [← hA]; exact (by simp [x10])
    have y11 : a4.eval (.tmp 11) = .int .i64 ow := by rw [← hA]; exact (by simp [x11])
    have y12 : a4.eval (.tmp 12) = .pointer (some ⟨px, 0, none⟩) := by rw [← hA]; exact (by simp [hz_a3])
    have hd_a4 : a4.defers = [] := by rw [← hA]; simp only [defers_put, hd_a3]
    clear hA
    obtain ⟨v5, Wc, hr5, hb5, wx5, ho5, hB6, wx6, ho6, hk6⟩ := copy_run (c := c) (ty := 22) hs0 hB1 (by omega) (by omega : b3 ≤ px) wx
    obtain ⟨A2, c2, e5, _⟩ := sales_of_owns73 ho5
    subst e5
    refine wpIn_seq (region_p 6 ?_)
    intro K hK
    refine ListK.bsl (i := 0) (ps := #[]) (v := .slice (some ⟨W4.heap.size, 0, none⟩) 0 0) rfl (by simp []) (bs22_z W4) ?_
    refine ListK.field (i := 1) (u := .pointer (some ⟨b3, 0, none⟩)) (v := .pointer (some ⟨b3, 2, none⟩)) rfl (by simp [y4]) (fa24_2 _) ?_
    refine ListK.load (i := 2) (p := ⟨b3, 2, none⟩) (v := .slice A l.length c) rfl (by simp [hz_a4]) (ld22 ((wb.alloc _).cell 2)) ?_
    refine ListK.app22 (i := 3) (v := .slice (some ⟨W4.heap.size, 0, none⟩) 0 0) (v2 := .slice A l.length c) rfl (by simp [hz_a4]) (by simp [hz_a4]) hr5 ?_
    refine ListK.field (i := 4) (u := .pointer (some ⟨px, 0, none⟩)) (v := .pointer (some ⟨px, 2, none⟩)) rfl (by simp [y12]) (fa24_2 _) ?_
    refine ListK.store (i := 5) (u := .pointer (some ⟨px, 2, none⟩)) (u' := .slice A2 l.length c2) rfl (by simp [hz_a4]) (by simp [hz_a4]) (st22 (wx5.cell 2) (wx5.frozen 2)) ?_
    refine ListK.done (hK _ _ ?_)
    clear hK K
    replace wb := hk6 b3 24 _ (by omega) wb.lt wb
    have hpB : px < W4.heap.size := wx.lt
    generalize W4.heap.size = B5 at *
    generalize (Wc.setCell ⟨px, 2, none⟩ (.slice A2 l.length c2)) = W6 at *
    generalize hA : Act.put _ _ _ = a5
    have hz_a5 : a5.tmps.size = 171 := by rw [← hA]; simp only [size_put, hz_a4]
    have z4 : a5.eval (.tmp 4) = .pointer (some ⟨b3, 0, none⟩) := by rw [← hA]; exact (by simp [y4])
    have z9 : a5.eval (.tmp 9) = .int .i64 n_ := by rw [← hA]; exact (by simp [y9])
    have z10 : a5.eval (.tmp 10) = .int .i64 on := by rw [← hA]; exact (by simp [y10])
    have z11 : a5.eval (.tmp 11) = .int .i64 ow := by rw [← hA]; exact (by simp [y11])
    have z12 : a5.eval (.tmp 12) = .pointer (some ⟨px, 0, none⟩) := by rw [← hA]; exact (by simp [y12])
    have hd_a5 : a5.defers = [] := by rw [← hA]; simp only [defers_put, hd_a4]
    clear hA
    have hl0 : laterTo l n_ 0 = l := by simp [laterTo]
    have hm0 : LtM W b3 px B5 o t A A2 l (laterTo l n_ 0) c c2 W6 := ⟨hB6, wb, wx6, by rw [hl0]; exact ho6⟩
    clear ho5 hb5 wx5 hr5 wx ho6 hk6 wx6 hB6 hB1 wb hs
    refine wpIn_seq (wpIn_seq (region_p 1 ?_))
    intro K hK
    refine ListK.assign (i := 0) (v := .int .i64 0) rfl (by simp) ?_
    refine ListK.done (hK _ _ ?_)
    clear hK K
    refine wpIn_block (wpIn_loop (fun a W' => ∃ i, i ≤ l.length ∧ LtF n_ on ow b3 px 13 i a ∧ LtM W b3 px B5 o t A A2 l (laterTo l n_ i) c c2 W') (fun a _ => l.length - (intOf (a.eval (.tmp 13))).toNat)
      ⟨0, Nat.zero_le _, ⟨(by simp only [size_put, hz_a5]), (by simp only [defers_put, hd_a5]), (by simp [z4]), (by simp [z9]), (by simp [z10]), (by simp [z11]), (by simp [z12]), (by simp [hz_a5])⟩, hm0⟩ ?_)
    rintro a6 W6 ⟨i, hi, hf, hm⟩
    obtain ⟨hz_a6, hd_a6, u4, u9, u10, u11, u12, u13⟩ := hf
    have wx := hm.2.2.1
    refine wpIn_seq (wpIn_seq (region_p 5 ?_))
    intro K hK
    refine ListK.move (i := 0) (v := .int .i64 i) rfl (by simp [u13]) ?_
    refine ListK.field (i := 1) (u := .pointer (some ⟨px, 0, none⟩)) (v := .pointer (some ⟨px, 2, none⟩)) rfl (by simp [u12]) (fa24_2 _) ?_
    refine ListK.load (i := 2) (p := ⟨px, 2, none⟩) (v := .slice A2 l.length c2) rfl (by simp [hz_a6]) (ld22 (wx.cell 2)) ?_
    refine ListK.len (i := 3) (u := .slice A2 l.length c2) (v := .int .i64 l.length) rfl (by simp [hz_a6]) (ln22 _ _ _ _ _) rfl ?_
    refine ListK.bin (i := 4) (u := .int .i64 i) (u' := .int .i64 (l.length : Int)) (v := .bool (decide (i < (l.length : Int)))) rfl (by simp [hz_a6]) (by simp [hz_a6]) (lss3 _) ?_
    refine ListK.done (hK _ _ ?_)
    clear hK K
    by_cases hil : i < l.length
    · refine wpIn_cond (t := true) (by simp [hz_a6]; omega) (wpIn_skip ?_)
      show (Code.seq _ _).wpIn _ _ _ _ _ _
      refine wpIn_seq (wpIn_block ?_)
      refine lt9 (n_ := n_) (on := on) (ow := ow) (px := px) hil hl12 hv hn0 (by omega) hpB hs0 ⟨(by simp only [size_put, hz_a6]), (by simp only [defers_put, hd_a6]), (by simp [u4]), (by simp [u9]), (by simp [u10]), (by simp [u11]), (by simp [u12]), (by simp [u13])⟩ hm fun b1 W7 f1 m1 => ?_
      refine lt8 hil hl12 f1 fun b2 f2 => ⟨⟨i + 1, by omega, f2, m1⟩, ?_⟩
      rw [f2.2.2.2.2.2.2.2, u13]
      simp only [intOf]
      omega
    · obtain rfl : i = l.length := by omega
      refine wpIn_cond (t := false) (by simp [hz_a6]) (wpIn_exit ?_)
      generalize hA : Act.put _ _ _ = b0
      have hz_b0 : b0.tmps.size = 171 := by rw [← hA]; simp only [size_put, hz_a6]
      have q4 : b0.eval (.tmp 4) = .pointer (some ⟨b3, 0, none⟩) := by rw [← hA]; exact (by simp [u4])
      have q9 : b0.eval (.tmp 9) = .int .i64 n_ := by rw [← hA]; exact (by simp [u9])
      have q10 : b0.eval (.tmp 10) = .int .i64 on := by rw [← hA]; exact (by simp [u10])
      have q11 : b0.eval (.tmp 11) = .int .i64 ow := by rw [← hA]; exact (by simp [u11])
      have q12 : b0.eval (.tmp 12) = .pointer (some ⟨px, 0, none⟩) := by rw [← hA]; exact (by simp [u12])
      have hd_b0 : b0.defers = [] := by rw [← hA]; simp only [defers_put, hd_a6]
      clear hA
      show lt_b.wpIn _ _ _ _ _ _
      obtain ⟨hB1, wb, wx, ho⟩ := hm
      rw [laterTo_all] at ho
      obtain ⟨l2, e2⟩ : ∃ l2, l2 = l.map (later n_) := ⟨_, rfl⟩
      have hll : l2.length = l.length := by rw [e2, List.length_map]
      rw [← e2, ← hll] at ho
      rw [← hll] at wx
      obtain ⟨A2', c2', e5, hx⟩ := sales_of_owns73 ho
      cases e5
      have hs : SalesAt W6 W6.heap.size A l := (hs0.below hB1 (Nat.le_refl _)).more (by have := wb.lt; omega)
      have hlt := wb.lt
      unfold lt_b
      by_cases hf2 : fault o t l2 = 0
      · by_cases h100 : 100 < on + n_
        · skip
          refine wpIn_seq (wpIn_seq (region_p 9 ?_))
          intro K hK
          refine ListK.load (i := 0) (p := ⟨px, 0, none⟩) (v := .agg #[.int .i64 o, .int .i64 t, .slice A2 l2.length c2]) rfl (by simp [q12]) (ld24 ⟨wx.cell 0, wx.cell 1, wx.cell 2⟩) ?_
          refine ListK.call (i := 1) (vs := #[.agg #[.int .i64 o, .int .i64 t, .slice A2 l2.length c2]]) rfl (enters_of Try.func21 (by kernel_rfl) rfl) (by simp [hz_b0]) (((lawFault_any o t A2 l2 c2 W6 (by omega) hx)).mono ?_)
          rintro _ W7 ⟨rfl, hb_f1⟩
          have hL_f1 := hB1.trans (hb_f1.mono (by have := hB1.size; omega))
          replace hs := (hs.below hb_f1 (Nat.le_refl _)).more hb_f1.size
          replace hx := (hx.below hb_f1 (Nat.le_refl _)).more hb_f1.size
          replace wb := wb.below hb_f1 wb.lt
          replace wx := wx.below hb_f1 wx.lt
          replace hB1 := hL_f1
          replace hlt : b3 < W7.heap.size := wb.lt
          refine ⟨_, rfl, ?_⟩
          refine ListK.bin (i := 2) (u := .int .i64 (fault o t l2)) (u' := .int .i64 0) (v := .bool false) rfl (by simp [hz_b0]) (by simp) (nqF hf2 _) ?_
          refine ListK.move (i := 3) (v := .bool false) rfl (by simp [hz_b0]) ?_
          refine ListK.move (i := 4) (v := .int .i64 on) rfl (by simp [q10]) ?_ (hw := wanted_g (e := 78) (b' := false) rfl (by simp [hz_b0]) rfl)
          refine ListK.move (i := 5) (v := .int .i64 n_) rfl (by simp [q9]) ?_ (hw := wanted_g (e := 78) (b' := false) rfl (by simp [hz_b0]) rfl)
          refine ListK.bin (i := 6) (u := .int .i64 on) (u' := .int .i64 n_) (v := .int .i64 (on + n_)) rfl (by simp [hz_b0]) (by simp [hz_b0]) (add3 (by omega) (by omega) _) ?_ (hw := wanted_g (e := 78) (b' := false) rfl (by simp [hz_b0]) rfl)
          refine ListK.bin (i := 7) (u := .int .i64 (on + n_)) (u' := .int .i64 100) (v := .bool true) rfl (by simp [hz_b0]) (by simp) (gtrT h100 _) ?_ (hw := wanted_g (e := 78) (b' := false) rfl (by simp [hz_b0]) rfl)
          refine ListK.pick (i := 8) (b := false) (v := .bool true) rfl (by simp [hz_b0]) (by simp [hz_b0]) ?_
          refine ListK.done (hK _ _ ?_)
          clear hK K
          refine wpIn_cond (t := true) (by simp [hz_b0]) ?_
          generalize hA : Act.put _ _ _ = b1
          have hz_b1 : b1.tmps.size = 171 := by rw [← hA]; simp only [size_put, hz_b0]
          have r4 : b1.eval (.tmp 4) = .pointer (some ⟨b3, 0, none⟩) := by rw [← hA]; exact (by simp [q4])
          have hd_b1 : b1.defers = [] := by rw [← hA]; simp only [defers_put, hd_b0]
          clear hA
          refine wpIn_seq (region_p 2 ?_)
          intro K hK
          refine ListK.call (i := 0) (vs := #[]) rfl (enters_of Try.func16 (by kernel_rfl) rfl) (by simp) (((wakes_any W7)).mono ?_)
          rintro _ W8 ⟨rfl, hb_t3⟩
          have hL_t3 := hB1.trans (hb_t3.mono (by have := hB1.size; omega))
          replace hs := (hs.below hb_t3 (Nat.le_refl _)).more hb_t3.size
          replace hx := (hx.below hb_t3 (Nat.le_refl _)).more hb_t3.size
          replace wb := wb.below hb_t3 wb.lt
          replace wx := wx.below hb_t3 wx.lt
          replace hB1 := hL_t3
          replace hlt : b3 < W8.heap.size := wb.lt
          refine ⟨_, rfl, ?_⟩
          refine ListK.assign (i := 1) (v := .bool true) rfl (by simp [hz_b1]) ?_
          refine ListK.done (hK _ _ (wpIn_ret ?_))
          exact hret _ _ (by simp only [defers_put, hd_b1]) (by simp [hz_b1]) hB1
        · skip
          refine wpIn_seq (wpIn_seq (region_p 9 ?_))
          intro K hK
          refine ListK.load (i := 0) (p := ⟨px, 0, none⟩) (v := .agg #[.int .i64 o, .int .i64 t, .slice A2 l2.length c2]) rfl (by simp [q12]) (ld24 ⟨wx.cell 0, wx.cell 1, wx.cell 2⟩) ?_
          refine ListK.call (i := 1) (vs := #[.agg #[.int .i64 o, .int .i64 t, .slice A2 l2.length c2]]) rfl (enters_of Try.func21 (by kernel_rfl) rfl) (by simp [hz_b0]) (((lawFault_any o t A2 l2 c2 W6 (by omega) hx)).mono ?_)
          rintro _ W7 ⟨rfl, hb_f1⟩
          have hL_f1 := hB1.trans (hb_f1.mono (by have := hB1.size; omega))
          replace hs := (hs.below hb_f1 (Nat.le_refl _)).more hb_f1.size
          replace hx := (hx.below hb_f1 (Nat.le_refl _)).more hb_f1.size
          replace wb := wb.below hb_f1 wb.lt
          replace wx := wx.below hb_f1 wx.lt
          replace hB1 := hL_f1
          replace hlt : b3 < W7.heap.size := wb.lt
          refine ⟨_, rfl, ?_⟩
          refine ListK.bin (i := 2) (u := .int .i64 (fault o t l2)) (u' := .int .i64 0) (v := .bool false) rfl (by simp [hz_b0]) (by simp) (nqF hf2 _) ?_
          refine ListK.move (i := 3) (v := .bool false) rfl (by simp [hz_b0]) ?_
          refine ListK.move (i := 4) (v := .int .i64 on) rfl (by simp [q10]) ?_ (hw := wanted_g (e := 78) (b' := false) rfl (by simp [hz_b0]) rfl)
          refine ListK.move (i := 5) (v := .int .i64 n_) rfl (by simp [q9]) ?_ (hw := wanted_g (e := 78) (b' := false) rfl (by simp [hz_b0]) rfl)
          refine ListK.bin (i := 6) (u := .int .i64 on) (u' := .int .i64 n_) (v := .int .i64 (on + n_)) rfl (by simp [hz_b0]) (by simp [hz_b0]) (add3 (by omega) (by omega) _) ?_ (hw := wanted_g (e := 78) (b' := false) rfl (by simp [hz_b0]) rfl)
          refine ListK.bin (i := 7) (u := .int .i64 (on + n_)) (u' := .int .i64 100) (v := .bool false) rfl (by simp [hz_b0]) (by simp) (gtrF h100 _) ?_ (hw := wanted_g (e := 78) (b' := false) rfl (by simp [hz_b0]) rfl)
          refine ListK.pick (i := 8) (b := false) (v := .bool false) rfl (by simp [hz_b0]) (by simp [hz_b0]) ?_
          refine ListK.done (hK _ _ ?_)
          clear hK K
          refine wpIn_cond (t := false) (by simp [hz_b0]) (wpIn_skip ?_)
          generalize hA : Act.put _ _ _ = b1
          have hz_b1 : b1.tmps.size = 171 := by rw [← hA]; simp only [size_put, hz_b0]
          have r4 : b1.eval (.tmp 4) = .pointer (some ⟨b3, 0, none⟩) := by rw [← hA]; exact (by simp [q4])
          have r9 : b1.eval (.tmp 9) = .int .i64 n_ := by rw [← hA]; exact (by simp [q9])
          have r10 : b1.eval (.tmp 10) = .int .i64 on := by rw [← hA]; exact (by simp [q10])
          have r11 : b1.eval (.tmp 11) = .int .i64 ow := by rw [← hA]; exact (by simp [q11])
          have r12 : b1.eval (.tmp 12) = .pointer (some ⟨px, 0, none⟩) := by rw [← hA]; exact (by simp [q12])
          have hd_b1 : b1.defers = [] := by rw [← hA]; simp only [defers_put, hd_b0]
          clear hA
          show lt_c.wpIn _ _ _ _ _ _
          have hv2 := valid_of_fault hf2
          have hn1 : LtN W b3 px o t A A2 l l2 c c2 W7 := ⟨hB1, wb, wx, hs, hx⟩
          clear hB1 wb wx hs hx ho
          unfold lt_c
          refine wpIn_seq (wpIn_seq (region_p 1 ?_))
          intro K hK
          refine ListK.assign (i := 0) (v := .int .i64 0) rfl (by simp) ?_
          refine ListK.done (hK _ _ ?_)
          clear hK K
          refine wpIn_block (wpIn_loop (fun a W' => ∃ i, i ≤ l.length ∧ LtF n_ on ow b3 px 14 i a ∧ LtN W b3 px o t A A2 l l2 c c2 W') (fun a _ => l.length - (intOf (a.eval (.tmp 14))).toNat)
            ⟨0, Nat.zero_le _, ⟨(by simp only [size_put, hz_b1]), (by simp only [defers_put, hd_b1]), (by simp [r4]), (by simp [r9]), (by simp [r10]), (by simp [r11]), (by simp [r12]), (by simp [hz_b1])⟩, hn1⟩ ?_)
          rintro d1 W8 ⟨i, hi, hf, hm⟩
          obtain ⟨hz_d1, hd_d1, u4, u9, u10, u11, u12, u14⟩ := hf
          have wb := hm.2.1
          refine wpIn_seq (wpIn_seq (region_p 5 ?_))
          intro K hK
          refine ListK.move (i := 0) (v := .int .i64 i) rfl (by simp [u14]) ?_
          refine ListK.field (i := 1) (u := .pointer (some ⟨b3, 0, none⟩)) (v := .pointer (some ⟨b3, 2, none⟩)) rfl (by simp [u4]) (fa24_2 _) ?_
          refine ListK.load (i := 2) (p := ⟨b3, 2, none⟩) (v := .slice A l.length c) rfl (by simp [hz_d1]) (ld22 (wb.cell 2)) ?_
          refine ListK.len (i := 3) (u := .slice A l.length c) (v := .int .i64 l.length) rfl (by simp [hz_d1]) (ln22 _ _ _ _ _) rfl ?_
          refine ListK.bin (i := 4) (u := .int .i64 i) (u' := .int .i64 (l.length : Int)) (v := .bool (decide (i < (l.length : Int)))) rfl (by simp [hz_d1]) (by simp [hz_d1]) (lss3 _) ?_
          refine ListK.done (hK _ _ ?_)
          clear hK K
          by_cases hil : i < l.length
          · refine wpIn_cond (t := true) (by simp [hz_d1]; omega) (wpIn_skip ?_)
            show (Code.seq _ _).wpIn _ _ _ _ _ _
            refine wpIn_seq (wpIn_block ?_)
            refine lt15 (n_ := n_) (on := on) (ow := ow) (px := px) hil hl12 hv hv2 e2 hn0 hb3 ⟨(by simp only [size_put, hz_d1]), (by simp only [defers_put, hd_d1]), (by simp [u4]), (by simp [u9]), (by simp [u10]), (by simp [u11]), (by simp [u12]), (by simp [u14])⟩ hm fun b1 W9 f1 m1 => ?_
            refine lt14 hil hl12 f1 fun b2 f2 => ⟨⟨i + 1, by omega, f2, m1⟩, ?_⟩
            rw [f2.2.2.2.2.2.2.2, u14]
            simp only [intOf]
            omega
          · obtain rfl : i = l.length := by omega
            refine wpIn_cond (t := false) (by simp [hz_d1]) (wpIn_exit ?_)
            show lt_d.wpIn _ _ _ _ _ _
            exact lt19 (s := 14) (n_ := n_) (on := on) (ow := ow) (px := px) (i := l.length) hl12 hv hv2 e2 hn0 ⟨hon0.1, by omega⟩ how0 hb3 ⟨(by simp only [size_put, hz_d1]), (by simp only [defers_put, hd_d1]), (by simp [u4]), (by simp [u9]), (by simp [u10]), (by simp [u11]), (by simp [u12]), (by simp [u14])⟩ hm hret
      · skip
        refine wpIn_seq (wpIn_seq (region_p 9 ?_))
        intro K hK
        refine ListK.load (i := 0) (p := ⟨px, 0, none⟩) (v := .agg #[.int .i64 o, .int .i64 t, .slice A2 l2.length c2]) rfl (by simp [q12]) (ld24 ⟨wx.cell 0, wx.cell 1, wx.cell 2⟩) ?_
        refine ListK.call (i := 1) (vs := #[.agg #[.int .i64 o, .int .i64 t, .slice A2 l2.length c2]]) rfl (enters_of Try.func21 (by kernel_rfl) rfl) (by simp [hz_b0]) (((lawFault_any o t A2 l2 c2 W6 (by omega) hx)).mono ?_)
        rintro _ W7 ⟨rfl, hb_f1⟩
        have hL_f1 := hB1.trans (hb_f1.mono (by have := hB1.size; omega))
        replace hs := (hs.below hb_f1 (Nat.le_refl _)).more hb_f1.size
        replace hx := (hx.below hb_f1 (Nat.le_refl _)).more hb_f1.size
        replace wb := wb.below hb_f1 wb.lt
        replace wx := wx.below hb_f1 wx.lt
        replace hB1 := hL_f1
        replace hlt : b3 < W7.heap.size := wb.lt
        refine ⟨_, rfl, ?_⟩
        refine ListK.bin (i := 2) (u := .int .i64 (fault o t l2)) (u' := .int .i64 0) (v := .bool true) rfl (by simp [hz_b0]) (by simp) (nqT hf2 _) ?_
        refine ListK.move (i := 3) (v := .bool true) rfl (by simp [hz_b0]) ?_
        refine ListK.passG (i := 4) (e := 78) (b' := true) rfl rfl (by simp [hz_b0]) rfl ?_
        refine ListK.passG (i := 5) (e := 78) (b' := true) rfl rfl (by simp [hz_b0]) rfl ?_
        refine ListK.passG (i := 6) (e := 78) (b' := true) rfl rfl (by simp [hz_b0]) rfl ?_
        refine ListK.passG (i := 7) (e := 78) (b' := true) rfl rfl (by simp [hz_b0]) rfl ?_
        refine ListK.pick (i := 8) (b := true) (v := .bool true) rfl (by simp [hz_b0]) (by simp) ?_
        refine ListK.done (hK _ _ ?_)
        clear hK K
        refine wpIn_cond (t := true) (by simp [hz_b0]) ?_
        generalize hA : Act.put _ _ _ = b1
        have hz_b1 : b1.tmps.size = 171 := by rw [← hA]; simp only [size_put, hz_b0]
        have r4 : b1.eval (.tmp 4) = .pointer (some ⟨b3, 0, none⟩) := by rw [← hA]; exact (by simp [q4])
        have hd_b1 : b1.defers = [] := by rw [← hA]; simp only [defers_put, hd_b0]
        clear hA
        refine wpIn_seq (region_p 2 ?_)
        intro K hK
        refine ListK.call (i := 0) (vs := #[]) rfl (enters_of Try.func16 (by kernel_rfl) rfl) (by simp) (((wakes_any W7)).mono ?_)
        rintro _ W8 ⟨rfl, hb_t3⟩
        have hL_t3 := hB1.trans (hb_t3.mono (by have := hB1.size; omega))
        replace hs := (hs.below hb_t3 (Nat.le_refl _)).more hb_t3.size
        replace hx := (hx.below hb_t3 (Nat.le_refl _)).more hb_t3.size
        replace wb := wb.below hb_t3 wb.lt
        replace wx := wx.below hb_t3 wx.lt
        replace hB1 := hL_t3
        replace hlt : b3 < W8.heap.size := wb.lt
        refine ⟨_, rfl, ?_⟩
        refine ListK.assign (i := 1) (v := .bool true) rfl (by simp [hz_b1]) ?_
        refine ListK.done (hK _ _ (wpIn_ret ?_))
        exact hret _ _ (by simp only [defers_put, hd_b1]) (by simp [hz_b1]) hB1
  · have hrdy : (decide (l.length ≤ 12) && decide (fault o t l = 0)) = false := by
      rw [Bool.and_eq_false_iff, decide_eq_false_iff_not, decide_eq_false_iff_not]
      exact Decidable.not_and_iff_or_not.1 hready
    rw [hrdy] at hrd
    refine wpIn_seq (wpIn_seq (region_p 3 ?_))
    intro K hK
    refine ListK.load (i := 0) (p := ⟨b3, 0, none⟩) (v := .agg #[.int .i64 o, .int .i64 t, .slice A l.length c]) rfl (by simp [u4]) (ld24 ⟨wb.cell 0, wb.cell 1, wb.cell 2⟩) ?_
    refine ListK.call (i := 1) (vs := #[.agg #[.int .i64 o, .int .i64 t, .slice A l.length c]]) rfl (enters_of Try.func41 (by kernel_rfl) rfl) (by simp [hz_a1]) (((hrd)).mono ?_)
    rintro _ W2 ⟨rfl, hb_t1⟩
    clear hrd
    have hL_t1 := hB1.trans (hb_t1.mono (by have := hB1.size; omega))
    replace hs := (hs.below hb_t1 (Nat.le_refl _)).more hb_t1.size
    replace wb := wb.below hb_t1 wb.lt
    replace hB1 := hL_t1
    replace hlt : b3 < W2.heap.size := wb.lt
    refine ⟨_, rfl, ?_⟩
    refine ListK.un (i := 2) (u := .bool false) (v := .bool true) rfl (by simp [hz_a1]) (not4 _ _) ?_
    refine ListK.done (hK _ _ ?_)
    clear hK K
    refine wpIn_cond (t := true) (by simp [hz_a1]) ?_
    generalize hA : Act.put _ _ _ = a2
    have hz_a2 : a2.tmps.size = 171 := by rw [← hA]; simp only [size_put, hz_a1]
    have v4 : a2.eval (.tmp 4) = .pointer (some ⟨b3, 0, none⟩) := by rw [← hA]; exact (by simp [u4])
    have hd_a2 : a2.defers = [] := by rw [← hA]; simp only [defers_put, hd_a1]
    clear hA
    refine wpIn_seq (region_p 2 ?_)
    intro K hK
    refine ListK.call (i := 0) (vs := #[]) rfl (enters_of Try.func16 (by kernel_rfl) rfl) (by simp) (((wakes_any W2)).mono ?_)
    rintro _ W3 ⟨rfl, hb_t2⟩
    have hL_t2 := hB1.trans (hb_t2.mono (by have := hB1.size; omega))
    replace hs := (hs.below hb_t2 (Nat.le_refl _)).more hb_t2.size
    replace wb := wb.below hb_t2 wb.lt
    replace hB1 := hL_t2
    replace hlt : b3 < W3.heap.size := wb.lt
    refine ⟨_, rfl, ?_⟩
    refine ListK.assign (i := 1) (v := .bool true) rfl (by simp [hz_a2]) ?_
    refine ListK.done (hK _ _ (wpIn_ret ?_))
    exact hret _ _ (by simp only [defers_put, hd_a2]) (by simp [hz_a2]) hB1
end Go.Proofs.Ytfcnombmphophaa
